import Derived.Test.YtgphljokbodciaaGreatS32
namespace Go.Proofs.YtgphljokbodciaaGreat
set_option linter.unusedVariables false
set_option linter.unusedSimpArgs false
open Go.RowKit
structure iU (P:Program) (w0:World) (E:Env):Prop where
 seq:∀ t a b e,E.seq t a b=some e->KE P t a b e
 key:∀ kt v es,E.F6 kt v=true->(∀ p ∈ es,E.F6 kt p.1=true)->vo P kt v es (E.WJ v)
 Ls:∀ g v,E.Ls g=some v->∀ h first cap,c_ (first++cap)->ah P w0 h (first++cap) (.bc [])->ah P w0 g [.fn (.func h) first cap] v
 zn:∀ g c n,E.zn g=some (c,n)->aF P g c n
 ext:∀ g aZ9 r,E.ext g aZ9=some r->ah P w0 g aZ9 r/\c_ aZ9
 nat:∀ g aZ9 v,E.nat g aZ9=some v->∃ xs:List Value,aZ9=xs.map .v/\∀ w:World,(callFunc g xs.toArray).run P w=.ok (.value v) w
def pQ (P:Program) (w0:World) (rc:Rec):Prop:=∀ rd n c F s ex F' s',rc rd n c F s=.dn ex F' s'->dX s s'/\∀ J J',i_ P w0 s s' J J'->∀ Q,Q ex (cA F') (den J' s')->ck P w0 rd n Q c (cA F) (den J s)
section
variable {P:Program}{w0:World}{E:Env}{rc:Rec}{s s':XS}{r:AV}{J J':FJ}
theorem i_.H7 (h:s'.lg=s.lg):i_ P w0 s s' J J:=⟨[],h,.nil J⟩
theorem AO {k sz fz:Nat}{rows:List (List AV)}{ex:Bool}(h:(eI s).get k=some (.arr sz rows fz ex)):(den J s).get k=some (.arr sz rows fz ex):=(dA h).1
theorem sr {f:Nat->AV}:∀ {qs:List QR}{l:List AV},mE f (eI s) qs=some l->mE f (den J s) qs=some l
 |[],l,h=>h
 |.t n::qs,l,h=>by
  simp only [mE] at h ⊢
  split at h
  ·rename_i l' hl
   rw [sr hl]
   exact h
  ·cases h
 |.cell k n::qs,l,h=>by
  simp only [mE] at h ⊢
  split at h
  ·rename_i a l' ha hl
   rw [sr hl,y6 ha]
   exact h
  ·cases h
theorem D2:∀ {ds:List DE}{s s':XS},Cq s ds=some s'->(∀ J,vT (den J s) ds=true/\iV (den J s) ds=den J s')/\dX s s'/\s'.lg=s.lg
 |[],s,s',h=>by obtain rfl:=Option.some.inj h;exact⟨fun J=>⟨rfl,rfl⟩,.refl _,rfl⟩
 |.del _ _ _::ds,s,s',h=>by cases h
 |.ob k::ds,s,s',h=>by
  simp only [Cq] at h
  split at h
  ·rename_i hk
   obtain⟨h1,h2,h3⟩:=D2 h
   refine⟨fun J=>?_,dX.wr.trans h2,h3⟩
   obtain⟨k1,k2⟩:=dA (J:=J) hk
   simp only [vT,iV,DE.k,k1]
   have:=h1 J
   rwa [kH k2] at this
  ·cases h
theorem D3 {qs:List QR}{ex:Exit}{F:Fr}(h:u4 qs ex F s=some (r,s')):(∀ J,tL qs ex (cA F) (den J s)=some (r,den J s'))/\dX s s'/\s'.lg=s.lg:=by
 unfold u4 at h
 split at h
 ·rename_i s1 he hd
  obtain⟨h1,h2,h3⟩:=D2 hd
  split at h
  ·rename_i a hq
   simp only [Option.some.injEq,Prod.mk.injEq] at h
   obtain⟨rfl,rfl⟩:=h
   refine⟨fun J=>?_,h2,h3⟩
   unfold tL
   simp only [cA,he,(h1 J).1,(h1 J).2,sr hq]
  ·rename_i l bH hq
   simp only [Option.some.injEq,Prod.mk.injEq] at h
   obtain⟨rfl,rfl⟩:=h
   refine⟨fun J=>?_,h2,h3⟩
   unfold tL
   simp only [cA,he,(h1 J).1,(h1 J).2,sr hq]
  ·cases h
 ·cases h
theorem vU {aZ9:List AV}:cA ⟨qd aZ9 0 .nil,[]⟩=⟨kP aZ9,[]⟩:=by
 unfold cA
 rw [Nm]
theorem zt (hE:iU P w0 E) (hs:pQ P w0 rc) {g:Nat}{aZ9:List AV}(h:HV E rc g aZ9=some r):ah P w0 g aZ9 r/\c_ aZ9:=by
 unfold HV at h
 ·split at h
  ·cases h
  ·rename_i c n ht
   split at h
   ·rename_i hn hp
    split at h
    ·rename_i ex F s' hr
     split at h
     ·rename_i r0 s2 hl hf
      obtain⟨h1,h2⟩:=hs _ _ _ _ _ _ _ _ hr
      obtain⟨h3,h4⟩:aX (eI s2) r0 r/\Pure r:=by
       split at h
       ·rename_i hp
        obtain rfl:=Option.some.inj h
        exact⟨.refl _,eJ hp⟩
       ·exact qe h
      have h5:=h2 (fun _ _ _ _=>True) (fun _ _ _ _=>True) (.H7 hl) (nr c.2 fun r' S=>aX S r' r) ⟨r0,_,(D3 hf).1 _,h3.mono fun _ _ _ _ _ h=>AO h⟩
      rw [vU] at h5
      exact⟨(hE.zn _ _ _ ht).aH (Nat.le_of_ble_eq_true hn) h4 h5,uc hp⟩
     ·cases h
    ·cases h
   ·cases h
theorem Lx (hE:iU P w0 E) (hs:pQ P w0 rc) {g:Nat}{aZ9:List AV}{sz len fz:Nat}{rows:List (List AV)}{ex:Bool}(h:WL E rc g aZ9=some (sz,len,rows,fz,ex)) :
  c_ aZ9/\(∀ r ∈ rows,∀ a ∈ r,Pure a)/\∃ k S',aV P w0 g aZ9 ae.none_ (.ob k sz 0 len none) S'/\S'.get k=some (.arr sz rows fz ex):=by
 unfold WL at h
 split at h
 ·cases h
 ·rename_i c n ht
  split at h
  ·rename_i hn hp
   split at h
   ·rename_i xq F s' hr
    split at h
    ·rename_i k sz1 Hl s2 hl hf
     split at h
     ·rename_i sz' aiC WW ex2 hk
      split at h
      ·rename_i hc
       simp only [Bool.and_eq_true] at hc
       have jX:=Nat.eq_of_beq_eq_true hc.1
       subst jX
       simp only [Option.some.injEq,Prod.mk.injEq] at h
       obtain⟨rfl,rfl,rfl,rfl,rfl⟩:=h
       obtain⟨h1,h2⟩:=hs _ _ _ _ _ _ _ _ hr
       obtain⟨J,hJ⟩:∃ J:FJ,J=fun _ _ _ _=>True:=⟨_,rfl⟩
       have h5:=h2 J J (.H7 hl) (nr c.2 fun r1 S1=>r1=.ob k sz' 0 Hl none/\S1=den J s2) ⟨_,_,(D3 hf).1 _,rfl,rfl⟩
       rw [vU] at h5
       obtain⟨r1,S1,k1,rfl,rfl⟩:=(hE.zn _ _ _ ht).A7 (R:=fun r1 S1=>r1=.ob k sz' 0 Hl none/\S1=den J s2) (S:=den J WK) (Nat.le_of_ble_eq_true hn) h5
       exact⟨uc hp,fun r hr a ha=>eJ (ku hc.2 r hr a ha),k,_,k1,AO hk⟩
      ·cases h
     ·cases h
    ·cases h
   ·cases h
  ·cases h
theorem sW:∀ {l m:List AV},c_ (l++m)->c_ l/\c_ m
 |[],m,h=>⟨trivial,h⟩
 |a::l,m,h=>⟨⟨h.1,(sW h.2).1⟩,(sW h.2).2⟩
theorem ss (hE:iU P w0 E) (hs:pQ P w0 rc) {g:Nat}{aZ9:List AV}(h:DY E rc g aZ9=some r):ah P w0 g aZ9 r/\c_ aZ9:=by
 unfold DY at h
 split at h
 ·rename_i r' he
  obtain rfl:=Option.some.inj h
  exact hE.ext _ _ _ he
 ·split at h
  ·rename_i v hv
   split at h
   ·rename_i hh first cap
    split at h
    ·rename_i h1
     obtain rfl:=Option.some.inj h
     obtain⟨k1,k2⟩:=zt hE hs h1
     obtain⟨k3,k4⟩:=sW k2
     exact⟨hE.Ls _ _ hv _ _ _ k2 k1,.fn (c_.all k3) (c_.all k4),trivial⟩
    ·cases h
   ·cases h
  ·exact zt hE hs h
theorem uo:∀ {m:Nat}{a:AV},HW m a=true->qH a
 |0,a,h=>by cases h
 |m+1,a,h=>by
  cases a with
  |v x=>exact .v
  |agg l=>exact .agg fun a ha=>uo (dH h a ha)
  |bc l=>exact .bc fun a ha=>uo (dH h a ha)
  |_=>cases h
theorem BG (hE:iU P w0 E) (hs:pQ P w0 rc) {g:Nat}{aZ9:List AV}(h:Ru E rc g aZ9 s=some (r,s')):(∀ J J',i_ P w0 s s' J J'->aV P w0 g aZ9 (den J s) r (den J' s'))/\dX ⟨s.m,s.nx,s.nx,s.yk,s.an,s.lg⟩ s':=by
 unfold Ru at h
 split at h
 ·cases h
 ·rename_i c n ht
  split at h
  ·rename_i hn
   split at h
   ·rename_i ex F s1 hr
    obtain⟨h1,h2⟩:=hs _ _ _ _ _ _ _ _ hr
    obtain⟨f1,f2,f3⟩:=D3 h
    refine⟨fun J J' hc=>?_,h1.trans f2⟩
    have jX:i_ P w0 ⟨s.m,s.nx,s.nx,s.yk,s.an,s.lg⟩ s1 J J':=by
     obtain⟨L,hL,hJ⟩:=hc
     exact⟨L,by rw [<-f3];exact hL,hJ⟩
    have h5:=h2 J J' jX (nr c.2 fun r1 S1=>r1=r/\S1=den J' s') ⟨r,_,f1 J',rfl,rfl⟩
    rw [vU] at h5
    obtain⟨r1,S1,k1,rfl,rfl⟩:=(hE.zn _ _ _ ht).A7 (R:=fun r1 S1=>r1=r/\S1=den J' s') (S:=den J s) (Nat.le_of_ble_eq_true hn) h5
    exact k1
   ·cases h
  ·cases h
theorem Ue {k:Nat}(h:dX s s') (hk:k < s'.lw):(den J s').get k=(den J s).get k:=by
 show (match ee s'.yk k with|true=>some (Ob.fo J)|false=>gB s' k)=(match ee s.yk k with|true=>some (Ob.fo J)|false=>gB s k)
 rw [h.yk,h.aC k hk]
theorem E8 (hE:iU P w0 E) (hs:pQ P w0 rc) {fw:Bool}{gq:QO}{mh:List QO}{f:Nat->AV}{df:List DE}(h:wu E rc fw (gq.ev f) (mh.map (·.ev f)) s=some (r,s')) :
  (∀ J J',i_ P w0 s s' J J'->ad P w0 false (.call gq mh) ⟨f,df⟩ (den J s) r (den J' s'))/\dX s s':=by
 unfold wu at h
 split at h
 ·rename_i k hk
  split at h
  ·rename_i hy
   have hy:=QY hy
   split at h
   ·rename_i rz s1 hf
    obtain⟨N,n1,n2,n3,n4,n5,n6,n7,n8,n9⟩:=y8 hf
    simp only [Option.some.injEq] at h
    have key:∀ (bt:Bool) (a':Nat),(.v (.bool bt),⟨s1.m,s1.nx,s1.lw,s1.yk,a',(rz,bt)::s1.lg⟩)=(r,s')->(∀ J J',i_ P w0 s s' J J'->ad P w0 false (.call gq mh) ⟨f,df⟩ (den J s) r (den J' s'))/\dX s s':=by
     intro bt a' e
     simp only [Prod.mk.injEq] at e
     obtain⟨rfl,rfl⟩:=e
     refine⟨fun J J' hc=>?_,n5.trans ⟨Nat.le_refl _,Nat.le_refl _,rfl,⟨[(rz,bt)],rfl⟩,fun _ _=>rfl⟩⟩
     obtain⟨L,hL,hJ⟩:=hc
     have hL:(rz,bt)::s1.lg=L++s.lg:=hL
     rw [n6] at hL
     have WX:[(rz,bt)]=L:=List.append_cancel_right (bs:=s.lg) hL
     subst WX
     cases hJ with
     |cons h1 t =>
      cases t
      have hg:(den J s1).get k=some (.fo J):=by
       show (match ee s1.yk k with|true=>some (Ob.fo J)|false=>gB s1 k)=_
       rw [n8,hy]
       simp only [ee,Nat.beq_refl]
      have hd:∀ J':FJ,den J' ⟨s1.m,s1.nx,s1.lw,s1.yk,a',(rz,bt)::s1.lg⟩=(den J s1).set k (some (.fo J')):=by
       intro J'
       unfold den ae.set
       simp only [ae.mk.injEq,and_true]
       funext j
       by_cases e:j=k
       ·subst e
        rw [aG,n8,hy]
        simp only [ee,Nat.beq_refl]
       ·rw [aN _ _ e,n8,hy]
        have:ee (some k) j=false:=by
         cases hb:ee (some k) j with
         |false=>rfl
         |true=>exact absurd (Option.some.inj (QY hb)).symm e
        rw [this]
        rfl
      rw [hd]
      have hR:=nz.Re (S:=den J s) (N:=N) (n1 J) (Nat.le_of_eq (by show s.nx=s1.nx;rw [n7])) (n2 J) n3 (h1 _ _ hg)
      intro n o iZ
      obtain⟨c,u,ho,hu,rfl,rfl⟩:=lj iZ
      rw [lO (α:=⟨f,df⟩)] at hR
      rw [aU (α:=⟨f,df⟩)] at hk
      exact wE ho hu hk hR
    unfold ylX at h
    split at h
    ·exact key _ _ h
    ·exact key _ _ h
   ·cases h
  ·cases h
 ·split at h
  ·cases h
  ·rename_i g aZ9 bL
   split at h
   ·rename_i v hv
    split at h
    ·rename_i x WY
     simp only [Option.some.injEq,Prod.mk.injEq] at h
     obtain⟨rfl,rfl⟩:=h
     obtain⟨xs,tw,cu⟩:=hE.nat _ _ _ hv
     refine⟨fun J J' hc=>?_,.refl _⟩
     obtain rfl:=hc.same rfl
     have D4:x=.func (.func g) #[] #[]/\aZ9=mh.map (·.ev f):=by
      rw [WY] at bL
      unfold e7 at bL
      split at bL
      ·rename_i g' a b he
       split at bL
       ·rename_i e1 e2
        simp only [Option.some.injEq,Prod.mk.injEq] at bL
        obtain⟨rfl,rfl⟩:=bL
        injection he with he
        obtain⟨a⟩:=a
        obtain⟨b⟩:=b
        simp only at e1 e2
        subst e1 e2
        exact⟨he,rfl⟩
       ·cases bL
      ·rename_i he;cases he
      ·cases bL
     rw [D4.1] at WY
     exact ad.ext (α:=⟨f,df⟩) WY (by show mh.map (·.ev f)=_;rw [<-D4.2];exact tw) cu
    ·cases h
   ·split at h
    ·rename_i r' hp
     simp only [Option.some.injEq,Prod.mk.injEq] at h
     obtain⟨rfl,rfl⟩:=h
     split at hp
     ·refine⟨fun J J' hc=>?_,.refl _⟩
      obtain rfl:=hc.same rfl
      obtain⟨h1,h2⟩:=hE.ext _ _ _ hp
      exact ad.ag bL h1 h2
     ·refine⟨fun J J' hc=>?_,.refl _⟩
      obtain rfl:=hc.same rfl
      unfold zcX at hp
      split at hp
      ·obtain⟨h1,h2⟩:=ss hE hs hp
       exact ad.ag bL h1 h2
      ·split at hp
       ·rename_i rz hf
        split at hp
        ·rename_i r2 ca
         split at hp
         ·rename_i hsc
          obtain rfl:=Option.some.inj hp
          obtain⟨h1,h2⟩:=ss hE hs ca
          have h3:=(vA hf).1
          refine ad.wv bL h1 h2 (uo hsc) ?_
          have mono:∀ {l l':List AV},fE (eI s) l l'->fE (den J' s) l l':=by
           intro l
           induction l with
           |nil=>intro l' h;cases l' with|nil=>trivial|cons=>exact h.elim
           |cons a l ih=>intro l' h;cases l' with|nil=>exact h.elim|cons b l'=>exact⟨h.1.mono fun _ _ _ _ _ h=>AO h,ih h.2⟩
          exact mono h3
         ·cases hp
        ·cases hp
       ·cases hp
    ·split at h
     ·rename_i r1 s1 hw
      obtain⟨h1,h2⟩:=BG hE hs hw
      simp only [Option.some.injEq,Prod.mk.injEq] at h
      obtain⟨rfl,rfl⟩:=h
      refine⟨fun J J' hc=>ad.call bL (h1 J J' hc) (fun e=>by cases e),⟨Nat.min_le_left _ _,h2.nx,h2.yk,h2.lg,fun k hk=>h2.aC k (Nat.lt_of_lt_of_le hk (Nat.min_le_right _ _))⟩⟩
     ·cases h
theorem BH (hE:iU P w0 E) {dr:Bool}{q:dz}{f:Nat->AV}{df:List DE}{S:ae}(h:Lt E q f=some r):ad P w0 dr q ⟨f,df⟩ S r S:=by
 unfold Lt at h
 split at h
 ·split at h
  ·rename_i a b ha hb
   split at h
   ·rename_i e he
    obtain rfl:=Option.some.inj h
    exact ad.eqs ha hb (hE.seq _ _ _ _ he)
   ·cases h
  ·cases h
 ·cases h
theorem yg {kt:Nat}:∀ {l:List (Value × AV)},DZ E kt l=true->∀ p ∈ l,E.F6 kt p.1=true
 |[],_,a,h=>by cases h
 |b::l,hp,a,h=>by
  simp only [DZ] at hp
  split at hp
  ·rename_i hb
   rcases List.mem_cons.1 h with rfl|h
   ·exact hb
   ·exact yg hp a h
  ·cases hp
theorem H8 (hE:iU P w0 E) (hs:pQ P w0 rc) {fw:Bool}{q:dz}{f:Nat->AV}{df:List DE}(h:D0 E rc fw q f s=some (r,s')):(∀ J J',i_ P w0 s s' J J'->ad P w0 false q ⟨f,df⟩ (den J s) r (den J' s'))/\dX s s':=by
 have other:(match Lt E q f with|some r=>some (r,s)|none=>ry false q f s)=some (r,s')->(∀ J J',i_ P w0 s s' J J'->ad P w0 false q ⟨f,df⟩ (den J s) r (den J' s'))/\dX s s':=fun h=>by
  split at h
  ·rename_i r1 he
   simp only [Option.some.injEq,Prod.mk.injEq] at h
   obtain⟨rfl,rfl⟩:=h
   refine⟨fun J J' hc=>?_,.refl _⟩
   obtain rfl:=hc.same rfl
   exact BH hE he
  obtain⟨h1,h2,h3⟩:=K8 (P:=P) (w0:=w0) (df:=df) h
  refine⟨fun J J' hc=>?_,h2⟩
  obtain rfl:=hc.same h3
  exact h1 J'
 cases q with
 |call g aZ9=>exact E8 hE hs h
 |append sz by_ a b =>
  simp only [D0] at h
  split at h
  ·rename_i r1 ha
   obtain rfl:=Option.some.inj h
   obtain⟨h1,h2,h3⟩:=y7 (P:=P) (w0:=w0) (df:=df) (dr:=false) ha
   refine⟨fun J J' hc=>?_,h2⟩
   obtain rfl:=hc.same h3
   exact h1 J'
  ·split at h
   ·rename_i ex rows ha hm
    simp only [Option.some.injEq,Prod.mk.injEq] at h
    obtain⟨rfl,rfl⟩:=h
    refine⟨fun J J' hc=>?_,.refl _⟩
    obtain rfl:=hc.same rfl
    exact ad.HD ha (ic hm)
   ·rename_i ex rows ha hm
    split at h
    ·rename_i hb
     simp only [Option.some.injEq,Prod.mk.injEq] at h
     obtain⟨rfl,rfl⟩:=h
     refine⟨fun J J' hc=>?_,.refl _⟩
     obtain rfl:=hc.same rfl
     exact ad.aaS ha hb
    ·cases h
   ·cases h
 |eU kt z c x i =>
  simp only [D0] at h
  split at h
  ·rename_i k v hx hi
   split at h
   ·rename_i es hk
    split at h
    ·rename_i hc
     simp only [Bool.and_eq_true] at hc
     simp only [Option.some.injEq,Prod.mk.injEq] at h
     obtain⟨rfl,rfl⟩:=h
     refine⟨fun J J' gK=>?_,.refl _⟩
     obtain rfl:=gK.same rfl
     exact ad.eU hx (dA (J:=J') hk).1 hi (hE.key _ _ _ hc.1 (yg hc.2))
    ·cases h
   ·cases h
  ·cases h
 |k_ kt x i b =>
  simp only [D0] at h
  split at h
  ·rename_i k v hx hi
   split at h
   ·rename_i es hk
    split at h
    ·rename_i hc hn
     simp only [Bool.and_eq_true] at hc
     simp only [Option.some.injEq,Prod.mk.injEq] at h
     obtain⟨rfl,rfl⟩:=h
     refine⟨fun J J' gK=>?_,.wr⟩
     obtain rfl:=gK.same rfl
     obtain⟨ez,dD⟩:=dA (J:=J') hk
     rw [kH dD]
     exact ad.k_ hx ez hi (hE.key _ _ _ hc.1 (yg hc.2)) hn rfl
    ·cases h
   ·cases h
  ·cases h
 |_=>exact other h
theorem BI (hE:iU P w0 E) (hs:pQ P w0 rc) {fw:Bool}{q:dz}{f:Nat->AV}{df:List DE}(h:Rw E rc fw q f s=some (r,s')):(∀ J J',i_ P w0 s s' J J'->ad P w0 false q ⟨f,df⟩ (den J s) r (den J' s'))/\dX s s':=by
 unfold Rw at h
 split at h
 ·rename_i r1 h1
  obtain rfl:=Option.some.inj h
  obtain⟨k1,k2,k3⟩:=HH (P:=P) (w0:=w0) (df:=df) h1
  refine⟨fun J J' hc=>?_,k2⟩
  obtain rfl:=hc.same k3
  exact k1 J'
 ·exact H8 hE hs h
theorem zu {rd:Bool}{n:Nat}{c:QC}{body:Fr->XS->XR}
  (hb:∀ F s ex F' s',body F s=.dn ex F' s'->dX s s'/\∀ J J',i_ P w0 s s' J J'->∀ c1,cw P.toTables n c1=some c->cM P c1=true->cy P w0 rd n c1 (cA F) (den J s) ex (cA F') (den J' s')) :
  ∀ {k:Nat}{F F':Fr}{s s':XS}{ex:Exit},HX body k F s=some (ex,F',s')->dX s s'/\∀ J J',i_ P w0 s s' J J'->∀ c1,cw P.toTables n c1=some c->cM P c1=true->sQ P w0 rd n c1 (cA F) (den J s) ex (cA F') (den J' s')
 |0,t,t',s,s',ex,h=>by cases h
 |k+1,t,t',s,s',ex,h=>by
  simp only [HX] at h
  split at h
  ·rename_i e1 t1 s1 h1
   obtain⟨p1,p2⟩:=hb _ _ _ _ _ h1
   split at h
   ·obtain⟨q1,q2⟩:=zu hb h
    refine⟨p1.trans q1,fun J J' hc c1 jX hd=>?_⟩
    obtain⟨J1,k1,k2⟩:=i_.split p1 q1 hc
    exact sQ.step (p2 _ _ k1 c1 jX hd) (q2 _ _ k2 c1 jX hd)
   ·rename_i bH
    simp only [Option.some.injEq,Prod.mk.injEq] at h
    obtain⟨rfl,rfl,rfl⟩:=h
    exact⟨p1,fun J J' hc c1 jX hd=>sQ.done (p2 _ _ hc c1 jX hd) (fun e=>bH e)⟩
  ·cases h
theorem zw:∀ {ks:List Nat}{s s':XS},HY s ks=some s'->(∀ J,den J s'=⟨F_ (den J s).get ks,s.nx⟩)/\dX s s'/\s'.lg=s.lg/\s'.nx=s.nx
 |[],s,s',h=>by obtain rfl:=Option.some.inj h;exact⟨fun J=>rfl,.refl _,rfl,rfl⟩
 |k::ks,s,s',h=>by
  simp only [HY] at h
  split at h
  ·rename_i s1 h1
   obtain⟨p1,p2,p3,p4⟩:=zw h1
   split at h
   ·rename_i hy
    obtain rfl:=Option.some.inj h
    refine⟨fun J=>?_,p2.trans .wr,p3,p4⟩
    rw [kH hy,p1]
    rfl
   ·cases h
  ·cases h
theorem D5 {W:List (Nat × Option Ob)}{m:Bool}(h:aW s W m=some s'):(∀ J,den J s'=dQ (den J s) W m)/\dX s s'/\s'.lg=s.lg:=by
 unfold aW at h
 split at h
 ·obtain rfl:=Option.some.inj h
  exact⟨fun J=>cO.symm,.refl _,rfl⟩
 ·split at h
  ·rename_i hy
   obtain rfl:=Option.some.inj h
   exact⟨fun J=>by rw [kH hy,dW];rfl,.wr,rfl⟩
  ·cases h
 ·split at h
  ·rename_i hb
   simp only [Bool.and_eq_true,Bool.not_eq_true'] at hb
   have h1:=Nat.eq_of_beq_eq_true hb.1
   subst h1
   obtain rfl:=Option.some.inj h
   exact⟨fun J=>by rw [iO hb.2,dW];rfl,.nw,rfl⟩
  ·cases h
 ·split at h
  ·rename_i o j _ hb
   simp only [Bool.and_eq_true,Bool.not_eq_true'] at hb
   have h1:=Nat.eq_of_beq_eq_true hb.1.1
   subst h1
   obtain rfl:=Option.some.inj h
   exact⟨fun J=>by rw [iO (s:=l5 s _ none) hb.1.2,kH hb.2,dW];rfl,dX.wr.trans .nw,rfl⟩
  ·cases h
 ·cases h
theorem Ly (hE:iU P w0 E) (hs:pQ P w0 rc) {fr:Bool}{q:dz}{f:Nat->AV}{df:List DE}{rs nb:List Nat}{ns:List Nat × List Nat × Bool}(h:Rx E rc fr q f s rs=some (r,ns,nb,s')) :
  (∀ (J:FJ) (B:Nat),(∀ k ∈ rs,k < B)->∃ d:Dt,d.ns=ns/\cj P w0 B q ⟨f,df⟩ (den J s) r d/\den J s'=dQ (den J s) d.W d.m)/\(∀ k ∈ nb,k ∈ rs)/\dX s s'/\s'.lg=s.lg:=by
 have quiet:∀ {q:dz},(match dq q f (eI s) rs with
   |some (r,d,nb)=>(match aW s d.W d.m with|some s'=>some (r,d.ns,nb,s')|none=>none)
   |none=>none)=some (r,ns,nb,s')->(∀ (J:FJ) (B:Nat),(∀ k ∈ rs,k < B)->∃ d:Dt,d.ns=ns/\cj P w0 B q ⟨f,df⟩ (den J s) r d/\den J s'=dQ (den J s) d.W d.m)/\(∀ k ∈ nb,k ∈ rs)/\dX s s'/\s'.lg=s.lg:=fun {q} h=>by
  split at h
  ·rename_i r1 d RD hq
   split at h
   ·rename_i s1 ha
    simp only [Option.some.injEq,Prod.mk.injEq] at h
    obtain⟨rfl,rfl,rfl,rfl⟩:=h
    obtain⟨p1,p2,p3⟩:=D5 ha
    have xf:∀ k ∈ RD,k ∈ rs:=(yh (P:=P) (w0:=w0) (df:=df) (B:=rs.foldr (fun a b=>a+b) 0+1) (fun k hk=>by
     have:∀ l:List Nat,k ∈ l->k<=l.foldr (fun a b=>a+b) 0:=by
      intro l
      induction l with
      |nil=>intro h;cases h
      |cons a l ih =>
       intro h
       rw [List.foldr_cons]
       rcases List.mem_cons.1 h with rfl|h
       ·omega
       ·have:=ih h
        omega
     have:=this rs hk
     omega) hq).2
    refine⟨fun J B fD=>⟨d,rfl,fun n o hr=>?_,p1 J⟩,xf,p2,p3⟩
    obtain⟨k1,k2,k3⟩:=(yh (P:=P) (w0:=w0) (df:=df) fD hq).1 n o hr
    exact⟨k1,fun p hp=>(dA (k2 p hp)).1,fun T hb hT hm=>k3 T hb hT hm⟩
   ·cases h
  ·cases h
 unfold Rx at h
 split at h
 ·rename_i r1 hp
  simp only [Option.some.injEq,Prod.mk.injEq] at h
  obtain⟨rfl,rfl,rfl,rfl⟩:=h
  exact⟨fun J B fD=>⟨⟨[],[],false⟩,rfl,cj.pure fun T=>Bp hp,cO.symm⟩,fun _ h=>h,.refl _,rfl⟩
 split at h
 ·rename_i r1 hp
  simp only [Option.some.injEq,Prod.mk.injEq] at h
  obtain⟨rfl,rfl,rfl,rfl⟩:=h
  exact⟨fun J B fD=>⟨⟨[],[],false⟩,rfl,cj.pure fun T=>BH hE hp,cO.symm⟩,fun _ h=>h,.refl _,rfl⟩
 ·cases q with
  |call g aZ9 =>
   simp only at h
   split at h
   ·rename_i hh rz bL
    split at h
    ·rename_i sz len rows fz ex WZ
     simp only [Option.some.injEq,Prod.mk.injEq] at h
     obtain⟨rfl,rfl,rfl,rfl⟩:=h
     split at WZ
     ·rename_i hy
      obtain⟨k1,k2,k,S1,k3,k4⟩:=Lx hE hs WZ
      refine⟨fun J B fD=>⟨⟨[],[(s.nx,some (.arr sz rows fz ex))],true⟩,rfl,cj.aaT (S:=den J s) bL k1 k3 k4 k2,?_⟩,fun _ h=>h,.nw,rfl⟩
      rw [iO hy,dW]
      rfl
     ·cases WZ
    ·split at h
     ·rename_i r1 hp
      simp only [Option.some.injEq,Prod.mk.injEq] at h
      obtain⟨rfl,rfl,rfl,rfl⟩:=h
      obtain⟨k1,k2⟩:=ss hE hs hp
      exact⟨fun J B fD=>⟨⟨[],[],false⟩,rfl,cj.pure fun T=>ad.ag bL k1 k2,cO.symm⟩,fun _ h=>h,.refl _,rfl⟩
     ·cases h
   ·cases h
  |append sz by_ a b =>
   simp only at h
   split at h
   ·rename_i r1 d ha
    split at h
    ·rename_i s1 hw
     simp only [Option.some.injEq,Prod.mk.injEq] at h
     obtain⟨rfl,rfl,rfl,rfl⟩:=h
     obtain⟨p1,p2,p3⟩:=D5 hw
     exact⟨fun J B fD=>⟨d,rfl,HE ha,p1 J⟩,fun _ h=>h,p2,p3⟩
    ·cases h
   ·cases h
  |_=>exact quiet h
theorem AQ {n:Nat}{c1:Code}{l:List QI}(jX:cw P.toTables n c1=some (.bz false l)) {R:AA->ae->Prop}{E:List PanicEntry->AA->ae->Prop}{β:AA}{T:ae}(hE:∀ ch α S,¬ E ch α S) (h:eg P w0 n false l R E β T) :
  ∃ bN bZ,cy P w0 true n c1 β T .normal bN bZ/\R bN bZ:=by
 obtain⟨id,ops,rfl,_,h3⟩:=BA jX
 obtain⟨aB,S',h5,h6⟩:=(h _ _ h3 0 rfl).resolve_right fun ⟨ch,aB,S',_,h6⟩=>hE _ _ _ h6
 rw [Array.length_toList,<-List.range_eq_range'] at h5
 exact⟨aB,S',cy.region h5,h6⟩
theorem zx (hs:pQ P w0 rc) {n:Nat}{c1 c2:Code}{qa qb:QC}{F F':Fr}{ex:Exit}(h:HZ rc n qa qb F s=.dn ex F' s') :
  dX s s'/\(cw P.toTables n c1=some qa->cw P.toTables n c2=some qb->cM P c2=true->(∀ ch,ex ≠ .panic ch)->∀ J J',i_ P w0 s s' J J'->∃ bN bZ,cy P w0 true n c1 (cA F) (den J s) .normal bN bZ/\Wp P w0 true n c2 (fun e α S=>e=ex/\α=cA F'/\S=den J' s') bN bZ):=by
 unfold HZ at h
 split at h
 ·rename_i l ha
  obtain⟨p1,p2⟩:=hs _ _ _ _ _ _ _ _ h
  refine⟨p1,fun jX gK ey Ga J J' hc=>?_⟩
  have hq:=p2 J J' hc (fun e α S=>e=ex/\α=cA F'/\S=den J' s') ⟨rfl,rfl,rfl⟩
  unfold NR at ha
  split at ha
  ·injection ha with ha;injection ha with _ h2
   subst h2
   obtain⟨bN,bZ,h3,h4⟩:=(hq [] [] rfl 0 rfl).resolve_right fun ⟨ch,aB,S',_,h6⟩=>Ga ch h6.1.symm
   refine⟨bN,bZ,?_,h4 c2 gK ey⟩
   intro F m A g a w hF hR hS hA
   exact (oX.1 jX).wp (h3 F m A g a w (lR w0 n A g w .normal bN bZ) hF hS hA fun a' w' g' h1 h2 h3=>⟨rfl,g',h1,h2,h3⟩)
  ·injection ha with ha;injection ha with _ h2
   subst h2
   obtain⟨bN,bZ,h3,h4⟩:=AQ jX (fun ch α S he=>Ga ch he.1.symm) hq
   exact⟨bN,bZ,h3,h4 c2 gK ey⟩
  ·cases ha
  ·cases ha
 ·rename_i a l ha
  split at h
  ·rename_i F1 s1 h1
   split at h
   ·rename_i hl
    obtain⟨p1,p2⟩:=hs _ _ _ _ _ _ _ _ h1
    obtain⟨p3,p4⟩:=hs _ _ _ _ _ _ _ _ h
    have hl:s1.lg=s.lg:=by
     obtain⟨L,hL⟩:=p1.lg
     have:=Nat.eq_of_beq_eq_true hl
     rw [hL,List.length_append] at this
     rw [hL,List.length_eq_zero_iff.1 (show L.length=0 by omega)]
     rfl
    refine⟨p1.trans p3,fun jX gK ey Ga J J' hc=>?_⟩
    have hq1:=p2 J J (.H7 hl) (fun e α S=>e=.normal/\α=cA F1/\S=den J s1) ⟨rfl,rfl,rfl⟩
    have zl:i_ P w0 s1 s' J J':=by obtain⟨X,hX,hJ⟩:=hc;exact⟨X,by rw [hl];exact hX,hJ⟩
    have DX:=p4 J J' zl (fun e α S=>e=ex/\α=cA F'/\S=den J' s') ⟨rfl,rfl,rfl⟩
    unfold NR at ha
    split at ha
    ·cases ha
    ·cases ha
    ·simp only [Option.some.injEq,Prod.mk.injEq] at ha
     obtain⟨rfl,rfl⟩:=ha
     obtain⟨r1,r2,rfl,k1,k2⟩:=BB jX
     obtain⟨bN,bZ,h3,h4⟩:=AQ k1 (fun ch α S he=>by cases he.1) hq1
     obtain⟨_,rfl,rfl⟩:_/\bN=cA F1/\bZ=den J s1:=h4
     obtain⟨wO,AR,h5,h6⟩:=AQ k2 (fun ch α S he=>Ga ch he.1.symm) DX
     exact⟨wO,AR,cy.seq h3 h5,h6 c2 gK ey⟩
    ·cases ha
   ·cases h
  ·cases h
 ·cases h
theorem zy (hs:pQ P w0 rc) {n B N:Nat}{c1 c2:Code}{pt:Array Tmp}{qa qb:QC}{t:Tr AV}{st0:List (Nat × AV)}(jX:cw P.toTables n c1=some qa) (gK:cw P.toTables n c2=some qb) (dT:cM P c1=true) (ey:cM P c2=true)
  (Gb:∀ t ∈ pt,t < n) (jI:ew t=jK (fun _=>.u) st0) (hk:∀ p ∈ st0,cD B p.2):∀ {lg:List (List AV × Bool)}{s s':XS}{ex:Exit},s.nx=N->vQ rc n B N qa qb pt.toList t lg s=some (ex,s') ->
  s'.nx=N/\s'.yk=s.yk/\(∃ L,s'.lg=L++s.lg)/\(s.lw=0->s'.lw=0)/\∀ J J',i_ P w0 s s' J J'->∃ j,tx ex=some j/\∀ A gs T0,(∀ k,gs.al k->k < B) ->
   vu P w0 (LJ w0.heap.size A gs n T0 .ready none pt c1 c2 (d_ st0 []).tm (aE (mj J s) N)) lg (LJ w0.heap.size A gs n T0 (kW j) j pt c1 c2 (d_ st0 []).tm (aE (mj J' s') N))
 |[],s,s',ex,hN,h=>by
  simp only [vQ,Option.some.injEq,Prod.mk.injEq] at h
  obtain⟨rfl,rfl⟩:=h
  refine⟨hN,rfl,⟨[],rfl⟩,id,fun J J' hc=>⟨none,rfl,fun A gs T0 _=>?_⟩⟩
  obtain rfl:=hc.same rfl
  exact .nil _
 |(x,b)::rest,s,s',ex,hN,h=>by
  simp only [vQ] at h
  split at h
  case h_2=>cases h
  rename_i hx
  simp only [Bool.and_eq_true] at hx
  have fO:=Nat.eq_of_beq_eq_true hx.1
  have aQ:∀ a ∈ x,Pure a:=fun a ha=>eJ (dH hx.2 a ha)
  split at h
  case h_2=>cases h
  rename_i xq F1 s2 hr
  split at h
  case h_2=>cases h
  rename_i s3 RE Gc
  obtain⟨p1,p2⟩:=zx (c1:=c1) (c2:=c2) hs hr
  obtain⟨g1,g2,g3,g4,g5,g6⟩:=Br (F:=ew F1.t) Gc
  have DD:∀ t,cD B ((d_ st0 []).tm t):=fun t=>yj hk t
  have rn:∀ {j:Option Code},tx xq=some j->∀ J J1,i_ P w0 s s2 J J1->∀ A gs T0,(∀ k,gs.al k->k < B)->∀ (T:ae) (k:Nat),T.get k=some (.fo (LJ w0.heap.size A gs n T0 .ready none pt c1 c2 (d_ st0 []).tm (aE (mj J s) N))) ->
    nz P w0 k x T (.v (.bool j.isNone)) (T.set k (some (.fo (LJ w0.heap.size A gs n T0 (kW j) j pt c1 c2 (d_ st0 []).tm (aE (mj J1 s3) N))))):=by
   intro j hj J J1 hc A gs T0 hB T k hT
   have Ga:∀ ch,xq ≠ .panic ch:=fun ch e=>by rw [e] at hj;cases hj
   obtain⟨bN,bZ,h2,ex2,sb,S2,h4,rfl,rfl,rfl⟩:=p2 jX gK ey Ga J J1 hc
   have e1:cA ⟨wG t (pt.toList.zip x),[]⟩=⟨r9 (d_ st0 []).tm (pt.toList.zip x),[]⟩:=by
    unfold cA
    rw [Bo,jI]
    rfl
   have e2:den J s=aE (mj J s) N:=by rw [<-hN,DA]
   rw [e1,e2] at h2
   obtain⟨m,hC⟩:=g6 J1
   have e3:cA F1=⟨ew F1.t,[]⟩:=by unfold cA;rw [RE]
   rw [<-e3] at hC
   exact nz.rnd h2 h4 hC hj (by rw [fO,Array.length_toList]) aQ Gb DD hB hT
  split at h
  ·obtain⟨q1,q2,⟨L2,q3⟩,q4,q5⟩:=zy hs jX gK dT ey Gb jI hk g1 h
   obtain⟨L1,su⟩:=p1.lg
   refine⟨q1,by rw [q2,g2];exact p1.yk,⟨L2++L1,by rw [q3,g4,su,List.append_assoc]⟩,fun _=>q4 g5,fun J J' hc=>?_⟩
   obtain⟨X,hX,hJ⟩:=hc
   rw [q3,g4,su,<-List.append_assoc] at hX
   obtain rfl:=List.append_cancel_right hX
   rw [List.reverse_append] at hJ
   obtain⟨J1,k1,k2⟩:=hJ.app
   obtain⟨j,hj,hq5⟩:=q5 J1 J' ⟨L2,q3,k2⟩
   exact⟨j,hj,fun A gs T0 hB=>.cons (rn (j:=none) rfl J J1 ⟨L1,su,k1⟩ A gs T0 hB) (hq5 A gs T0 hB)⟩
  ·simp only [Option.some.injEq,Prod.mk.injEq] at h
   obtain⟨rfl,rfl⟩:=h
   obtain⟨L1,su⟩:=p1.lg
   refine⟨g1,by rw [g2];exact p1.yk,⟨L1,by rw [g4,su]⟩,fun _=>g5,fun J J' hc=>⟨_,rfl,fun A gs T0 hB=>?_⟩⟩
   obtain⟨X,hX,hJ⟩:=hc
   rw [g4] at hX
   exact .cons (rn rfl J J' ⟨X,hX,hJ⟩ A gs T0 hB) (.nil _)
  ·simp only [Option.some.injEq,Prod.mk.injEq] at h
   obtain⟨rfl,rfl⟩:=h
   obtain⟨L1,su⟩:=p1.lg
   refine⟨g1,by rw [g2];exact p1.yk,⟨L1,by rw [g4,su]⟩,fun _=>g5,fun J J' hc=>⟨_,rfl,fun A gs T0 hB=>?_⟩⟩
   obtain⟨X,hX,hJ⟩:=hc
   rw [g4] at hX
   exact .cons (rn rfl J J' ⟨X,hX,hJ⟩ A gs T0 hB) (.nil _)
  ·cases h
theorem D6 (hs:pQ P w0 rc) {n B N:Nat}{qa:QC}{qb:QC}{ps:List Nat}{t:Tr AV}:∀ {lg:List (List AV × Bool)}{s s':XS}{ex:Exit},s.nx=N->vQ rc n B N qa qb ps t lg s=some (ex,s') ->
  s'.nx=N/\s'.yk=s.yk/\(∃ L,s'.lg=L++s.lg)/\(s.lw=0->s'.lw=0)
 |[],s,s',ex,hN,h=>by
  simp only [vQ,Option.some.injEq,Prod.mk.injEq] at h
  obtain⟨rfl,rfl⟩:=h
  exact⟨hN,rfl,⟨[],rfl⟩,id⟩
 |(x,b)::rest,s,s',ex,hN,h=>by
  simp only [vQ] at h
  split at h
  case h_2=>cases h
  split at h
  case h_2=>cases h
  rename_i xq F1 s2 hr
  split at h
  case h_2=>cases h
  rename_i s3 RE Gc
  have p1:=(zx (P:=P) (w0:=w0) (c1:=.skip) (c2:=.skip) hs hr).1
  obtain⟨g1,g2,g3,g4,g5,g6⟩:=Br (F:=ew F1.t) Gc
  obtain⟨L1,su⟩:=p1.lg
  have fin:s3.nx=N/\s3.yk=s.yk/\(∃ L,s3.lg=L++s.lg)/\(s.lw=0->s3.lw=0):=⟨g1,by rw [g2];exact p1.yk,⟨L1,by rw [g4,su]⟩,fun _=>g5⟩
  split at h
  ·obtain⟨q1,q2,⟨L2,q3⟩,q4⟩:=D6 hs g1 h
   exact⟨q1,by rw [q2,g2];exact p1.yk,⟨L2++L1,by rw [q3,g4,su,List.append_assoc]⟩,fun _=>q4 g5⟩
  ·simp only [Option.some.injEq,Prod.mk.injEq] at h
   obtain⟨rfl,rfl⟩:=h
   exact fin
  ·simp only [Option.some.injEq,Prod.mk.injEq] at h
   obtain⟨rfl,rfl⟩:=h
   exact fin
  ·cases h
theorem vV {s s':XS}(h:s.yk=s'.yk):∀ {l:List (Nat × Option Ob)},vC s l=vC s' l
 |[]=>rfl
 |p::l=>by
  simp only [vC,h]
  split
  ·rw [vV h]
  ·exact vV h
theorem Lz {s s':XS}(hm:s.m=s'.m) (h:s.yk=s'.yk):mj J s=mj J s':=by
 unfold mj
 rw [hm,h,vV h]
theorem BJ {B N:Nat}{m:List (Nat × Nat)}{f:Nat->AV}:∀ {l:List (Nat × AV)},(∀ p ∈ l,f p.1=p.2/\cD B p.2)->zz B m N f l
 |[],_=>trivial
 |p::l,h=>⟨.aC (h p (by simp)).1 (h p (by simp)).2,BJ fun q hq=>h q (by simp [hq])⟩
theorem D7 {B N:Nat}{m:List (Nat × Nat)}{S:ae}:∀ {l:List (Nat × Ob)},(∀ p ∈ l,∃ cr,S.get (dm B (bX m) p.1)=some cr/\vB B m N cr p.2)->rX B m N S l
 |[],_=>trivial
 |p::l,h=>⟨.inl (h p (by simp)),D7 fun q hq=>h q (by simp [hq])⟩
theorem zA (hE:iU P w0 E) (hs:pQ P w0 rc) {g:Nat}{aZ9:List AV}{an:Nat}{lg:List (List AV × Bool)}(h:H0 E rc g aZ9 an=some lg):∀ J J',vu P w0 J lg J'->∃ r S1,aV P w0 g aZ9 (aE [(0,.fo J)] 1) r S1/\S1.get 0=some (.fo J'):=by
 unfold H0 at h
 split at h
 ·rename_i r s' hw
  obtain rfl:=Option.some.inj h
  obtain⟨h1,h2⟩:=BG hE hs hw
  intro J J' hJ
  obtain⟨L,hL⟩:=h2.lg
  have hc:=h1 J J' ⟨s'.lg,by simp,hJ⟩
  have e:den J ⟨.nil,1,1,some 0,an,[]⟩=aE [(0,.fo J)] 1:=by
   unfold den aE
   simp only [ae.mk.injEq,and_true]
   funext k
   simp only [ee,iS]
   cases Nat.beq 0 k<;>rfl
  rw [e] at hc
  refine⟨r,_,hc,?_⟩
  show (match ee s'.yk 0 with|true=>some (Ob.fo J')|false=>gB s' 0)=_
  have:s'.yk=some 0:=h2.yk
  rw [this]
  rfl
 ·cases h
theorem H9 (hE:iU P w0 E) (hs:pQ P w0 rc) {g:Nat}{aZ9:List AV}{R:List (List AV × Bool)->Option (Exit × XS)}{C:List (List AV × Bool)->Option Nat}{q:Exit × XS}(h:NS rc E g aZ9 R C=some q) :
  ∃ lg,R lg=some q/\∀ J J',vu P w0 J lg J'->∃ r S1,aV P w0 g aZ9 (aE [(0,.fo J)] 1) r S1/\S1.get 0=some (.fo J'):=by
 unfold NS at h
 split at h
 ·rename_i lg h1
  split at h
  ·rename_i q' h2
   obtain rfl:=Option.some.inj h
   exact⟨lg,h2,zA hE hs h1⟩
  ·split at h
   ·split at h
    ·rename_i lg2 h3
     exact⟨lg2,h,zA hE hs h3⟩
    ·cases h
   ·cases h
 ·cases h
theorem ym {B:Nat}:∀ {l:List (Nat × AV)},H2 B l=true->∀ p ∈ l,cD B p.2
 |[],_,a,h=>by cases h
 |b::l,hp,a,h=>by
  simp only [H2] at hp
  split at hp
  ·rename_i hb
   rcases List.mem_cons.1 h with rfl|h
   ·exact jB hb
   ·exact ym hp a h
  ·cases hp
theorem D8 {B:Nat}:∀ {l:List (Nat × Option Ob)},H3 B s l=true->∀ p ∈ l,p.1 < B/\∀ o,p.2=some o->jF B o
 |[],_,a,h=>by cases h
 |b::l,hp,a,h=>by
  simp only [H3] at hp
  split at hp
  ·rename_i hb
   simp only [Bool.and_eq_true] at hb
   rcases List.mem_cons.1 h with rfl|h
   ·refine⟨dZ hb.1,fun o ho=>?_⟩
    have h2:=hb.2
    rw [ho] at h2
    exact Dv h2
   ·exact D8 hp a h
  ·cases hp
theorem BL {t:Tr AV}:ew t=jK (fun _=>.u) (toLk t):=by
 have key:∀ (l:List (Nat × AV)) (g:Nat->Option AV),(∀ k a,(k,a) ∈ l ↔ g k=some a)->∀ k,jK (fun _=>.u) l k=match g k with|some a=>a|none=>.u:=by
  intro l g h k
  have h1:∀ (l:List (Nat × AV)),(∃ a,(k,a) ∈ l/\jK (fun _=>.u) l k=a)\/((∀ a,(k,a) ∉ l)/\jK (fun _=>.u) l k=.u):=by
   intro l
   induction l with
   |nil=>exact .inr ⟨fun a h=>(by cases h),rfl⟩
   |cons p l ih =>
    obtain⟨j,b⟩:=p
    by_cases e:k=j
    ·subst e
     exact .inl ⟨b,by simp,aG _ _ _⟩
    ·have e2:jK (fun _=>.u) ((j,b)::l) k=jK (fun _=>.u) l k:=aN _ _ e
     rw [e2]
     rcases ih with ⟨a,h1,h2⟩|⟨h1,h2⟩
     ·exact .inl ⟨a,List.mem_cons_of_mem _ h1,h2⟩
     ·refine .inr ⟨fun a h=>?_,h2⟩
      rcases List.mem_cons.1 h with h|h
      ·injection h with h3 h4;exact e h3
      ·exact h1 a h
  rcases h1 l with ⟨a,h2,h3⟩|⟨h2,h3⟩
  ·rw [h3,(h k a).1 h2]
  ·rw [h3]
   cases e:g k with
   |none=>rfl
   |some a=>exact absurd ((h k a).2 e) (h2 a)
 funext k
 rw [key (toLk t) (fj t) (fun k a=>toLk_mem) k]
 rfl
theorem H_ (hE:iU P w0 E) (hs:pQ P w0 rc) {n:Nat}{x:QO}{ps:List Nat}{qa qb:QC}{F F':Fr}{ex:Exit}(h:NT E rc n (x.ev (ew F.t)) ps qa qb F s=some (ex,F',s')) :
  dX s s'/\∀ J J',i_ P w0 s s' J J'->∀ Q K,ck P w0 false n Q (.out ex K) (cA F') (den J' s')->ck P w0 false n Q (.run (.uj x ps qa qb) K) (cA F) (den J s):=by
 unfold NT at h
 split at h
 case h_2=>cases h
 rename_i gid first cap hx
 split at h
 case h_2=>cases h
 rename_i BM
 simp only [Bool.and_eq_true,Bool.not_eq_true'] at BM
 obtain⟨⟨⟨⟨⟨⟨⟨⟨c1,c2⟩,c3⟩,c4⟩,c5⟩,c6⟩,c7⟩,c8⟩,c9⟩:=BM
 split at h
 case h_2=>cases h
 rename_i xq s1 dG
 simp only [Option.some.injEq,Prod.mk.injEq] at h
 obtain⟨rfl,rfl,rfl⟩:=h
 obtain⟨lg,hR,Bg⟩:=H9 hE hs dG
 obtain⟨r0,xh⟩:∃ r0:XS,r0=⟨(kG s .df).m,s.nx+41,0,s.yk,s.an,s.lg⟩:=⟨_,rfl⟩
 rw [<-xh] at hR
 have r1:r0.nx=s.nx+41:=by rw [xh]
 have r2:r0.lg=s.lg:=by rw [xh]
 have r3:r0.yk=s.yk:=by rw [xh]
 have r4:∀ J,mj J r0=mj J (kG s .df):=fun J=>Lz (by rw [xh]) (by rw [xh];rfl)
 obtain⟨q1,q2,⟨L,q3⟩,q4⟩:=D6 hs r1 hR
 have q4:=q4 (by rw [xh])
 refine⟨⟨by omega,by omega,q2.trans r3,⟨L,by rw [q3,r2]⟩,fun k hk=>by omega⟩,fun J J' hc Q K hQ=>?_⟩
 intro c xb hd
 obtain⟨y,pt,a1,a2,rfl,rfl,rfl,jX,gK⟩:=HP xb
 simp only [cM,Bool.and_eq_true] at hd
 obtain⟨_,_,_,_,q5⟩:=zy (P:=P) (w0:=w0) (pt:=pt) (st0:=toLk F.t) hs jX gK hd.1 hd.2 (fun t ht=>by
  have:=List.all_eq_true.1 c3 t (by simpa using ht)
  exact dZ this) BL (ym c6) r1 hR
 obtain⟨j,hj,hch⟩:=q5 J J' (by obtain⟨X,hX,hJ⟩:=hc;exact⟨X,by rw [r2];exact hX,hJ⟩)
 have UI:(cA F).ev y=.fn (.func gid) first cap:=by rw [<-aU];exact hx
 have hC:Canon (s.nx+1) (s.nx+41) [] ⟨(cA F).tm,(den J s).nx::(cA F).df⟩ ((den J s).new .df) (toLk F.t) ((den J s).nx::(cA F).df) (mj J r0):=by
  refine⟨BJ fun p hp=>⟨?_,ym c6 p hp⟩,rfl,D7 fun p hp=>?_,?_,Nat.ble_eq_true_of_le (by omega),?_⟩
  ·have:=toLk_mem.1 (show (p.1,p.2) ∈ toLk F.t from hp)
   show ew F.t p.1=p.2
   unfold ew
   rw [this]
  ·obtain⟨k,o⟩:=p
   rw [r4] at hp
   have hg:=FY.1 hp
   rw [iO c4] at hg
   have BD:k < s.nx+1/\jF (s.nx+1) o:=by
    unfold mj at hp
    rcases List.mem_append.1 hp with hp|hp
    ·have hy:(kG s .df).yk=s.yk:=rfl
     rw [hy] at hp
     cases hyy:s.yk with
     |none=>rw [hyy] at hp;cases hp
     |some y2 =>
      rw [hyy] at hp c9
      simp only [K_,List.mem_singleton,Prod.mk.injEq] at hp
      obtain⟨rfl,rfl⟩:=hp
      exact⟨dZ c9,trivial⟩
    ·obtain⟨h1,h2⟩:=th.1 hp
     obtain⟨h3,h4⟩:=D8 c7 _ h2
     exact⟨h3,h4 o rfl⟩
   exact⟨o,by simp only;rw [jW BD.1];exact hg,.same BD.2⟩
  ·rw [r4,Dz]
   exact c8
  ·show (Nat.blt s.nx (s.nx+1) && F.ds.all fun d=>Nat.blt d.k (s.nx+1))=true
   rw [c5,show Nat.blt s.nx (s.nx+1)=true from Nat.ble_eq_true_of_le (Nat.le_refl _)]
   rfl
 refine⟨xq,_,_,cy.range (n:=n) (st0:=toLk F.t) (so0:=mj J r0) (so1:=mj J' s1) (j:=j) UI (fun a ha=>eJ (dH c1 a ha)) (fun a ha=>eJ (dH c2 a ha)) hC (Nat.le_refl _) hj (fun A gs T0 hB=>Bg _ _ (hch A gs T0 hB)),?_⟩
 have e1:d_ (toLk F.t) ((den J s).nx::(cA F).df)=cA ⟨F.t,s.nx::F.ds⟩:=by
  unfold d_ cA
  rw [BL]
  rfl
 rw [e1,<-q1,DA]
 exact hQ
theorem Ia {x:QO}{F F':Fr}{n:Nat}(h:NU x F s=some (F',s')):dX s s'/\s'.lg=s.lg/\∀ J,Cv w0 n (cA F) (den J s) (cA F') (den J s'):=by
 unfold NU at h
 split at h
 case h_2=>cases h
 rename_i t
 split at h
 case h_2=>cases h
 rename_i f first cap hx
 split at h
 ·cases h
 ·split at h
  ·rename_i a s1 hf
   simp only [Option.some.injEq,Prod.mk.injEq] at h
   obtain⟨rfl,rfl⟩:=h
   obtain⟨N,n1,n2,n3,n4,n5,n6,n7,n8,n9⟩:=y8 hf
   refine⟨n5,n6,fun J=>?_⟩
   have:=Cv.afH (w0:=w0) (n:=n) (α:=cA F) (t:=t) (a':=a) (S:=den J s) (S':=den J s1) (N:=N) (n1 J) (Nat.le_of_eq (by show s.nx=s1.nx;rw [n7])) (n2 J) (by show ew F.t t ≠ .u;rw [hx];intro h;cases h) (by show aX N (ew F.t t) a;rw [hx];exact n3.1)
   have e:cA ⟨put F.t t a,F.ds⟩=⟨bP (cA F).tm t a,(cA F).df⟩:=by
    unfold cA
    rw [ua]
   rw [e]
   exact this
  ·cases h
def D9 (P:Program) (w0:World) (rd:Bool) (n:Nat) (f:QF->Fr->XS->XR):Prop :=
 (∀ c F s c' F' s',f c F s=.mr c' F' s'->dX s s'/\∀ J J',i_ P w0 s s' J J'->∀ Q,ck P w0 rd n Q c' (cA F') (den J' s')->ck P w0 rd n Q c (cA F) (den J s)) /\
 (∀ c F s ex F' s',f c F s=.dn ex F' s'->dX s s'/\∀ J J',i_ P w0 s s' J J'->∀ Q,Q ex (cA F') (den J' s')->ck P w0 rd n Q c (cA F) (den J s))
theorem D9.it {rd:Bool}{n:Nat}{f:QF->Fr->XS->XR}(h:D9 P w0 rd n f):∀ k,D9 P w0 rd n (Lu f k)
 |0=>h
 |k+1=>by
  have ih:=D9.it h k
  refine⟨fun c t s c' t' s' e=>?_,fun c t s ex t' s' e=>?_⟩
  all_goals
   simp only [Lu] at e
   split at e
   ·rename_i c1 t1 s1 h1
    obtain⟨p1,p2⟩:=ih.1 _ _ _ _ _ _ h1
    first
     |(obtain⟨q1,q2⟩:=ih.1 _ _ _ _ _ _ e
       refine⟨p1.trans q1,fun J J' hc Q hQ=>?_⟩
       obtain⟨J1,k1,k2⟩:=i_.split p1 q1 hc
       exact p2 _ _ k1 Q (q2 _ _ k2 Q hQ))
     |(obtain⟨q1,q2⟩:=ih.2 _ _ _ _ _ _ e
       refine⟨p1.trans q1,fun J J' hc Q hQ=>?_⟩
       obtain⟨J1,k1,k2⟩:=i_.split p1 q1 hc
       exact p2 _ _ k1 Q (q2 _ _ k2 Q hQ))
   ·first
     |exact ih.1 _ _ _ _ _ _ e
     |exact ih.2 _ _ _ _ _ _ e
theorem W0 {s0 s1:XS}{J J':FJ}{k:Nat}(h:dX s0 s1) (hc:i_ P w0 s0 s1 J J') (hk:k < Ry s0 s1):(den J' s1).get k=(den J s0).get k:=by
 unfold Ry at hk
 split at hk
 ·rename_i hb
  obtain⟨L,hL⟩:=h.lg
  have:L=[]:=by
   have h1:=Nat.eq_of_beq_eq_true hb
   rw [hL,List.length_append] at h1
   exact List.eq_nil_of_length_eq_zero (by omega)
  subst this
  obtain rfl:=hc.same hL
  exact Ue h hk
 ·omega
theorem Uf (hE:iU P w0 E) (hs:pQ P w0 rc) (rd:Bool) (n:Nat):D9 P w0 rd n (kV E rc rd n):=by
 have sw:∀ {c c':QF}{t:Fr}{s:XS},(∀ (Q:Exit->AA->ae->Prop) α S,ck P w0 rd n Q c' α S->ck P w0 rd n Q c α S)->∀ {c2:QF}{t':Fr}{s':XS},XR.mr c' t s=.mr c2 t' s'->dX s s'/\∀ J J',i_ P w0 s s' J J'->∀ Q,ck P w0 rd n Q c2 (cA t') (den J' s')->ck P w0 rd n Q c (cA t) (den J s):=by
  intro c c' t s hm c2 t' s' e
  injection e with e1 e2 e3
  subst e1 e2 e3
  refine⟨.refl _,fun J J' hc Q hQ=>?_⟩
  obtain rfl:=hc.same rfl
  exact hm _ _ _ hQ
 refine⟨fun c t s c' t' s' e=>?_,fun c t s ex t' s' e=>?_⟩
 ·cases c with
  |run c K =>
   cases c with
   |skip=>exact sw (fun _ _ _=>ck.skip) e
   |bz dr l =>
    cases dr with
    |true=>cases e
    |false=>exact sw (fun _ _ _=>ck.bz) e
   |dM V l =>
    simp only [kV] at e
    split at e
    ·rename_i s1 h1
     injection e with e1 e2 e3
     subst e1 e2 e3
     obtain⟨p1,p2,p3,p4⟩:=zw h1
     refine⟨⟨p2.lw,Nat.le_add_right _ _,p2.yk,p2.lg,p2.aC⟩,fun J J' hc Q hQ=>?_⟩
     obtain rfl:=hc.same p3
     have:den J' ⟨s1.m,s.nx+(gS l s.nx).length,s1.lw,s1.yk,s1.an,s1.lg⟩=uk (den J' s) l:=by
      have:=congrArg ae.get (p1 J')
      unfold den uk
      simp only [ae.mk.injEq,and_true]
      exact this
     rw [this] at hQ
     exact ck.dM hQ
    ·cases e
   |seq a c=>exact sw (fun _ _ _=>ck.seq) e
   |cond x a c =>
    simp only [kV] at e
    split at e
    ·rename_i hx
     injection e with e1 e2 e3
     subst e1 e2 e3
     refine⟨.refl _,fun J J' hc Q hQ=>?_⟩
     obtain rfl:=hc.same rfl
     exact ck.cond (t:=true) hx hQ
    ·rename_i hx
     injection e with e1 e2 e3
     subst e1 e2 e3
     refine⟨.refl _,fun J J' hc Q hQ=>?_⟩
     obtain rfl:=hc.same rfl
     exact ck.cond (t:=false) hx hQ
    ·cases e
   |block id c=>exact sw (fun _ _ _=>ck.block) e
   |scope c=>exact sw (fun _ _ _=>ck.scope) e
   |loop c =>
    simp only [kV] at e
    split at e
    ·rename_i xq t1 s1 h1
     injection e with e1 e2 e3
     subst e1 e2 e3
     obtain⟨q1,q2⟩:=zu (P:=P) (w0:=w0) (rd:=rd) (n:=n) (c:=c) (fun t s ex t' s' h=>by
      obtain⟨p1,p2⟩:=hs _ _ _ _ _ _ _ _ h
      refine⟨p1,fun J J' hc c1 jX hd=>?_⟩
      obtain⟨e2,sb,S2,k1,rfl,rfl,rfl⟩:=p2 J J' hc (fun e α S=>e=ex/\α=cA t'/\S=den J' s') ⟨rfl,rfl,rfl⟩ c1 jX hd
      exact k1) h1
     refine⟨q1,fun J J' hc Q hQ=>?_⟩
     intro c0 xb hd0
     obtain⟨c1,rfl,jX⟩:=HO xb
     exact⟨_,_,_,cy.loop (q2 J J' hc c1 jX hd0),hQ⟩
    ·cases e
   |exit id=>exact sw (fun _ _ _=>ck.exit_) e
   |ret=>exact sw (fun _ _ _=>ck.afQ) e
   |uj x ps a c =>
    simp only [kV] at e
    split at e
    ·rename_i F1 s1 hp
     injection e with e1 e2 e3
     subst e1 e2 e3
     obtain⟨p1,p2,p3⟩:=Ia (w0:=w0) (n:=n) hp
     refine⟨p1,fun J J' hc Q hQ=>?_⟩
     obtain rfl:=hc.same p2
     exact ck.cv (p3 J') hQ
    ·split at e
     ·rename_i xq F1 s1 hr
      injection e with e1 e2 e3
      subst e1 e2 e3
      obtain⟨p1,p2⟩:=H_ hE hs hr
      exact⟨p1,fun J J' hc Q hQ=>p2 J J' hc Q K hQ⟩
     ·cases e
   |raw c=>cases e
  |out ex K =>
   cases K with
   |nil=>cases e
   |cons it K =>
    cases it with
    |seq c=>cases ex<;>(simp only [kV] at e;exact sw (by exact fun _ _ _ h=>h) e)
    |qE id =>
     cases ex with
     |exit j =>
      simp only [kV] at e
      split at e
      ·rename_i hj
       refine sw (fun Q α S h=>?_) e
       show (match Nat.beq j id with|true=>iQ P w0 rd n Q K .normal α S|false=>iQ P w0 rd n Q K (.exit j) α S)
       rw [hj]
       exact h
      ·rename_i hj
       refine sw (fun Q α S h=>?_) e
       show (match Nat.beq j id with|true=>iQ P w0 rd n Q K .normal α S|false=>iQ P w0 rd n Q K (.exit j) α S)
       rw [hj]
       exact h
     |_=>simp only [kV] at e;exact sw (by exact fun _ _ _ h=>h) e
    |uU =>
     cases ex with
     |goto l=>cases e
     |_=>simp only [kV] at e;exact sw (by exact fun _ _ _ h=>h) e
  |bz dr l K =>
   cases dr with
   |true=>cases l<;>cases e
   |false =>
    cases l with
    |nil=>exact sw (fun _ _ _=>ck.fin) e
    |cons i l =>
     simp only [kV] at e
     split at e
     ·rename_i hw
      split at e
      ·rename_i r1 s1 ho
       injection e with e1 e2 e3
       subst e1 e2 e3
       obtain⟨p1,p2⟩:=BI hE hs (df:=t.ds) ho
       refine⟨p2,fun J J' hc Q hQ=>?_⟩
       refine ck.op (α:=cA t) hw (p1 J J' hc) ?_
       unfold cA
       rw [rm]
       exact hQ
      ·cases e
     ·rename_i hw
      injection e with e1 e2 e3
      subst e1 e2 e3
      refine⟨.refl _,fun J J' hc Q hQ=>?_⟩
      obtain rfl:=hc.same rfl
      refine ck.no (α:=cA t) hw ?_
      unfold cA
      rw [rm]
      exact hQ
     ·cases e
  |dM B V lg rs l K =>
   cases l with
   |nil =>
    simp only [kV] at e
    split at e
    ·rename_i hc
     exact sw (fun _ _ _=>ck.afT hc) e
    ·cases e
   |cons i l =>
    simp only [kV] at e
    split at e
    ·rename_i hw
     split at e
     ·rename_i r1 ns RD s1 ho
      split at e
      ·rename_i hx
       injection e with e1 e2 e3
       subst e1 e2 e3
       have ho:Rx E rc (AN i.d l) i.q (ew t.t) s rs=some (r1,ns,RD,s1):=by
        split at ho
        ·exact ho
        ·cases ho
       obtain⟨p1,p2,p3,p4⟩:=Ly hE hs (df:=t.ds) ho
       refine⟨p3,fun J J' hc Q hQ=>?_⟩
       obtain rfl:=hc.same p4
       intro fD hB
       obtain⟨d,rfl,k2,k3⟩:=p1 J' B fD
       have e5:cA ⟨ub i.d t.t r1,t.ds⟩=cG i.d (cA t) r1:=by
        unfold cA
        rw [rm]
       rw [k3,e5] at hQ
       exact ck.vq (α:=cA t) hw hx k2 (fun _ Ri=>hQ (fun k hk=>fD k (p2 k hk)) Ri) fD hB
      ·cases e
     ·split at e
      ·cases e
      ·rename_i hx
       split at e
       ·rename_i r1 s1 ho
        injection e with e1 e2 e3
        subst e1 e2 e3
        obtain⟨p1,p2⟩:=BI hE hs (df:=t.ds) ho
        have p3:dX s ⟨s1.m,s1.nx,Nat.min s.lw s1.lw,s1.yk,s1.an,s1.lg⟩:=⟨Nat.min_le_left _ _,p2.nx,p2.yk,p2.lg,fun k hk=>p2.aC k (Nat.lt_of_lt_of_le hk (Nat.min_le_right _ _))⟩
        refine⟨p3,fun J J' hc Q hQ=>?_⟩
        have e5:cA ⟨ub i.d t.t r1,t.ds⟩=cG i.d (cA t) r1:=by
         unfold cA
         rw [rm]
        rw [e5] at hQ
        exact ck.xop (α:=cA t) (S':=den J' s1) (lw:=Ry s s1) hw hx p2.nx (fun k hk=>W0 (s0:=⟨s.m,s.nx,s.nx,s.yk,s.an,s.lg⟩) p2 hc hk) (p1 J J' hc) hQ
       ·cases e
    ·rename_i hw
     injection e with e1 e2 e3
     subst e1 e2 e3
     refine⟨.refl _,fun J J' hc Q hQ=>?_⟩
     obtain rfl:=hc.same rfl
     have e5:cA ⟨ub i.d t.t (.v undef),t.ds⟩=cG i.d (cA t) (.v undef):=by
      unfold cA
      rw [rm]
     rw [e5] at hQ
     exact ck.dno (α:=cA t) hw hQ
    ·cases e
 ·cases c with
  |out xq K =>
   cases K with
   |nil =>
    injection e with e1 e2 e3
    subst e1 e2 e3
    refine⟨.refl _,fun J J' hc Q hQ=>?_⟩
    obtain rfl:=hc.same rfl
    exact hQ
   |cons it K =>
    cases it<;>cases xq<;>simp only [kV] at e<;>(repeat' split at e)<;>cases e
  |run c K =>
   cases c with
   |bz dr l=>cases dr<;>cases e
   |_ =>
    simp only [kV] at e
    repeat' split at e
    all_goals cases e
  |bz dr l K =>
   cases dr with
   |true=>cases l<;>cases e
   |false =>
    cases l with
    |nil=>cases e
    |cons i l =>
     simp only [kV] at e
     repeat' split at e
     all_goals cases e
  |dM B V lg rs l K =>
   cases l with
   |nil =>
    simp only [kV] at e
    repeat' split at e
    all_goals cases e
   |cons i l =>
    simp only [kV] at e
    repeat' split at e
    all_goals cases e
theorem zB (hE:iU P w0 E):∀ m,pQ P w0 (H4 E m)
 |0=>fun rd n c t s ex t' s' h=>by cases h
 |m+1=>fun rd n c t s ex t' s' h=>((Uf hE (zB hE m) rd n).it 14).2 c t s ex t' s' h
theorem ah.emp {g:Nat}{ex:Bool}{r:AV}(h:∀ A c,ah P w0 g [.v (.slice A 0 c)] r):ah P w0 g [.sl ex []] r:=by
 have hp:∀ A c,∀ a ∈ [AV.v (.slice A 0 c)],Pure a:=fun A c a ha=>by
  simp only [List.mem_singleton] at ha
  subst ha
  exact .v
 refine⟨(h none 0).1,ae.none_,((h none 0).A7 (hp _ _) ae.none_).1,fun F m A g bO w hF hS hA=>?_⟩
 have bI:bO.size=1:=hA.1
 obtain⟨v,rfl⟩:∃ v,bO=#[v]:=by
  obtain⟨l⟩:=bO
  match l,bI with
  |[x],_=>exact⟨x,rfl⟩
 have hr:=hA.2 0 _ v rfl rfl
 obtain⟨B,c,e,_,_⟩:=nJ hr
 subst e
 refine ((h B c).A7 (hp _ _) ae.none_).2 F m A g _ w hF hS ⟨rfl,fun i a x ha hx=>?_⟩
 match i,ha,hx with
 |0,ha,hx =>
  obtain rfl:=Option.some.inj ha
  obtain rfl:=Option.some.inj hx
  exact .v
theorem Env.aH (hE:iU P w0 E) (m:Nat) {g:Nat}{aZ9:List AV}(h:DY E (H4 E m) g aZ9=some r):ah P w0 g aZ9 r:=(ss hE (zB hE m) h).1
end
end Go.Proofs.YtgphljokbodciaaGreat
