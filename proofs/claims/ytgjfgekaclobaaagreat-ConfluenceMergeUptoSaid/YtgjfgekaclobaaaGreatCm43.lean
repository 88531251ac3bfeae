import Derived.Test.YtgjfgekaclobaaaGreatCm42
namespace Go.Proofs.YtgjfgekaclobaaaGreat
set_option linter.unusedVariables false
set_option linter.unusedSimpArgs false
open Go.RowKit
structure eC (P:Program) (w0:World) (E:Env):Prop where
 seq:∀ t a b e,E.seq t a b=some e->Of P t a b e
 key:∀ kt v es,E.Ez kt v=true->(∀ p ∈ es,E.Ez kt p.1=true)->wH P kt v es (E.S8 v)
 x7:∀ g v,E.x7 g=some v->∀ h first cap,du (first++cap)->av P w0 h (first++cap) (.aC [])->av P w0 g [.fn (.func h) first cap] v
 qR:∀ g c n,E.qR g=some (c,n)->ae P g c n
 ext:∀ g aZ9 r,E.ext g aZ9=some r->av P w0 g aZ9 r/\du aZ9
 nat:∀ g aZ9 v,E.nat g aZ9=some v->∃ xs:List Value,aZ9=xs.map .v/\∀ w:World,(callFunc g xs.toArray).run P w=.ok (.value v) w
def oc (P:Program) (w0:World) (rc:Rec):Prop:=∀ rd n c F s ex F' s',rc rd n c F s=.dn ex F' s'->cZ s s'/\∀ J J',gF P w0 s s' J J'->∀ Q,Q ex (bE F') (den J' s')->bu P w0 rd n Q c (bE F) (den J s)
section
variable {P:Program}{w0:World}{E:Env}{rc:Rec}{s s':XS}{r:AV}{J J':FJ}
theorem gF.FX (h:s'.lg=s.lg):gF P w0 s s' J J:=⟨[],h,.nil J⟩
theorem za {k sz fz:Nat}{rows:List (List AV)}{ex:Bool}(h:(dy s).get k=some (.arr sz rows fz ex)):(den J s).get k=some (.arr sz rows fz ex):=(cz h).1
theorem pO {f:Nat->AV}:∀ {qs:List QR}{l:List AV},jJ f (dy s) qs=some l->jJ f (den J s) qs=some l
 |[],l,h=>h
 |.t n::qs,l,h=>by
  simp only [jJ] at h ⊢
  split at h
  ·rename_i l' hl
   rw [pO hl]
   exact h
  ·cases h
 |.cell k n::qs,l,h=>by
  simp only [jJ] at h ⊢
  split at h
  ·rename_i a l' ha hl
   rw [pO hl,xU ha]
   exact h
  ·cases h
theorem Cy:∀ {ds:List DE}{s s':XS},AO s ds=some s'->(∀ J,sZ (den J s) ds=true/\gH (den J s) ds=den J s')/\cZ s s'/\s'.lg=s.lg
 |[],s,s',h=>by obtain rfl:=Option.some.inj h;exact⟨fun J=>⟨rfl,rfl⟩,.refl _,rfl⟩
 |.del _ _ _::ds,s,s',h=>by cases h
 |.ob k::ds,s,s',h=>by
  simp only [AO] at h
  split at h
  ·rename_i hk
   obtain⟨h1,h2,h3⟩:=Cy h
   refine⟨fun J=>?_,cZ.wr.trans h2,h3⟩
   obtain⟨k1,k2⟩:=cz (J:=J) hk
   simp only [sZ,gH,DE.k,k1]
   have:=h1 J
   rwa [gD k2] at this
  ·cases h
theorem Cz {qs:List QR}{ex:Exit}{F:Fr}(h:Cs qs ex F s=some (r,s')):(∀ J,vX qs ex (bE F) (den J s)=some (r,den J s'))/\cZ s s'/\s'.lg=s.lg:=by
 unfold Cs at h
 split at h
 ·rename_i s1 he hd
  obtain⟨h1,h2,h3⟩:=Cy hd
  split at h
  ·rename_i a hq
   simp only [Option.some.injEq,Prod.mk.injEq] at h
   obtain⟨rfl,rfl⟩:=h
   refine⟨fun J=>?_,h2,h3⟩
   unfold vX
   simp only [bE,he,(h1 J).1,(h1 J).2,pO hq]
  ·rename_i l aP hq
   simp only [Option.some.injEq,Prod.mk.injEq] at h
   obtain⟨rfl,rfl⟩:=h
   refine⟨fun J=>?_,h2,h3⟩
   unfold vX
   simp only [bE,he,(h1 J).1,(h1 J).2,pO hq]
  ·cases h
 ·cases h
theorem ud {aZ9:List AV}:bE ⟨ov aZ9 0 .nil,[]⟩=⟨j7 aZ9,[]⟩:=by
 unfold bE
 rw [LC]
theorem ox (hE:eC P w0 E) (hs:oc P w0 rc) {g:Nat}{aZ9:List AV}(h:y9 E rc g aZ9=some r):av P w0 g aZ9 r/\du aZ9:=by
 unfold y9 at h
 ·split at h
  ·cases h
  ·rename_i c n ht
   split at h
   ·rename_i hn hp
    split at h
    ·rename_i ex F s' hr
     split at h
     ·rename_i r0 s2 hl hf
      obtain⟨h1,h2⟩:=hs _ _ _ _ _ _ _ _ hr
      obtain⟨h3,h4⟩:bX (dy s2) r0 r/\Pure r:=by
       split at h
       ·rename_i hp
        obtain rfl:=Option.some.inj h
        exact⟨.refl _,dS hp⟩
       ·exact ow h
      have h5:=h2 (fun _ _ _ _=>True) (fun _ _ _ _=>True) (.FX hl) (oM c.2 fun r' S=>bX S r' r) ⟨r0,_,(Cz hf).1 _,h3.mono fun _ _ _ _ _ h=>za h⟩
      rw [ud] at h5
      exact⟨(hE.qR _ _ _ ht).eQ (Nat.le_of_ble_eq_true hn) h4 h5,rV hp⟩
     ·cases h
    ·cases h
   ·cases h
theorem J3 (hE:eC P w0 E) (hs:oc P w0 rc) {g:Nat}{aZ9:List AV}{sz len fz:Nat}{rows:List (List AV)}{ex:Bool}(h:S_ E rc g aZ9=some (sz,len,rows,fz,ex)) :
  du aZ9/\(∀ r ∈ rows,∀ a ∈ r,Pure a)/\∃ k S',aE P w0 g aZ9 aa.none_ (.ob k sz 0 len none) S'/\S'.get k=some (.arr sz rows fz ex):=by
 unfold S_ at h
 split at h
 ·cases h
 ·rename_i c n ht
  split at h
  ·rename_i hn hp
   split at h
   ·rename_i vJ F s' hr
    split at h
    ·rename_i k sz1 Tb s2 hl hf
     split at h
     ·rename_i sz' aeh R1 ex2 hk
      split at h
      ·rename_i hc
       simp only [Bool.and_eq_true] at hc
       have jc:=Nat.eq_of_beq_eq_true hc.1
       subst jc
       simp only [Option.some.injEq,Prod.mk.injEq] at h
       obtain⟨rfl,rfl,rfl,rfl,rfl⟩:=h
       obtain⟨h1,h2⟩:=hs _ _ _ _ _ _ _ _ hr
       obtain⟨J,hJ⟩:∃ J:FJ,J=fun _ _ _ _=>True:=⟨_,rfl⟩
       have h5:=h2 J J (.FX hl) (oM c.2 fun r1 S1=>r1=.ob k sz' 0 Tb none/\S1=den J s2) ⟨_,_,(Cz hf).1 _,rfl,rfl⟩
       rw [ud] at h5
       obtain⟨r1,S1,k1,rfl,rfl⟩:=(hE.qR _ _ _ ht).w8 (R:=fun r1 S1=>r1=.ob k sz' 0 Tb none/\S1=den J s2) (S:=den J S9) (Nat.le_of_ble_eq_true hn) h5
       exact⟨rV hp,fun r hr a ha=>dS (jn hc.2 r hr a ha),k,_,k1,za hk⟩
      ·cases h
     ·cases h
    ·cases h
   ·cases h
  ·cases h
theorem ql:∀ {l m:List AV},du (l++m)->du l/\du m
 |[],m,h=>⟨trivial,h⟩
 |a::l,m,h=>⟨⟨h.1,(ql h.2).1⟩,(ql h.2).2⟩
theorem pP (hE:eC P w0 E) (hs:oc P w0 rc) {g:Nat}{aZ9:List AV}(h:EA E rc g aZ9=some r):av P w0 g aZ9 r/\du aZ9:=by
 unfold EA at h
 split at h
 ·rename_i r' he
  obtain rfl:=Option.some.inj h
  exact hE.ext _ _ _ he
 ·split at h
  ·rename_i v hv
   split at h
   ·rename_i hh first cap
    split at h
    ·rename_i h1
     obtain rfl:=Option.some.inj h
     obtain⟨k1,k2⟩:=ox hE hs h1
     obtain⟨k3,k4⟩:=ql k2
     exact⟨hE.x7 _ _ hv _ _ _ k2 k1,.fn (du.all k3) (du.all k4),trivial⟩
    ·cases h
   ·cases h
  ·exact ox hE hs h
theorem r5:∀ {m:Nat}{a:AV},FO m a=true->pV a
 |0,a,h=>by cases h
 |m+1,a,h=>by
  cases a with
  |v x=>exact .v
  |agg l=>exact .agg fun a ha=>r5 (cW h a ha)
  |aC l=>exact .aC fun a ha=>r5 (cW h a ha)
  |_=>cases h
theorem Al (hE:eC P w0 E) (hs:oc P w0 rc) {g:Nat}{aZ9:List AV}(h:Ox E rc g aZ9 s=some (r,s')):(∀ J J',gF P w0 s s' J J'->aE P w0 g aZ9 (den J s) r (den J' s'))/\cZ ⟨s.m,s.nx,s.nx,s.yk,s.an,s.lg⟩ s':=by
 unfold Ox at h
 split at h
 ·cases h
 ·rename_i c n ht
  split at h
  ·rename_i hn
   split at h
   ·rename_i ex F s1 hr
    obtain⟨h1,h2⟩:=hs _ _ _ _ _ _ _ _ hr
    obtain⟨f1,f2,f3⟩:=Cz h
    refine⟨fun J J' hc=>?_,h1.trans f2⟩
    have jc:gF P w0 ⟨s.m,s.nx,s.nx,s.yk,s.an,s.lg⟩ s1 J J':=by
     obtain⟨L,hL,hJ⟩:=hc
     exact⟨L,by rw [<-f3];exact hL,hJ⟩
    have h5:=h2 J J' jc (oM c.2 fun r1 S1=>r1=r/\S1=den J' s') ⟨r,_,f1 J',rfl,rfl⟩
    rw [ud] at h5
    obtain⟨r1,S1,k1,rfl,rfl⟩:=(hE.qR _ _ _ ht).w8 (R:=fun r1 S1=>r1=r/\S1=den J' s') (S:=den J s) (Nat.le_of_ble_eq_true hn) h5
    exact k1
   ·cases h
  ·cases h
theorem Ri {k:Nat}(h:cZ s s') (hk:k < s'.lw):(den J s').get k=(den J s).get k:=by
 show (match cY s'.yk k with|true=>some (Ob.fo J)|false=>dJ s' k)=(match cY s.yk k with|true=>some (Ob.fo J)|false=>dJ s k)
 rw [h.yk,h.aJ k hk]
theorem Tc {kb:Nat}:cZ s (JY s kb)/\(JY s kb).lg=s.lg/\∀ (J:FJ) {g:FuncId}{aZ9:List AV}{r:AV}{S':aa},aE P w0 g aZ9 (den J (JY s kb)) r S'->aE P w0 g aZ9 (den J s) r S':=by
 unfold JY
 split
 ·rename_i sz k sz' m cs fz ex hy hb
  split
  ·rename_i ew rows Ac ex' Sz aP hk
   split
   ·rename_i hc
    simp only [Bool.and_eq_true] at hc
    obtain rfl:=Nat.eq_of_beq_eq_true hc.1
    have hm:=Nat.eq_of_beq_eq_true hc.2
    have KV:kb ≠ k:=fun e=>by rw [e,Nat.beq_refl] at aP;cases aP
    refine⟨cZ.wr.trans .wr,rfl,fun J {g aZ9 r S'} h=>?_⟩
    rw [gD (s:=jb s k _) hy,gD Sz] at h
    exact aE.share (cz (J:=J) hb).1 (cz (J:=J) hk).1 KV hm h
   ·exact⟨.refl _,rfl,fun J {g aZ9 r S'} h=>h⟩
  ·exact⟨.refl _,rfl,fun J {g aZ9 r S'} h=>h⟩
 ·exact⟨.refl _,rfl,fun J {g aZ9 r S'} h=>h⟩
theorem Td {k:Nat}:cZ s (EB E k s)/\(EB E k s).lg=s.lg/\∀ (J:FJ) {g:FuncId}{aZ9:List AV}{r:AV}{S':aa},aE P w0 g aZ9 (den J (EB E k s)) r S'->aE P w0 g aZ9 (den J s) r S':=by
 unfold EB
 split
 ·exact Tc
 ·exact⟨.refl _,rfl,fun J {g aZ9 r S'} h=>h⟩
theorem Dz (hE:eC P w0 E) (hs:oc P w0 rc) {fw:Bool}{gq:QO}{jz:List QO}{f:Nat->AV}{df:List DE}(h:FP E rc fw (gq.ev f) (jz.map (·.ev f)) s=some (r,s')) :
  (∀ J J',gF P w0 s s' J J'->ad P w0 false (.call gq jz) ⟨f,df⟩ (den J s) r (den J' s'))/\cZ s s':=by
 unfold FP at h
 split at h
 ·rename_i k hk
  split at h
  ·rename_i hy
   have hy:=On hy
   split at h
   ·rename_i mN s1 hf
    obtain⟨N,n1,n2,n3,n4,n5,n6,n7,n8,n9⟩:=rX hf
    simp only [Option.some.injEq] at h
    have key:∀ (bt:Bool) (a':Nat),(.v (.bool bt),⟨s1.m,s1.nx,s1.lw,s1.yk,a',(mN,bt)::s1.lg⟩)=(r,s')->(∀ J J',gF P w0 s s' J J'->ad P w0 false (.call gq jz) ⟨f,df⟩ (den J s) r (den J' s'))/\cZ s s':=by
     intro bt a' e
     simp only [Prod.mk.injEq] at e
     obtain⟨rfl,rfl⟩:=e
     refine⟨fun J J' hc=>?_,n5.trans ⟨Nat.le_refl _,Nat.le_refl _,rfl,⟨[(mN,bt)],rfl⟩,fun _ _=>rfl⟩⟩
     obtain⟨L,hL,hJ⟩:=hc
     have hL:(mN,bt)::s1.lg=L++s.lg:=hL
     rw [n6] at hL
     have I9:[(mN,bt)]=L:=List.append_cancel_right (bs:=s.lg) hL
     subst I9
     cases hJ with
     |cons h1 t =>
      cases t
      have hg:(den J s1).get k=some (.fo J):=by
       show (match cY s1.yk k with|true=>some (Ob.fo J)|false=>dJ s1 k)=_
       rw [n8,hy]
       simp only [cY,Nat.beq_refl]
      have hd:∀ J':FJ,den J' ⟨s1.m,s1.nx,s1.lw,s1.yk,a',(mN,bt)::s1.lg⟩=(den J s1).set k (some (.fo J')):=by
       intro J'
       unfold den aa.set
       simp only [aa.mk.injEq,and_true]
       funext j
       by_cases e:j=k
       ·subst e
        rw [ah,n8,hy]
        simp only [cY,Nat.beq_refl]
       ·rw [aq _ _ e,n8,hy]
        have:cY (some k) j=false:=by
         cases hb:cY (some k) j with
         |false=>rfl
         |true=>exact absurd (Option.some.inj (On hb)).symm e
        rw [this]
        rfl
      rw [hd]
      have hR:=s9.z_ (S:=den J s) (N:=N) (n1 J) (Nat.le_of_eq (by show s.nx=s1.nx;rw [n7])) (n2 J) n3 (h1 _ _ hg)
      intro n o fg
      obtain⟨c,u,ho,hu,rfl,rfl⟩:=jZ fg
      rw [iO (α:=⟨f,df⟩)] at hR
      rw [aD (α:=⟨f,df⟩)] at hk
      exact EC ho hu hk hR
    unfold ZI at h
    split at h
    ·exact key _ _ h
    ·exact key _ _ h
   ·cases h
  ·cases h
 ·split at h
  ·cases h
  ·rename_i g aZ9 cA
   split at h
   ·rename_i v hv
    split at h
    ·rename_i x Te
     simp only [Option.some.injEq,Prod.mk.injEq] at h
     obtain⟨rfl,rfl⟩:=h
     obtain⟨xs,qS,bw⟩:=hE.nat _ _ _ hv
     refine⟨fun J J' hc=>?_,.refl _⟩
     obtain rfl:=hc.same rfl
     have tf:x=.func (.func g) #[] #[]/\aZ9=jz.map (·.ev f):=by
      rw [Te] at cA
      unfold dZ at cA
      split at cA
      ·rename_i g' a b he
       split at cA
       ·rename_i e1 e2
        simp only [Option.some.injEq,Prod.mk.injEq] at cA
        obtain⟨rfl,rfl⟩:=cA
        injection he with he
        obtain⟨a⟩:=a
        obtain⟨b⟩:=b
        simp only at e1 e2
        subst e1 e2
        exact⟨he,rfl⟩
       ·cases cA
      ·rename_i he;cases he
      ·cases cA
     rw [tf.1] at Te
     exact ad.ext (α:=⟨f,df⟩) Te (by show jz.map (·.ev f)=_;rw [<-tf.2];exact qS) bw
    ·cases h
   ·split at h
    ·rename_i r' hp
     simp only [Option.some.injEq,Prod.mk.injEq] at h
     obtain⟨rfl,rfl⟩:=h
     split at hp
     ·refine⟨fun J J' hc=>?_,.refl _⟩
      obtain rfl:=hc.same rfl
      obtain⟨h1,h2⟩:=hE.ext _ _ _ hp
      exact ad.b9 cA h1 h2
     ·refine⟨fun J J' hc=>?_,.refl _⟩
      obtain rfl:=hc.same rfl
      unfold ZJ at hp
      split at hp
      ·obtain⟨h1,h2⟩:=pP hE hs hp
       exact ad.b9 cA h1 h2
      ·split at hp
       ·rename_i mN hf
        split at hp
        ·rename_i r2 t_
         split at hp
         ·rename_i hsc
          obtain rfl:=Option.some.inj hp
          obtain⟨h1,h2⟩:=pP hE hs t_
          have h3:=(tU hf).1
          refine ad.E4 cA h1 h2 (r5 hsc) ?_
          have mono:∀ {l l':List AV},jg (dy s) l l'->jg (den J' s) l l':=by
           intro l
           induction l with
           |nil=>intro l' h;cases l' with|nil=>trivial|cons=>exact h.elim
           |cons a l ih=>intro l' h;cases l' with|nil=>exact h.elim|cons b l'=>exact⟨h.1.mono fun _ _ _ _ _ h=>za h,ih h.2⟩
          exact mono h3
         ·cases hp
        ·cases hp
       ·cases hp
    ·split at h
     ·rename_i q hq
      obtain rfl:=Option.some.inj h
      unfold ZK at hq
      split at hq
      ·split at hq
       ·rename_i mN s1 hf
        split at hq
        ·rename_i r1 he
         simp only [Option.some.injEq,Prod.mk.injEq] at hq
         obtain⟨rfl,rfl⟩:=hq
         obtain⟨N,n1,n2,n3,n4,n5,n6,n7,n8,n9⟩:=rX hf
         refine⟨fun J J' hc=>?_,n5⟩
         obtain rfl:=hc.same n6
         obtain⟨h1,h2⟩:=hE.ext _ _ _ he
         exact ad.call cA (aE.z_ (S:=den J' s) (N:=N) (n1 J') (Nat.le_of_eq (by show s.nx=s1.nx;rw [n7])) (n2 J') n3 (h1.AW n4 (den J' s1))) (fun e=>by cases e)
        ·cases hq
       ·cases hq
      ·cases hq
     ·split at h
      ·rename_i r1 s1 hw
       obtain⟨h1,h2⟩:=Al hE hs hw
       simp only [Option.some.injEq,Prod.mk.injEq] at h
       obtain⟨rfl,rfl⟩:=h
       obtain⟨q1,q2,q3⟩:=Td (P:=P) (w0:=w0) (E:=E) (s:=s) (k:=g)
       refine⟨fun J J' hc=>ad.call cA (q3 J (h1 J J' ?_)) (fun e=>by cases e),⟨Nat.le_trans (Nat.min_le_left _ _) q1.lw,Nat.le_trans q1.nx h2.nx,h2.yk.trans q1.yk,by obtain⟨L,hL⟩:=h2.lg;exact⟨L,by rw [<-q2];exact hL⟩,fun k hk=>(h2.aJ k (Nat.lt_of_lt_of_le hk (Nat.min_le_right _ _))).trans (q1.aJ k (Nat.lt_of_lt_of_le hk (Nat.min_le_left _ _)))⟩⟩
       obtain⟨L,hL,hJ⟩:=hc
       exact⟨L,by rw [q2];exact hL,hJ⟩
      ·cases h
theorem Am (hE:eC P w0 E) {dr:Bool}{q:cB}{f:Nat->AV}{df:List DE}{S:aa}(h:JZ E q f=some r):ad P w0 dr q ⟨f,df⟩ S r S:=by
 unfold JZ at h
 split at h
 ·split at h
  ·rename_i a b ha hb
   split at h
   ·rename_i e he
    obtain rfl:=Option.some.inj h
    exact ad.eqs ha hb (hE.seq _ _ _ _ he)
   ·cases h
  ·cases h
 ·cases h
theorem wT {kt:Nat}:∀ {l:List (Value × AV)},Ct E kt l=true->∀ p ∈ l,E.Ez kt p.1=true
 |[],_,a,h=>by cases h
 |b::l,hp,a,h=>by
  simp only [Ct] at hp
  split at hp
  ·rename_i hb
   rcases List.mem_cons.1 h with rfl|h
   ·exact hb
   ·exact wT hp a h
  ·cases hp
theorem FY (hE:eC P w0 E) (hs:oc P w0 rc) {fw:Bool}{q:cB}{f:Nat->AV}{df:List DE}(h:Cu E rc fw q f s=some (r,s')):(∀ J J',gF P w0 s s' J J'->ad P w0 false q ⟨f,df⟩ (den J s) r (den J' s'))/\cZ s s':=by
 have other:(match JZ E q f with|some r=>some (r,s)|none=>oI false q f s)=some (r,s')->(∀ J J',gF P w0 s s' J J'->ad P w0 false q ⟨f,df⟩ (den J s) r (den J' s'))/\cZ s s':=fun h=>by
  split at h
  ·rename_i r1 he
   simp only [Option.some.injEq,Prod.mk.injEq] at h
   obtain⟨rfl,rfl⟩:=h
   refine⟨fun J J' hc=>?_,.refl _⟩
   obtain rfl:=hc.same rfl
   exact Am hE he
  obtain⟨h1,h2,h3⟩:=JK (P:=P) (w0:=w0) (df:=df) h
  refine⟨fun J J' hc=>?_,h2⟩
  obtain rfl:=hc.same h3
  exact h1 J'
 cases q with
 |call g aZ9=>exact Dz hE hs h
 |append sz by_ a b =>
  simp only [Cu] at h
  split at h
  ·rename_i r1 ha
   obtain rfl:=Option.some.inj h
   obtain⟨h1,h2,h3⟩:=xV (P:=P) (w0:=w0) (df:=df) (dr:=false) ha
   refine⟨fun J J' hc=>?_,h2⟩
   obtain rfl:=hc.same h3
   exact h1 J'
  ·split at h
   ·rename_i ex rows ha hm
    simp only [Option.some.injEq,Prod.mk.injEq] at h
    obtain⟨rfl,rfl⟩:=h
    refine⟨fun J J' hc=>?_,.refl _⟩
    obtain rfl:=hc.same rfl
    exact ad.Fy ha (gj hm)
   ·rename_i ex rows ha hm
    split at h
    ·rename_i hb
     simp only [Option.some.injEq,Prod.mk.injEq] at h
     obtain⟨rfl,rfl⟩:=h
     refine⟨fun J J' hc=>?_,.refl _⟩
     obtain rfl:=hc.same rfl
     exact ad.U4 ha hb
    ·cases h
   ·cases h
 |iI kt z c x i =>
  simp only [Cu] at h
  split at h
  ·rename_i k v hx hi
   split at h
   ·rename_i es hk
    split at h
    ·rename_i hc
     simp only [Bool.and_eq_true] at hc
     simp only [Option.some.injEq,Prod.mk.injEq] at h
     obtain⟨rfl,rfl⟩:=h
     refine⟨fun J J' fS=>?_,.refl _⟩
     obtain rfl:=fS.same rfl
     exact ad.iI hx (cz (J:=J') hk).1 hi (hE.key _ _ _ hc.1 (wT hc.2))
    ·cases h
   ·cases h
  ·cases h
 |l5 kt x i b =>
  simp only [Cu] at h
  split at h
  ·rename_i k v hx hi
   split at h
   ·rename_i es hk
    split at h
    ·rename_i hc hn
     simp only [Bool.and_eq_true] at hc
     simp only [Option.some.injEq,Prod.mk.injEq] at h
     obtain⟨rfl,rfl⟩:=h
     refine⟨fun J J' fS=>?_,.wr⟩
     obtain rfl:=fS.same rfl
     obtain⟨dL,eN⟩:=cz (J:=J') hk
     rw [gD eN]
     exact ad.l5 hx dL hi (hE.key _ _ _ hc.1 (wT hc.2)) hn rfl
    ·cases h
   ·cases h
  ·cases h
 |_=>exact other h
theorem An (hE:eC P w0 E) (hs:oc P w0 rc) {fw:Bool}{q:cB}{f:Nat->AV}{df:List DE}(h:Oy E rc fw q f s=some (r,s')):(∀ J J',gF P w0 s s' J J'->ad P w0 false q ⟨f,df⟩ (den J s) r (den J' s'))/\cZ s s':=by
 unfold Oy at h
 split at h
 ·rename_i r1 h1
  obtain rfl:=Option.some.inj h
  obtain⟨k1,k2,k3⟩:=FI (P:=P) (w0:=w0) (df:=df) h1
  refine⟨fun J J' hc=>?_,k2⟩
  obtain rfl:=hc.same k3
  exact k1 J'
 ·exact FY hE hs h
theorem x8 {rd:Bool}{n:Nat}{c:QC}{body:Fr->XS->XR}
  (hb:∀ F s ex F' s',body F s=.dn ex F' s'->cZ s s'/\∀ J J',gF P w0 s s' J J'->∀ c1,bD P.toTables n c1=some c->cg P c1=true->bI P w0 rd n c1 (bE F) (den J s) ex (bE F') (den J' s')) :
  ∀ {k:Nat}{F F':Fr}{s s':XS}{ex:Exit},FQ body k F s=some (ex,F',s')->cZ s s'/\∀ J J',gF P w0 s s' J J'->∀ c1,bD P.toTables n c1=some c->cg P c1=true->pZ P w0 rd n c1 (bE F) (den J s) ex (bE F') (den J' s')
 |0,t,t',s,s',ex,h=>by cases h
 |k+1,t,t',s,s',ex,h=>by
  simp only [FQ] at h
  split at h
  ·rename_i e1 t1 s1 h1
   obtain⟨p1,p2⟩:=hb _ _ _ _ _ h1
   split at h
   ·obtain⟨q1,q2⟩:=x8 hb h
    refine⟨p1.trans q1,fun J J' hc c1 jc hd=>?_⟩
    obtain⟨J1,k1,k2⟩:=gF.split p1 q1 hc
    exact pZ.step (p2 _ _ k1 c1 jc hd) (q2 _ _ k2 c1 jc hd)
   ·rename_i aP
    simp only [Option.some.injEq,Prod.mk.injEq] at h
    obtain⟨rfl,rfl,rfl⟩:=h
    exact⟨p1,fun J J' hc c1 jc hd=>pZ.done (p2 _ _ hc c1 jc hd) (fun e=>aP e)⟩
  ·cases h
theorem x9:∀ {ks:List Nat}{s s':XS},FR s ks=some s'->(∀ J,den J s'=⟨DJ (den J s).get ks,s.nx⟩)/\cZ s s'/\s'.lg=s.lg/\s'.nx=s.nx
 |[],s,s',h=>by obtain rfl:=Option.some.inj h;exact⟨fun J=>rfl,.refl _,rfl,rfl⟩
 |k::ks,s,s',h=>by
  simp only [FR] at h
  split at h
  ·rename_i s1 h1
   obtain⟨p1,p2,p3,p4⟩:=x9 h1
   split at h
   ·rename_i hy
    obtain rfl:=Option.some.inj h
    refine⟨fun J=>?_,p2.trans .wr,p3,p4⟩
    rw [gD hy,p1]
    rfl
   ·cases h
  ·cases h
theorem CA {W:List (Nat × Option Ob)}{m:Bool}(h:aW s W m=some s'):(∀ J,den J s'=cJ (den J s) W m)/\cZ s s'/\s'.lg=s.lg:=by
 unfold aW at h
 split at h
 ·obtain rfl:=Option.some.inj h
  exact⟨fun J=>cE.symm,.refl _,rfl⟩
 ·split at h
  ·rename_i hy
   obtain rfl:=Option.some.inj h
   exact⟨fun J=>by rw [gD hy,dp];rfl,.wr,rfl⟩
  ·cases h
 ·split at h
  ·rename_i hb
   simp only [Bool.and_eq_true,Bool.not_eq_true'] at hb
   have h1:=Nat.eq_of_beq_eq_true hb.1
   subst h1
   obtain rfl:=Option.some.inj h
   exact⟨fun J=>by rw [gE hb.2,dp];rfl,.nw,rfl⟩
  ·cases h
 ·split at h
  ·rename_i o j _ hb
   simp only [Bool.and_eq_true,Bool.not_eq_true'] at hb
   have h1:=Nat.eq_of_beq_eq_true hb.1.1
   subst h1
   obtain rfl:=Option.some.inj h
   exact⟨fun J=>by rw [gE (s:=jb s _ none) hb.1.2,gD hb.2,dp];rfl,cZ.wr.trans .nw,rfl⟩
  ·cases h
 ·cases h
theorem J4 (hE:eC P w0 E) (hs:oc P w0 rc) {fr:Bool}{q:cB}{f:Nat->AV}{df:List DE}{rs lQ:List Nat}{ns:List Nat × List Nat × Bool}(h:Oz E rc fr q f s rs=some (r,ns,lQ,s')) :
  (∀ (J:FJ) (B:Nat),(∀ k ∈ rs,k < B)->∃ d:Dt,d.ns=ns/\a_ P w0 B q ⟨f,df⟩ (den J s) r d/\den J s'=cJ (den J s) d.W d.m)/\(∀ k ∈ lQ,k ∈ rs)/\cZ s s'/\s'.lg=s.lg:=by
 have quiet:∀ {q:cB},(match dq q f (dy s) rs with
   |some (r,d,lQ)=>(match aW s d.W d.m with|some s'=>some (r,d.ns,lQ,s')|none=>none)
   |none=>none)=some (r,ns,lQ,s')->(∀ (J:FJ) (B:Nat),(∀ k ∈ rs,k < B)->∃ d:Dt,d.ns=ns/\a_ P w0 B q ⟨f,df⟩ (den J s) r d/\den J s'=cJ (den J s) d.W d.m)/\(∀ k ∈ lQ,k ∈ rs)/\cZ s s'/\s'.lg=s.lg:=fun {q} h=>by
  split at h
  ·rename_i r1 d Nr hq
   split at h
   ·rename_i s1 ha
    simp only [Option.some.injEq,Prod.mk.injEq] at h
    obtain⟨rfl,rfl,rfl,rfl⟩:=h
    obtain⟨p1,p2,p3⟩:=CA ha
    have pf:∀ k ∈ Nr,k ∈ rs:=(vV (P:=P) (w0:=w0) (df:=df) (B:=rs.foldr (fun a b=>a+b) 0+1) (fun k hk=>by
     have:∀ l:List Nat,k ∈ l->k<=l.foldr (fun a b=>a+b) 0:=by
      intro l
      induction l with
      |nil=>intro h;cases h
      |cons a l ih =>
       intro h
       rw [List.foldr_cons]
       rcases List.mem_cons.1 h with rfl|h
       ·omega
       ·have:=ih h
        omega
     have:=this rs hk
     omega) hq).2
    refine⟨fun J B ju=>⟨d,rfl,fun n o hr=>?_,p1 J⟩,pf,p2,p3⟩
    obtain⟨k1,k2,k3⟩:=(vV (P:=P) (w0:=w0) (df:=df) ju hq).1 n o hr
    exact⟨k1,fun p hp=>(cz (k2 p hp)).1,fun T hb hT hm=>k3 T hb hT hm⟩
   ·cases h
  ·cases h
 unfold Oz at h
 split at h
 ·rename_i r1 hp
  simp only [Option.some.injEq,Prod.mk.injEq] at h
  obtain⟨rfl,rfl,rfl,rfl⟩:=h
  exact⟨fun J B ju=>⟨⟨[],[],false⟩,rfl,a_.pure fun T=>zX hp,cE.symm⟩,fun _ h=>h,.refl _,rfl⟩
 split at h
 ·rename_i r1 hp
  simp only [Option.some.injEq,Prod.mk.injEq] at h
  obtain⟨rfl,rfl,rfl,rfl⟩:=h
  exact⟨fun J B ju=>⟨⟨[],[],false⟩,rfl,a_.pure fun T=>Am hE hp,cE.symm⟩,fun _ h=>h,.refl _,rfl⟩
 ·cases q with
  |call g aZ9 =>
   simp only at h
   split at h
   ·rename_i hh mN cA
    split at h
    ·rename_i sz len rows fz ex Tg
     simp only [Option.some.injEq,Prod.mk.injEq] at h
     obtain⟨rfl,rfl,rfl,rfl⟩:=h
     split at Tg
     ·rename_i hy
      obtain⟨k1,k2,k,S1,k3,k4⟩:=J3 hE hs Tg
      refine⟨fun J B ju=>⟨⟨[],[(s.nx,some (.arr sz rows fz ex))],true⟩,rfl,a_.U5 (S:=den J s) cA k1 k3 k4 k2,?_⟩,fun _ h=>h,.nw,rfl⟩
      rw [gE hy,dp]
      rfl
     ·cases Tg
    ·split at h
     ·rename_i r1 hp
      simp only [Option.some.injEq,Prod.mk.injEq] at h
      obtain⟨rfl,rfl,rfl,rfl⟩:=h
      obtain⟨k1,k2⟩:=pP hE hs hp
      exact⟨fun J B ju=>⟨⟨[],[],false⟩,rfl,a_.pure fun T=>ad.b9 cA k1 k2,cE.symm⟩,fun _ h=>h,.refl _,rfl⟩
     ·cases h
   ·cases h
  |append sz by_ a b =>
   simp only at h
   split at h
   ·rename_i r1 d ha
    split at h
    ·rename_i s1 hw
     simp only [Option.some.injEq,Prod.mk.injEq] at h
     obtain⟨rfl,rfl,rfl,rfl⟩:=h
     obtain⟨p1,p2,p3⟩:=CA hw
     exact⟨fun J B ju=>⟨d,rfl,Fz ha,p1 J⟩,fun _ h=>h,p2,p3⟩
    ·cases h
   ·cases h
  |_=>exact quiet h
theorem zb {n:Nat}{c1:Code}{l:List QI}(jc:bD P.toTables n c1=some (.aR false l)) {R:AA->aa->Prop}{E:List PanicEntry->AA->aa->Prop}{β:AA}{T:aa}(hE:∀ ch α S,¬ E ch α S) (h:ff P w0 n false l R E β T) :
  ∃ bG bR,bI P w0 true n c1 β T .normal bG bR/\R bG bR:=by
 obtain⟨id,ops,rfl,_,h3⟩:=Aj jc
 obtain⟨ag,S',h5,h6⟩:=(h _ _ h3 0 rfl).resolve_right fun ⟨ch,ag,S',_,h6⟩=>hE _ _ _ h6
 rw [Array.length_toList,<-List.range_eq_range'] at h5
 exact⟨ag,S',bI.region h5,h6⟩
theorem x_ (hs:oc P w0 rc) {n:Nat}{c1 c2:Code}{qa qb:QC}{F F':Fr}{ex:Exit}(h:FT rc n qa qb F s=.dn ex F' s') :
  cZ s s'/\(bD P.toTables n c1=some qa->bD P.toTables n c2=some qb->cg P c2=true->(∀ ch,ex ≠ .panic ch)->∀ J J',gF P w0 s s' J J'->∃ bG bR,bI P w0 true n c1 (bE F) (den J s) .normal bG bR/\Wp P w0 true n c2 (fun e α S=>e=ex/\α=bE F'/\S=den J' s') bG bR):=by
 unfold FT at h
 split at h
 ·rename_i l ha
  obtain⟨p1,p2⟩:=hs _ _ _ _ _ _ _ _ h
  refine⟨p1,fun jc fS fC ED J J' hc=>?_⟩
  have hq:=p2 J J' hc (fun e α S=>e=ex/\α=bE F'/\S=den J' s') ⟨rfl,rfl,rfl⟩
  unfold L7 at ha
  split at ha
  ·injection ha with ha;injection ha with _ h2
   subst h2
   obtain⟨bG,bR,h3,h4⟩:=(hq [] [] rfl 0 rfl).resolve_right fun ⟨ch,ag,S',_,h6⟩=>ED ch h6.1.symm
   refine⟨bG,bR,?_,h4 c2 fS fC⟩
   intro F m A g a w hF hR hS hA
   exact (nc.1 jc).wp (h3 F m A g a w (lz w0 n A g w .normal bG bR) hF hS hA fun a' w' g' h1 h2 h3=>⟨rfl,g',h1,h2,h3⟩)
  ·injection ha with ha;injection ha with _ h2
   subst h2
   obtain⟨bG,bR,h3,h4⟩:=zb jc (fun ch α S he=>ED ch he.1.symm) hq
   exact⟨bG,bR,h3,h4 c2 fS fC⟩
  ·cases ha
  ·cases ha
 ·rename_i a l ha
  split at h
  ·rename_i F1 s1 h1
   split at h
   ·rename_i hl
    obtain⟨p1,p2⟩:=hs _ _ _ _ _ _ _ _ h1
    obtain⟨p3,p4⟩:=hs _ _ _ _ _ _ _ _ h
    have hl:s1.lg=s.lg:=by
     obtain⟨L,hL⟩:=p1.lg
     have:=Nat.eq_of_beq_eq_true hl
     rw [hL,List.length_append] at this
     rw [hL,List.length_eq_zero_iff.1 (show L.length=0 by omega)]
     rfl
    refine⟨p1.trans p3,fun jc fS fC ED J J' hc=>?_⟩
    have xH:=p2 J J (.FX hl) (fun e α S=>e=.normal/\α=bE F1/\S=den J s1) ⟨rfl,rfl,rfl⟩
    have DQ:gF P w0 s1 s' J J':=by obtain⟨X,hX,hJ⟩:=hc;exact⟨X,by rw [hl];exact hX,hJ⟩
    have nB:=p4 J J' DQ (fun e α S=>e=ex/\α=bE F'/\S=den J' s') ⟨rfl,rfl,rfl⟩
    unfold L7 at ha
    split at ha
    ·cases ha
    ·cases ha
    ·simp only [Option.some.injEq,Prod.mk.injEq] at ha
     obtain⟨rfl,rfl⟩:=ha
     obtain⟨r1,r2,rfl,k1,k2⟩:=Ak jc
     obtain⟨bG,bR,h3,h4⟩:=zb k1 (fun ch α S he=>by cases he.1) xH
     obtain⟨_,rfl,rfl⟩:_/\bG=bE F1/\bR=den J s1:=h4
     obtain⟨AI,E9,h5,h6⟩:=zb k2 (fun ch α S he=>ED ch he.1.symm) nB
     exact⟨AI,E9,bI.seq h3 h5,h6 c2 fS fC⟩
    ·cases ha
   ·cases h
  ·cases h
 ·cases h
theorem yb (hs:oc P w0 rc) {n B N:Nat}{c1 c2:Code}{pt:Array Tmp}{qa qb:QC}{t:Tr AV}{st0:List (Nat × AV)}(jc:bD P.toTables n c1=some qa) (fS:bD P.toTables n c2=some qb) (dG:cg P c1=true) (fC:cg P c2=true)
  (Bh:∀ t ∈ pt,t < n) (jS:dI t=jj (fun _=>.u) st0) (hk:∀ p ∈ st0,cC B p.2):∀ {lg:List (List AV × Bool)}{s s':XS}{ex:Exit},s.nx=N->uc rc n B N qa qb pt.toList t lg s=some (ex,s') ->
  s'.nx=N/\s'.yk=s.yk/\(∃ L,s'.lg=L++s.lg)/\(s.lw=0->s'.lw=0)/\∀ J J',gF P w0 s s' J J'->∃ j,xo ex=some j/\∀ A gs T0,(∀ k,gs.al k->k < B) ->
   tP P w0 (LJ w0.heap.size A gs n T0 .ready none pt c1 c2 (f_ st0 []).tm (au (ll J s) N)) lg (LJ w0.heap.size A gs n T0 (kS j) j pt c1 c2 (f_ st0 []).tm (au (ll J' s') N))
 |[],s,s',ex,hN,h=>by
  simp only [uc,Option.some.injEq,Prod.mk.injEq] at h
  obtain⟨rfl,rfl⟩:=h
  refine⟨hN,rfl,⟨[],rfl⟩,id,fun J J' hc=>⟨none,rfl,fun A gs T0 _=>?_⟩⟩
  obtain rfl:=hc.same rfl
  exact .nil _
 |(x,b)::rest,s,s',ex,hN,h=>by
  simp only [uc] at h
  split at h
  case h_2=>cases h
  rename_i hx
  simp only [Bool.and_eq_true] at hx
  have mH:=Nat.eq_of_beq_eq_true hx.1
  have iN:∀ a ∈ x,Pure a:=fun a ha=>dS (cW hx.2 a ha)
  split at h
  case h_2=>cases h
  rename_i vJ F1 s2 hr
  split at h
  case h_2=>cases h
  rename_i s3 NC DS
  obtain⟨p1,p2⟩:=x_ (c1:=c1) (c2:=c2) hs hr
  obtain⟨g1,g2,g3,g4,g5,g6⟩:=Aa (F:=dI F1.t) DS
  have I8:∀ t,cC B ((f_ st0 []).tm t):=fun t=>Bm hk t
  have rn:∀ {j:Option Code},xo vJ=some j->∀ J J1,gF P w0 s s2 J J1->∀ A gs T0,(∀ k,gs.al k->k < B)->∀ (T:aa) (k:Nat),T.get k=some (.fo (LJ w0.heap.size A gs n T0 .ready none pt c1 c2 (f_ st0 []).tm (au (ll J s) N))) ->
    s9 P w0 k x T (.v (.bool j.isNone)) (T.set k (some (.fo (LJ w0.heap.size A gs n T0 (kS j) j pt c1 c2 (f_ st0 []).tm (au (ll J1 s3) N))))):=by
   intro j hj J J1 hc A gs T0 hB T k hT
   have ED:∀ ch,vJ ≠ .panic ch:=fun ch e=>by rw [e] at hj;cases hj
   obtain⟨bG,bR,h2,ex2,kF,S2,h4,rfl,rfl,rfl⟩:=p2 jc fS fC ED J J1 hc
   have e1:bE ⟨uW t (pt.toList.zip x),[]⟩=⟨rB (f_ st0 []).tm (pt.toList.zip x),[]⟩:=by
    unfold bE
    rw [zW,jS]
    rfl
   have e2:den J s=au (ll J s) N:=by rw [<-hN,Cd]
   rw [e1,e2] at h2
   obtain⟨m,hC⟩:=g6 J1
   have e3:bE F1=⟨dI F1.t,[]⟩:=by unfold bE;rw [NC]
   rw [<-e3] at hC
   exact s9.rnd h2 h4 hC hj (by rw [mH,Array.length_toList]) iN Bh I8 hB hT
  split at h
  ·obtain⟨q1,q2,⟨L2,q3⟩,q4,q5⟩:=yb hs jc fS dG fC Bh jS hk g1 h
   obtain⟨L1,pj⟩:=p1.lg
   refine⟨q1,by rw [q2,g2];exact p1.yk,⟨L2++L1,by rw [q3,g4,pj,List.append_assoc]⟩,fun _=>q4 g5,fun J J' hc=>?_⟩
   obtain⟨X,hX,hJ⟩:=hc
   rw [q3,g4,pj,<-List.append_assoc] at hX
   obtain rfl:=List.append_cancel_right hX
   rw [List.reverse_append] at hJ
   obtain⟨J1,k1,k2⟩:=hJ.app
   obtain⟨j,hj,hq5⟩:=q5 J1 J' ⟨L2,q3,k2⟩
   exact⟨j,hj,fun A gs T0 hB=>.cons (rn (j:=none) rfl J J1 ⟨L1,pj,k1⟩ A gs T0 hB) (hq5 A gs T0 hB)⟩
  ·simp only [Option.some.injEq,Prod.mk.injEq] at h
   obtain⟨rfl,rfl⟩:=h
   obtain⟨L1,pj⟩:=p1.lg
   refine⟨g1,by rw [g2];exact p1.yk,⟨L1,by rw [g4,pj]⟩,fun _=>g5,fun J J' hc=>⟨_,rfl,fun A gs T0 hB=>?_⟩⟩
   obtain⟨X,hX,hJ⟩:=hc
   rw [g4] at hX
   exact .cons (rn rfl J J' ⟨X,hX,hJ⟩ A gs T0 hB) (.nil _)
  ·simp only [Option.some.injEq,Prod.mk.injEq] at h
   obtain⟨rfl,rfl⟩:=h
   obtain⟨L1,pj⟩:=p1.lg
   refine⟨g1,by rw [g2];exact p1.yk,⟨L1,by rw [g4,pj]⟩,fun _=>g5,fun J J' hc=>⟨_,rfl,fun A gs T0 hB=>?_⟩⟩
   obtain⟨X,hX,hJ⟩:=hc
   rw [g4] at hX
   exact .cons (rn rfl J J' ⟨X,hX,hJ⟩ A gs T0 hB) (.nil _)
  ·cases h
theorem CB (hs:oc P w0 rc) {n B N:Nat}{qa:QC}{qb:QC}{ps:List Nat}{t:Tr AV}:∀ {lg:List (List AV × Bool)}{s s':XS}{ex:Exit},s.nx=N->uc rc n B N qa qb ps t lg s=some (ex,s') ->
  s'.nx=N/\s'.yk=s.yk/\(∃ L,s'.lg=L++s.lg)/\(s.lw=0->s'.lw=0)
 |[],s,s',ex,hN,h=>by
  simp only [uc,Option.some.injEq,Prod.mk.injEq] at h
  obtain⟨rfl,rfl⟩:=h
  exact⟨hN,rfl,⟨[],rfl⟩,id⟩
 |(x,b)::rest,s,s',ex,hN,h=>by
  simp only [uc] at h
  split at h
  case h_2=>cases h
  split at h
  case h_2=>cases h
  rename_i vJ F1 s2 hr
  split at h
  case h_2=>cases h
  rename_i s3 NC DS
  have p1:=(x_ (P:=P) (w0:=w0) (c1:=.skip) (c2:=.skip) hs hr).1
  obtain⟨g1,g2,g3,g4,g5,g6⟩:=Aa (F:=dI F1.t) DS
  obtain⟨L1,pj⟩:=p1.lg
  have fin:s3.nx=N/\s3.yk=s.yk/\(∃ L,s3.lg=L++s.lg)/\(s.lw=0->s3.lw=0):=⟨g1,by rw [g2];exact p1.yk,⟨L1,by rw [g4,pj]⟩,fun _=>g5⟩
  split at h
  ·obtain⟨q1,q2,⟨L2,q3⟩,q4⟩:=CB hs g1 h
   exact⟨q1,by rw [q2,g2];exact p1.yk,⟨L2++L1,by rw [q3,g4,pj,List.append_assoc]⟩,fun _=>q4 g5⟩
  ·simp only [Option.some.injEq,Prod.mk.injEq] at h
   obtain⟨rfl,rfl⟩:=h
   exact fin
  ·simp only [Option.some.injEq,Prod.mk.injEq] at h
   obtain⟨rfl,rfl⟩:=h
   exact fin
  ·cases h
theorem ue {s s':XS}(h:s.yk=s'.yk):∀ {l:List (Nat × Option Ob)},tV s l=tV s' l
 |[]=>rfl
 |p::l=>by
  simp only [tV,h]
  split
  ·rw [ue h]
  ·exact ue h
theorem J5 {s s':XS}(hm:s.m=s'.m) (h:s.yk=s'.yk):ll J s=ll J s':=by
 unfold ll
 rw [hm,h,ue h]
theorem Ao {B N:Nat}{m:List (Nat × Nat)}{f:Nat->AV}:∀ {l:List (Nat × AV)},(∀ p ∈ l,f p.1=p.2/\cC B p.2)->xk B m N f l
 |[],_=>trivial
 |p::l,h=>⟨.aJ (h p (by simp)).1 (h p (by simp)).2,Ao fun q hq=>h q (by simp [hq])⟩
theorem CC {B N:Nat}{m:List (Nat × Nat)}{S:aa}:∀ {l:List (Nat × Ob)},(∀ p ∈ l,∃ bm,S.get (cF B (aN m) p.1)=some bm/\s5 B m N bm p.2)->eI B m N S l
 |[],_=>trivial
 |p::l,h=>⟨.inl (h p (by simp)),CC fun q hq=>h q (by simp [hq])⟩
theorem yc (hE:eC P w0 E) (hs:oc P w0 rc) {g:Nat}{aZ9:List AV}{an:Nat}{lg:List (List AV × Bool)}(h:FU E rc g aZ9 an=some lg):∀ J J',tP P w0 J lg J'->∃ r S1,aE P w0 g aZ9 (au [(0,.fo J)] 1) r S1/\S1.get 0=some (.fo J'):=by
 unfold FU at h
 split at h
 ·rename_i r s' hw
  obtain rfl:=Option.some.inj h
  obtain⟨h1,h2⟩:=Al hE hs hw
  intro J J' hJ
  obtain⟨L,hL⟩:=h2.lg
  have hc:=h1 J J' ⟨s'.lg,by simp,hJ⟩
  have e:den J ⟨.nil,1,1,some 0,an,[]⟩=au [(0,.fo J)] 1:=by
   unfold den au
   simp only [aa.mk.injEq,and_true]
   funext k
   simp only [cY,cM]
   cases Nat.beq 0 k<;>rfl
  rw [e] at hc
  refine⟨r,_,hc,?_⟩
  show (match cY s'.yk 0 with|true=>some (Ob.fo J')|false=>dJ s' 0)=_
  have:s'.yk=some 0:=h2.yk
  rw [this]
  rfl
 ·cases h
theorem FZ (hE:eC P w0 E) (hs:oc P w0 rc) {g:Nat}{aZ9:List AV}{R:List (List AV × Bool)->Option (Exit × XS)}{C:List (List AV × Bool)->Option Nat}{q:Exit × XS}(h:L8 rc E g aZ9 R C=some q) :
  ∃ lg,R lg=some q/\∀ J J',tP P w0 J lg J'->∃ r S1,aE P w0 g aZ9 (au [(0,.fo J)] 1) r S1/\S1.get 0=some (.fo J'):=by
 unfold L8 at h
 split at h
 ·rename_i lg h1
  split at h
  ·rename_i q' h2
   obtain rfl:=Option.some.inj h
   exact⟨lg,h2,yc hE hs h1⟩
  ·split at h
   ·split at h
    ·rename_i lg2 h3
     exact⟨lg2,h,yc hE hs h3⟩
    ·cases h
   ·cases h
 ·cases h
theorem wU {B:Nat}:∀ {l:List (Nat × AV)},FV B l=true->∀ p ∈ l,cC B p.2
 |[],_,a,h=>by cases h
 |b::l,hp,a,h=>by
  simp only [FV] at hp
  split at hp
  ·rename_i hb
   rcases List.mem_cons.1 h with rfl|h
   ·exact iD hb
   ·exact wU hp a h
  ·cases hp
theorem CD {B:Nat}:∀ {l:List (Nat × Option Ob)},FW B s l=true->∀ p ∈ l,p.1 < B/\∀ o,p.2=some o->kH B o
 |[],_,a,h=>by cases h
 |b::l,hp,a,h=>by
  simp only [FW] at hp
  split at hp
  ·rename_i hb
   simp only [Bool.and_eq_true] at hb
   rcases List.mem_cons.1 h with rfl|h
   ·refine⟨c_ hb.1,fun o ho=>?_⟩
    have h2:=hb.2
    rw [ho] at h2
    exact B9 h2
   ·exact CD hp a h
  ·cases hp
theorem Ap {t:Tr AV}:dI t=jj (fun _=>.u) (toLk t):=by
 have key:∀ (l:List (Nat × AV)) (g:Nat->Option AV),(∀ k a,(k,a) ∈ l ↔ g k=some a)->∀ k,jj (fun _=>.u) l k=match g k with|some a=>a|none=>.u:=by
  intro l g h k
  have h1:∀ (l:List (Nat × AV)),(∃ a,(k,a) ∈ l/\jj (fun _=>.u) l k=a)\/((∀ a,(k,a) ∉ l)/\jj (fun _=>.u) l k=.u):=by
   intro l
   induction l with
   |nil=>exact .inr ⟨fun a h=>(by cases h),rfl⟩
   |cons p l ih =>
    obtain⟨j,b⟩:=p
    by_cases e:k=j
    ·subst e
     exact .inl ⟨b,by simp,ah _ _ _⟩
    ·have e2:jj (fun _=>.u) ((j,b)::l) k=jj (fun _=>.u) l k:=aq _ _ e
     rw [e2]
     rcases ih with ⟨a,h1,h2⟩|⟨h1,h2⟩
     ·exact .inl ⟨a,List.mem_cons_of_mem _ h1,h2⟩
     ·refine .inr ⟨fun a h=>?_,h2⟩
      rcases List.mem_cons.1 h with h|h
      ·injection h with h3 h4;exact e h3
      ·exact h1 a h
  rcases h1 l with ⟨a,h2,h3⟩|⟨h2,h3⟩
  ·rw [h3,(h k a).1 h2]
  ·rw [h3]
   cases e:g k with
   |none=>rfl
   |some a=>exact absurd ((h k a).2 e) (h2 a)
 funext k
 rw [key (toLk t) (ef t) (fun k a=>toLk_mem) k]
 rfl
theorem F0 (hE:eC P w0 E) (hs:oc P w0 rc) {n:Nat}{x:QO}{ps:List Nat}{qa qb:QC}{F F':Fr}{ex:Exit}(h:L9 E rc n (x.ev (dI F.t)) ps qa qb F s=some (ex,F',s')) :
  cZ s s'/\∀ J J',gF P w0 s s' J J'->∀ Q K,bu P w0 false n Q (.out ex K) (bE F') (den J' s')->bu P w0 false n Q (.run (.vW x ps qa qb) K) (bE F) (den J s):=by
 unfold L9 at h
 split at h
 case h_2=>cases h
 rename_i gid first cap hx
 split at h
 case h_2=>cases h
 rename_i vn
 simp only [Bool.and_eq_true,Bool.not_eq_true'] at vn
 obtain⟨⟨⟨⟨⟨⟨⟨⟨c1,c2⟩,c3⟩,c4⟩,c5⟩,c6⟩,c7⟩,c8⟩,c9⟩:=vn
 split at h
 case h_2=>cases h
 rename_i vJ s1 ga
 simp only [Option.some.injEq,Prod.mk.injEq] at h
 obtain⟨rfl,rfl,rfl⟩:=h
 obtain⟨lg,hR,Oi⟩:=FZ hE hs ga
 obtain⟨r0,pQ⟩:∃ r0:XS,r0=⟨(jA s .df).m,s.nx+41,0,s.yk,s.an,s.lg⟩:=⟨_,rfl⟩
 rw [<-pQ] at hR
 have r1:r0.nx=s.nx+41:=by rw [pQ]
 have r2:r0.lg=s.lg:=by rw [pQ]
 have r3:r0.yk=s.yk:=by rw [pQ]
 have r4:∀ J,ll J r0=ll J (jA s .df):=fun J=>J5 (by rw [pQ]) (by rw [pQ];rfl)
 obtain⟨q1,q2,⟨L,q3⟩,q4⟩:=CB hs r1 hR
 have q4:=q4 (by rw [pQ])
 refine⟨⟨by omega,by omega,q2.trans r3,⟨L,by rw [q3,r2]⟩,fun k hk=>by omega⟩,fun J J' hc Q K hQ=>?_⟩
 intro c vG hd
 obtain⟨y,pt,a1,a2,rfl,rfl,rfl,jc,fS⟩:=FN vG
 simp only [cg,Bool.and_eq_true] at hd
 obtain⟨_,_,_,_,q5⟩:=yb (P:=P) (w0:=w0) (pt:=pt) (st0:=toLk F.t) hs jc fS hd.1 hd.2 (fun t ht=>by
  have:=List.all_eq_true.1 c3 t (by simpa using ht)
  exact c_ this) Ap (wU c6) r1 hR
 obtain⟨j,hj,hch⟩:=q5 J J' (by obtain⟨X,hX,hJ⟩:=hc;exact⟨X,by rw [r2];exact hX,hJ⟩)
 have Sw:(bE F).ev y=.fn (.func gid) first cap:=by rw [<-aD];exact hx
 have hC:Canon (s.nx+1) (s.nx+41) [] ⟨(bE F).tm,(den J s).nx::(bE F).df⟩ ((den J s).new .df) (toLk F.t) ((den J s).nx::(bE F).df) (ll J r0):=by
  refine⟨Ao fun p hp=>⟨?_,wU c6 p hp⟩,rfl,CC fun p hp=>?_,?_,Nat.ble_eq_true_of_le (by omega),?_⟩
  ·have:=toLk_mem.1 (show (p.1,p.2) ∈ toLk F.t from hp)
   show dI F.t p.1=p.2
   unfold dI
   rw [this]
  ·obtain⟨k,o⟩:=p
   rw [r4] at hp
   have hg:=Ev.1 hp
   rw [gE c4] at hg
   have ZL:k < s.nx+1/\kH (s.nx+1) o:=by
    unfold ll at hp
    rcases List.mem_append.1 hp with hp|hp
    ·have hy:(jA s .df).yk=s.yk:=rfl
     rw [hy] at hp
     cases ZM:s.yk with
     |none=>rw [ZM] at hp;cases hp
     |some y2 =>
      rw [ZM] at hp c9
      simp only [JN,List.mem_singleton,Prod.mk.injEq] at hp
      obtain⟨rfl,rfl⟩:=hp
      exact⟨c_ c9,trivial⟩
    ·obtain⟨h1,h2⟩:=qN.1 hp
     obtain⟨h3,h4⟩:=CD c7 _ h2
     exact⟨h3,h4 o rfl⟩
   exact⟨o,by simp only;rw [iP ZL.1];exact hg,.same ZL.2⟩
  ·rw [r4,Cc]
   exact c8
  ·show (Nat.blt s.nx (s.nx+1) && F.ds.all fun d=>Nat.blt d.k (s.nx+1))=true
   rw [c5,show Nat.blt s.nx (s.nx+1)=true from Nat.ble_eq_true_of_le (Nat.le_refl _)]
   rfl
 refine⟨vJ,_,_,bI.range (n:=n) (st0:=toLk F.t) (so0:=ll J r0) (so1:=ll J' s1) (j:=j) Sw (fun a ha=>dS (cW c1 a ha)) (fun a ha=>dS (cW c2 a ha)) hC (Nat.le_refl _) hj (fun A gs T0 hB=>Oi _ _ (hch A gs T0 hB)),?_⟩
 have e1:f_ (toLk F.t) ((den J s).nx::(bE F).df)=bE ⟨F.t,s.nx::F.ds⟩:=by
  unfold f_ bE
  rw [Ap]
  rfl
 rw [e1,<-q1,Cd]
 exact hQ
theorem F2 {x:QO}{F F':Fr}{n:Nat}(h:L_ x F s=some (F',s')):cZ s s'/\s'.lg=s.lg/\∀ J,Cv w0 n (bE F) (den J s) (bE F') (den J s'):=by
 unfold L_ at h
 split at h
 case h_2=>cases h
 rename_i t
 split at h
 case h_2=>cases h
 rename_i f first cap hx
 split at h
 ·cases h
 ·split at h
  ·rename_i a s1 hf
   simp only [Option.some.injEq,Prod.mk.injEq] at h
   obtain⟨rfl,rfl⟩:=h
   obtain⟨N,n1,n2,n3,n4,n5,n6,n7,n8,n9⟩:=rX hf
   refine⟨n5,n6,fun J=>?_⟩
   have:=Cv.aaL (w0:=w0) (n:=n) (α:=bE F) (t:=t) (a':=a) (S:=den J s) (S':=den J s1) (N:=N) (n1 J) (Nat.le_of_eq (by show s.nx=s1.nx;rw [n7])) (n2 J) (by show dI F.t t ≠ .u;rw [hx];intro h;cases h) (by show bX N (dI F.t t) a;rw [hx];exact n3.1)
   have e:bE ⟨put F.t t a,F.ds⟩=⟨aX (bE F).tm t a,(bE F).df⟩:=by
    unfold bE
    rw [rT]
   rw [e]
   exact this
  ·cases h
def CE (P:Program) (w0:World) (rd:Bool) (n:Nat) (f:QF->Fr->XS->XR):Prop :=
 (∀ c F s c' F' s',f c F s=.mr c' F' s'->cZ s s'/\∀ J J',gF P w0 s s' J J'->∀ Q,bu P w0 rd n Q c' (bE F') (den J' s')->bu P w0 rd n Q c (bE F) (den J s)) /\
 (∀ c F s ex F' s',f c F s=.dn ex F' s'->cZ s s'/\∀ J J',gF P w0 s s' J J'->∀ Q,Q ex (bE F') (den J' s')->bu P w0 rd n Q c (bE F) (den J s))
theorem CE.it {rd:Bool}{n:Nat}{f:QF->Fr->XS->XR}(h:CE P w0 rd n f):∀ k,CE P w0 rd n (J2 f k)
 |0=>h
 |k+1=>by
  have ih:=CE.it h k
  refine⟨fun c t s c' t' s' e=>?_,fun c t s ex t' s' e=>?_⟩
  all_goals
   simp only [J2] at e
   split at e
   ·rename_i c1 t1 s1 h1
    obtain⟨p1,p2⟩:=ih.1 _ _ _ _ _ _ h1
    first
     |(obtain⟨q1,q2⟩:=ih.1 _ _ _ _ _ _ e
       refine⟨p1.trans q1,fun J J' hc Q hQ=>?_⟩
       obtain⟨J1,k1,k2⟩:=gF.split p1 q1 hc
       exact p2 _ _ k1 Q (q2 _ _ k2 Q hQ))
     |(obtain⟨q1,q2⟩:=ih.2 _ _ _ _ _ _ e
       refine⟨p1.trans q1,fun J J' hc Q hQ=>?_⟩
       obtain⟨J1,k1,k2⟩:=gF.split p1 q1 hc
       exact p2 _ _ k1 Q (q2 _ _ k2 Q hQ))
   ·first
     |exact ih.1 _ _ _ _ _ _ e
     |exact ih.2 _ _ _ _ _ _ e
theorem Th {s0 s1:XS}{J J':FJ}{k:Nat}(h:cZ s0 s1) (hc:gF P w0 s0 s1 J J') (hk:k < Cw s0 s1):(den J' s1).get k=(den J s0).get k:=by
 unfold Cw at hk
 split at hk
 ·rename_i hb
  obtain⟨L,hL⟩:=h.lg
  have:L=[]:=by
   have h1:=Nat.eq_of_beq_eq_true hb
   rw [hL,List.length_append] at h1
   exact List.eq_nil_of_length_eq_zero (by omega)
  subst this
  obtain rfl:=hc.same hL
  exact Ri h hk
 ·omega
theorem Ti {s0 s s1:XS}{J J':FJ}{k:Nat}(h:cZ s0 s1) (hc:gF P w0 s0 s1 J J') (em:s.m=s0.m) (ey:s.yk=s0.yk) (el:s.lg=s0.lg) (hw:Cw s s1=Cw s0 s1) (hk:Ey (Cw s s1,OA s s1) k=true):(den J' s1).get k=(den J s0).get k:=by
 unfold Ey at hk
 split at hk
 ·rename_i hb
  exact Th h hc (by rw [<-hw];exact c_ hb)
 ·have aaX:∀ {l:List Nat},FK l k=true->k ∈ l:=by
   intro l
   induction l with
   |nil=>intro h;cases h
   |cons a l ih =>
    intro h
    unfold FK at h
    split at h
    ·rename_i e;rw [Nat.eq_of_beq_eq_true e];simp
    ·exact List.mem_cons_of_mem _ (ih h)
  have hk:=aaX hk
  simp only at hk
  unfold OA at hk
  split at hk
  ·rename_i hb
   obtain⟨L,hL⟩:=h.lg
   have:L=[]:=by
    have h1:=Nat.eq_of_beq_eq_true hb
    rw [hL,List.length_append,el] at h1
    exact List.eq_nil_of_length_eq_zero (by omega)
   subst this
   obtain rfl:=hc.same hL
   have h2:=(List.mem_filter.1 hk).2
   split at h2
   ·cases h2
   ·rename_i hy
    have h3:=Q7 h2
    have h4:dJ s k=dJ s0 k:=by unfold dJ;rw [em]
    show (match cY s1.yk k with|true=>some (Ob.fo J')|false=>dJ s1 k)=(match cY s0.yk k with|true=>some (Ob.fo J')|false=>dJ s0 k)
    rw [h.yk,<-ey,hy,<-h4,h3]
  ·cases hk
theorem Rj (hE:eC P w0 E) (hs:oc P w0 rc) (rd:Bool) (n:Nat):CE P w0 rd n (jH E rc rd n):=by
 have pR:∀ {c c':QF}{t:Fr}{s:XS},(∀ (Q:Exit->AA->aa->Prop) α S,bu P w0 rd n Q c' α S->bu P w0 rd n Q c α S)->∀ {c2:QF}{t':Fr}{s':XS},XR.mr c' t s=.mr c2 t' s'->cZ s s'/\∀ J J',gF P w0 s s' J J'->∀ Q,bu P w0 rd n Q c2 (bE t') (den J' s')->bu P w0 rd n Q c (bE t) (den J s):=by
  intro c c' t s hm c2 t' s' e
  injection e with e1 e2 e3
  subst e1 e2 e3
  refine⟨.refl _,fun J J' hc Q hQ=>?_⟩
  obtain rfl:=hc.same rfl
  exact hm _ _ _ hQ
 refine⟨fun c t s c' t' s' e=>?_,fun c t s ex t' s' e=>?_⟩
 ·cases c with
  |run c K =>
   cases c with
   |skip=>exact pR (fun _ _ _=>bu.skip) e
   |aR dr l =>
    cases dr with
    |true=>cases e
    |false=>exact pR (fun _ _ _=>bu.aR) e
   |dh V l =>
    simp only [jH] at e
    split at e
    ·rename_i s1 h1
     injection e with e1 e2 e3
     subst e1 e2 e3
     obtain⟨p1,p2,p3,p4⟩:=x9 h1
     refine⟨⟨p2.lw,Nat.le_add_right _ _,p2.yk,p2.lg,p2.aJ⟩,fun J J' hc Q hQ=>?_⟩
     obtain rfl:=hc.same p3
     have:den J' ⟨s1.m,s.nx+(fK l s.nx).length,s1.lw,s1.yk,s1.an,s1.lg⟩=rq (den J' s) l:=by
      have:=congrArg aa.get (p1 J')
      unfold den rq
      simp only [aa.mk.injEq,and_true]
      exact this
     rw [this] at hQ
     exact bu.dh hQ
    ·cases e
   |seq a c=>exact pR (fun _ _ _=>bu.seq) e
   |cond x a c =>
    simp only [jH] at e
    split at e
    ·rename_i hx
     injection e with e1 e2 e3
     subst e1 e2 e3
     refine⟨.refl _,fun J J' hc Q hQ=>?_⟩
     obtain rfl:=hc.same rfl
     exact bu.cond (t:=true) hx hQ
    ·rename_i hx
     injection e with e1 e2 e3
     subst e1 e2 e3
     refine⟨.refl _,fun J J' hc Q hQ=>?_⟩
     obtain rfl:=hc.same rfl
     exact bu.cond (t:=false) hx hQ
    ·cases e
   |block id c=>exact pR (fun _ _ _=>bu.block) e
   |scope c=>exact pR (fun _ _ _=>bu.scope) e
   |loop c =>
    simp only [jH] at e
    split at e
    ·rename_i vJ t1 s1 h1
     injection e with e1 e2 e3
     subst e1 e2 e3
     obtain⟨q1,q2⟩:=x8 (P:=P) (w0:=w0) (rd:=rd) (n:=n) (c:=c) (fun t s ex t' s' h=>by
      obtain⟨p1,p2⟩:=hs _ _ _ _ _ _ _ _ h
      refine⟨p1,fun J J' hc c1 jc hd=>?_⟩
      obtain⟨e2,kF,S2,k1,rfl,rfl,rfl⟩:=p2 J J' hc (fun e α S=>e=ex/\α=bE t'/\S=den J' s') ⟨rfl,rfl,rfl⟩ c1 jc hd
      exact k1) h1
     refine⟨q1,fun J J' hc Q hQ=>?_⟩
     intro c0 vG hd0
     obtain⟨c1,rfl,jc⟩:=FM vG
     exact⟨_,_,_,bI.loop (q2 J J' hc c1 jc hd0),hQ⟩
    ·cases e
   |exit id=>exact pR (fun _ _ _=>bu.exit_) e
   |ret=>exact pR (fun _ _ _=>bu.aaU) e
   |vW x ps a c =>
    simp only [jH] at e
    split at e
    ·rename_i F1 s1 hp
     injection e with e1 e2 e3
     subst e1 e2 e3
     obtain⟨p1,p2,p3⟩:=F2 (w0:=w0) (n:=n) hp
     refine⟨p1,fun J J' hc Q hQ=>?_⟩
     obtain rfl:=hc.same p2
     exact bu.cv (p3 J') hQ
    ·split at e
     ·rename_i vJ F1 s1 hr
      injection e with e1 e2 e3
      subst e1 e2 e3
      obtain⟨p1,p2⟩:=F0 hE hs hr
      exact⟨p1,fun J J' hc Q hQ=>p2 J J' hc Q K hQ⟩
     ·cases e
   |raw c=>cases e
  |out ex K =>
   cases K with
   |nil=>cases e
   |cons it K =>
    cases it with
    |seq c=>cases ex<;>(simp only [jH] at e;exact pR (by exact fun _ _ _ h=>h) e)
    |nU id =>
     cases ex with
     |exit j =>
      simp only [jH] at e
      split at e
      ·rename_i hj
       refine pR (fun Q α S h=>?_) e
       show (match Nat.beq j id with|true=>gG P w0 rd n Q K .normal α S|false=>gG P w0 rd n Q K (.exit j) α S)
       rw [hj]
       exact h
      ·rename_i hj
       refine pR (fun Q α S h=>?_) e
       show (match Nat.beq j id with|true=>gG P w0 rd n Q K .normal α S|false=>gG P w0 rd n Q K (.exit j) α S)
       rw [hj]
       exact h
     |_=>simp only [jH] at e;exact pR (by exact fun _ _ _ h=>h) e
    |xd =>
     cases ex with
     |goto l=>cases e
     |_=>simp only [jH] at e;exact pR (by exact fun _ _ _ h=>h) e
  |aR dr l K =>
   cases dr with
   |true=>cases l<;>cases e
   |false =>
    cases l with
    |nil=>exact pR (fun _ _ _=>bu.fin) e
    |cons i l =>
     simp only [jH] at e
     split at e
     ·rename_i hw
      split at e
      ·rename_i r1 s1 ho
       injection e with e1 e2 e3
       subst e1 e2 e3
       obtain⟨p1,p2⟩:=An hE hs (df:=t.ds) ho
       refine⟨p2,fun J J' hc Q hQ=>?_⟩
       refine bu.op (α:=bE t) hw (p1 J J' hc) ?_
       unfold bE
       rw [o4]
       exact hQ
      ·cases e
     ·rename_i hw
      injection e with e1 e2 e3
      subst e1 e2 e3
      refine⟨.refl _,fun J J' hc Q hQ=>?_⟩
      obtain rfl:=hc.same rfl
      refine bu.no (α:=bE t) hw ?_
      unfold bE
      rw [o4]
      exact hQ
     ·cases e
  |dh B V lg rs l K =>
   cases l with
   |nil =>
    simp only [jH] at e
    split at e
    ·rename_i hc
     exact pR (fun _ _ _=>bu.aaW hc) e
    ·cases e
   |cons i l =>
    simp only [jH] at e
    split at e
    ·rename_i hw
     split at e
     ·rename_i r1 ns Nr s1 ho
      split at e
      ·rename_i hx
       injection e with e1 e2 e3
       subst e1 e2 e3
       have ho:Oz E rc (y_ i.d l) i.q (dI t.t) s rs=some (r1,ns,Nr,s1):=by
        split at ho
        ·exact ho
        ·cases ho
       obtain⟨p1,p2,p3,p4⟩:=J4 hE hs (df:=t.ds) ho
       refine⟨p3,fun J J' hc Q hQ=>?_⟩
       obtain rfl:=hc.same p4
       intro ju hB
       obtain⟨d,rfl,k2,k3⟩:=p1 J' B ju
       have e5:bE ⟨rU i.d t.t r1,t.ds⟩=bJ i.d (bE t) r1:=by
        unfold bE
        rw [o4]
       rw [k3,e5] at hQ
       exact bu.mJ (α:=bE t) hw hx k2 (fun _ Ow=>hQ (fun k hk=>ju k (p2 k hk)) Ow) ju hB
      ·cases e
     ·split at e
      ·cases e
      ·rename_i hx
       split at e
       ·rename_i r1 s1 ho
        injection e with e1 e2 e3
        subst e1 e2 e3
        obtain⟨p1,p2⟩:=An hE hs (df:=t.ds) ho
        have p3:cZ s ⟨s1.m,s1.nx,Nat.min s.lw s1.lw,s1.yk,s1.an,s1.lg⟩:=⟨Nat.min_le_left _ _,p2.nx,p2.yk,p2.lg,fun k hk=>p2.aJ k (Nat.lt_of_lt_of_le hk (Nat.min_le_right _ _))⟩
        refine⟨p3,fun J J' hc Q hQ=>?_⟩
        have e5:bE ⟨rU i.d t.t r1,t.ds⟩=bJ i.d (bE t) r1:=by
         unfold bE
         rw [o4]
        rw [e5] at hQ
        exact bu.xop (α:=bE t) (S':=den J' s1) (lw:=(Cw s s1,OA s s1)) hw hx p2.nx (fun k hk=>Ti (s0:=⟨s.m,s.nx,s.nx,s.yk,s.an,s.lg⟩) (s:=s) p2 hc rfl rfl rfl rfl hk) (p1 J J' hc) hQ
       ·cases e
    ·rename_i hw
     injection e with e1 e2 e3
     subst e1 e2 e3
     refine⟨.refl _,fun J J' hc Q hQ=>?_⟩
     obtain rfl:=hc.same rfl
     have e5:bE ⟨rU i.d t.t (.v undef),t.ds⟩=bJ i.d (bE t) (.v undef):=by
      unfold bE
      rw [o4]
     rw [e5] at hQ
     exact bu.dno (α:=bE t) hw hQ
    ·cases e
 ·cases c with
  |out vJ K =>
   cases K with
   |nil =>
    injection e with e1 e2 e3
    subst e1 e2 e3
    refine⟨.refl _,fun J J' hc Q hQ=>?_⟩
    obtain rfl:=hc.same rfl
    exact hQ
   |cons it K =>
    cases it<;>cases vJ<;>simp only [jH] at e<;>(repeat' split at e)<;>cases e
  |run c K =>
   cases c with
   |aR dr l=>cases dr<;>cases e
   |_ =>
    simp only [jH] at e
    repeat' split at e
    all_goals cases e
  |aR dr l K =>
   cases dr with
   |true=>cases l<;>cases e
   |false =>
    cases l with
    |nil=>cases e
    |cons i l =>
     simp only [jH] at e
     repeat' split at e
     all_goals cases e
  |dh B V lg rs l K =>
   cases l with
   |nil =>
    simp only [jH] at e
    repeat' split at e
    all_goals cases e
   |cons i l =>
    simp only [jH] at e
    repeat' split at e
    all_goals cases e
theorem oy (hE:eC P w0 E):∀ m,oc P w0 (Cx E m)
 |0=>fun rd n c t s ex t' s' h=>by cases h
 |m+1=>fun rd n c t s ex t' s' h=>((Rj hE (oy hE m) rd n).it 14).2 c t s ex t' s' h
theorem av.emp {g:Nat}{ex:Bool}{r:AV}(h:∀ A c,av P w0 g [.v (.slice A 0 c)] r):av P w0 g [.sl ex []] r:=by
 have hp:∀ A c,∀ a ∈ [AV.v (.slice A 0 c)],Pure a:=fun A c a ha=>by
  simp only [List.mem_singleton] at ha
  subst ha
  exact .v
 refine⟨(h none 0).1,aa.none_,((h none 0).w8 (hp _ _) aa.none_).1,fun F m A g aV w hF hS hA=>?_⟩
 have aZ:aV.size=1:=hA.1
 obtain⟨v,rfl⟩:∃ v,aV=#[v]:=by
  obtain⟨l⟩:=aV
  match l,aZ with
  |[x],_=>exact⟨x,rfl⟩
 have hr:=hA.2 0 _ v rfl rfl
 obtain⟨B,c,e,_,_⟩:=mz hr
 subst e
 refine ((h B c).w8 (hp _ _) aa.none_).2 F m A g _ w hF hS ⟨rfl,fun i a x ha hx=>?_⟩
 match i,ha,hx with
 |0,ha,hx =>
  obtain rfl:=Option.some.inj ha
  obtain rfl:=Option.some.inj hx
  exact .v
theorem Env.eQ (hE:eC P w0 E) (m:Nat) {g:Nat}{aZ9:List AV}(h:EA E (Cx E m) g aZ9=some r):av P w0 g aZ9 r:=(pP hE (oy hE m) h).1
end
end Go.Proofs.YtgjfgekaclobaaaGreat
