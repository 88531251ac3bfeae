import Derived.Test.YtbofilglphfceaaGreatD35
namespace Go.Proofs.YtbofilglphfceaaGreat
set_option linter.unusedVariables false
set_option linter.unusedSimpArgs false
open Go.RowKit
structure dv (P:Program) (w0:World) (E:Env):Prop where
 seq:∀ t a b e,E.seq t a b=some e->FY P t a b e
 key:∀ kt v es,E.xP kt v=true->(∀ p ∈ es,E.xP kt p.1=true)->qH P kt v es (E.JQ v)
 vC:∀ g v,E.vC g=some v->∀ h first cap,cF (first++cap)->ag P w0 h (first++cap) (.aL [])->ag P w0 g [.fn (.func h) first cap] v
 o6:∀ g c n,E.o6 g=some (c,n)->ad P g c n
 ext:∀ g aZ9 r,E.ext g aZ9=some r->ag P w0 g aZ9 r/\cF aZ9
 nat:∀ g aZ9 v,E.nat g aZ9=some v->∃ xs:List Value,aZ9=xs.map .v/\∀ w:World,(callFunc g xs.toArray).run P w=.ok (.value v) w
def kN (P:Program) (w0:World) (rc:Rec):Prop:=∀ rd n c F s ex F' s',rc rd n c F s=.dn ex F' s'->cE s s'/\∀ J J',eP P w0 s s' J J'->∀ Q,Q ex (bo F') (den J' s')->a8 P w0 rd n Q c (bo F) (den J s)
section
variable {P:Program}{w0:World}{E:Env}{rc:Rec}{s s':XS}{r:AV}{J J':FJ}
theorem eP.zf (h:s'.lg=s.lg):eP P w0 s s' J J:=⟨[],h,.nil J⟩
theorem sW {k sz fz:Nat}{rows:List (List AV)}{ex:Bool}(h:(cS s).get k=some (.arr sz rows fz ex)):(den J s).get k=some (.arr sz rows fz ex):=(cg h).1
theorem mf {f:Nat->AV}:∀ {qs:List QR}{l:List AV},iC f (cS s) qs=some l->iC f (den J s) qs=some l
 |[],l,h=>h
 |.t n::qs,l,h=>by
  simp only [iC] at h ⊢
  split at h
  ·rename_i l' hl
   rw [mf hl]
   exact h
  ·cases h
 |.cell k n::qs,l,h=>by
  simp only [iC] at h ⊢
  split at h
  ·rename_i a l' ha hl
   rw [mf hl,rT ha]
   exact h
  ·cases h
theorem vH:∀ {ds:List Nat}{s s':XS},uz s ds=some s'->(∀ J,oz (den J s) ds=true/\eK (den J s) ds=den J s')/\cE s s'/\s'.lg=s.lg
 |[],s,s',h=>by obtain rfl:=Option.some.inj h;exact⟨fun J=>⟨rfl,rfl⟩,.refl _,rfl⟩
 |k::ds,s,s',h=>by
  simp only [uz] at h
  split at h
  ·rename_i hk
   obtain⟨h1,h2,h3⟩:=vH h
   refine⟨fun J=>?_,cE.wr.trans h2,h3⟩
   obtain⟨k1,k2⟩:=cg (J:=J) hk
   simp only [oz,eK,k1]
   have:=h1 J
   rwa [gk k2] at this
  ·cases h
theorem vI {qs:List QR}{ex:Exit}{F:Fr}(h:vD qs ex F s=some (r,s')):(∀ J,qz qs ex (bo F) (den J s)=some (r,den J s'))/\cE s s'/\s'.lg=s.lg:=by
 unfold vD at h
 split at h
 ·rename_i s1 he hd
  obtain⟨h1,h2,h3⟩:=vH hd
  split at h
  ·rename_i a hq
   simp only [Option.some.injEq,Prod.mk.injEq] at h
   obtain⟨rfl,rfl⟩:=h
   refine⟨fun J=>?_,h2,h3⟩
   unfold qz
   simp only [bo,he,(h1 J).1,(h1 J).2,mf hq]
  ·rename_i l aM hq
   simp only [Option.some.injEq,Prod.mk.injEq] at h
   obtain⟨rfl,rfl⟩:=h
   refine⟨fun J=>?_,h2,h3⟩
   unfold qz
   simp only [bo,he,(h1 J).1,(h1 J).2,mf hq]
  ·cases h
 ·cases h
theorem o8 {aZ9:List AV}:bo ⟨kW aZ9 0 .nil,[]⟩=⟨iH aZ9,[]⟩:=by
 unfold bo
 rw [Ea]
theorem kZ (hE:dv P w0 E) (hs:kN P w0 rc) {g:Nat}{aZ9:List AV}(h:sU E rc g aZ9=some r):ag P w0 g aZ9 r/\cF aZ9:=by
 unfold sU at h
 ·split at h
  ·cases h
  ·rename_i c n ht
   split at h
   ·rename_i hn hp
    split at h
    ·rename_i ex F s' hr
     split at h
     ·rename_i r0 s2 hl hf
      obtain⟨h1,h2⟩:=hs _ _ _ _ _ _ _ _ hr
      obtain⟨h3,h4⟩:bG (cS s2) r0 r/\Pure r:=by
       split at h
       ·rename_i hp
        obtain rfl:=Option.some.inj h
        exact⟨.refl _,cU hp⟩
       ·exact kX h
      have h5:=h2 (fun _ _ _ _=>True) (fun _ _ _ _=>True) (.zf hl) (lA c.2 fun r' S=>bG S r' r) ⟨r0,_,(vI hf).1 _,h3.mono fun _ _ _ _ _ h=>sW h⟩
      rw [o8] at h5
      exact⟨(hE.o6 _ _ _ ht).bc (Nat.le_of_ble_eq_true hn) h4 h5,nD hp⟩
     ·cases h
    ·cases h
   ·cases h
theorem CZ (hE:dv P w0 E) (hs:kN P w0 rc) {g:Nat}{aZ9:List AV}{sz len fz:Nat}{rows:List (List AV)}{ex:Bool}(h:JS E rc g aZ9=some (sz,len,rows,fz,ex)) :
  cF aZ9/\(∀ r ∈ rows,∀ a ∈ r,Pure a)/\∃ k S',aR P w0 g aZ9 U.none_ (.ob k sz 0 len none) S'/\S'.get k=some (.arr sz rows fz ex):=by
 unfold JS at h
 split at h
 ·cases h
 ·rename_i c n ht
  split at h
  ·rename_i hn hp
   split at h
   ·rename_i qg F s' hr
    split at h
    ·rename_i k Uv JU s2 hl hf
     split at h
     ·rename_i sz' Ub IM SW hk
      split at h
      ·rename_i hc
       simp only [Bool.and_eq_true] at hc
       have fG:=Nat.eq_of_beq_eq_true hc.1
       subst fG
       simp only [Option.some.injEq,Prod.mk.injEq] at h
       obtain⟨rfl,rfl,rfl,rfl,rfl⟩:=h
       obtain⟨h1,h2⟩:=hs _ _ _ _ _ _ _ _ hr
       obtain⟨J,hJ⟩:∃ J:FJ,J=fun _ _ _ _=>True:=⟨_,rfl⟩
       have h5:=h2 J J (.zf hl) (lA c.2 fun r1 S1=>r1=.ob k sz' 0 JU none/\S1=den J s2) ⟨_,_,(vI hf).1 _,rfl,rfl⟩
       rw [o8] at h5
       obtain⟨r1,S1,k1,rfl,rfl⟩:=(hE.o6 _ _ _ ht).tj (R:=fun r1 S1=>r1=.ob k sz' 0 JU none/\S1=den J s2) (S:=den J JR) (Nat.le_of_ble_eq_true hn) h5
       exact⟨nD hp,fun r hr a ha=>cU (fU hc.2 r hr a ha),k,_,k1,sW hk⟩
      ·cases h
     ·cases h
    ·cases h
   ·cases h
  ·cases h
theorem mD:∀ {l m:List AV},cF (l++m)->cF l/\cF m
 |[],m,h=>⟨trivial,h⟩
 |a::l,m,h=>⟨⟨h.1,(mD h.2).1⟩,(mD h.2).2⟩
theorem mg (hE:dv P w0 E) (hs:kN P w0 rc) {g:Nat}{aZ9:List AV}(h:xQ E rc g aZ9=some r):ag P w0 g aZ9 r/\cF aZ9:=by
 unfold xQ at h
 split at h
 ·rename_i r' he
  obtain rfl:=Option.some.inj h
  exact hE.ext _ _ _ he
 ·split at h
  ·rename_i v hv
   split at h
   ·rename_i hh first cap
    split at h
    ·rename_i h1
     obtain rfl:=Option.some.inj h
     obtain⟨k1,k2⟩:=kZ hE hs h1
     obtain⟨k3,k4⟩:=mD k2
     exact⟨hE.vC _ _ hv _ _ _ k2 k1,.fn (cF.all k3) (cF.all k4),trivial⟩
    ·cases h
   ·cases h
  ·exact kZ hE hs h
theorem nH:∀ {m:Nat}{a:AV},y8 m a=true->mq a
 |0,a,h=>by cases h
 |m+1,a,h=>by
  cases a with
  |v x=>exact .v
  |agg l=>exact .agg fun a ha=>nH (cr h a ha)
  |aL l=>exact .aL fun a ha=>nH (cr h a ha)
  |_=>cases h
theorem t_ (hE:dv P w0 E) (hs:kN P w0 rc) {g:Nat}{aZ9:List AV}(h:GI E rc g aZ9 s=some (r,s')):(∀ J J',eP P w0 s s' J J'->aR P w0 g aZ9 (den J s) r (den J' s'))/\cE ⟨s.m,s.nx,s.nx,s.yk,s.an,s.lg⟩ s':=by
 unfold GI at h
 split at h
 ·cases h
 ·rename_i c n ht
  split at h
  ·rename_i hn
   split at h
   ·rename_i ex F s1 hr
    obtain⟨h1,h2⟩:=hs _ _ _ _ _ _ _ _ hr
    obtain⟨f1,f2,f3⟩:=vI h
    refine⟨fun J J' hc=>?_,h1.trans f2⟩
    have fG:eP P w0 ⟨s.m,s.nx,s.nx,s.yk,s.an,s.lg⟩ s1 J J':=by
     obtain⟨L,hL,hJ⟩:=hc
     exact⟨L,by rw [<-f3];exact hL,hJ⟩
    have h5:=h2 J J' fG (lA c.2 fun r1 S1=>r1=r/\S1=den J' s') ⟨r,_,f1 J',rfl,rfl⟩
    rw [o8] at h5
    obtain⟨r1,S1,k1,rfl,rfl⟩:=(hE.o6 _ _ _ ht).tj (R:=fun r1 S1=>r1=r/\S1=den J' s') (S:=den J s) (Nat.le_of_ble_eq_true hn) h5
    exact k1
   ·cases h
  ·cases h
theorem HS {k:Nat}(h:cE s s') (hk:k < s'.lw):(den J s').get k=(den J s).get k:=by
 show (match cI s'.yk k with|true=>some (Ob.fo J)|false=>dM s' k)=(match cI s.yk k with|true=>some (Ob.fo J)|false=>dM s k)
 rw [h.yk,h.aV k hk]
theorem wG (hE:dv P w0 E) (hs:kN P w0 rc) {fw:Bool}{gq:QO}{oO:List QO}{f:Nat->AV}{df:List Nat}(h:y9 E rc fw (gq.ev f) (oO.map (·.ev f)) s=some (r,s')) :
  (∀ J J',eP P w0 s s' J J'->aa P w0 false (.call gq oO) ⟨f,df⟩ (den J s) r (den J' s'))/\cE s s':=by
 unfold y9 at h
 split at h
 ·rename_i k hk
  split at h
  ·rename_i hy
   have hy:=Gt hy
   split at h
   ·rename_i lN s1 hf
    obtain⟨N,n1,n2,n3,n4,n5,n6,n7,n8,n9⟩:=rW hf
    simp only [Option.some.injEq] at h
    have key:∀ (bt:Bool) (a':Nat),(.v (.bool bt),⟨s1.m,s1.nx,s1.lw,s1.yk,a',(lN,bt)::s1.lg⟩)=(r,s')->(∀ J J',eP P w0 s s' J J'->aa P w0 false (.call gq oO) ⟨f,df⟩ (den J s) r (den J' s'))/\cE s s':=by
     intro bt a' e
     simp only [Prod.mk.injEq] at e
     obtain⟨rfl,rfl⟩:=e
     refine⟨fun J J' hc=>?_,n5.trans ⟨Nat.le_refl _,Nat.le_refl _,rfl,⟨[(lN,bt)],rfl⟩,fun _ _=>rfl⟩⟩
     obtain⟨L,hL,hJ⟩:=hc
     have hL:(lN,bt)::s1.lg=L++s.lg:=hL
     rw [n6] at hL
     have IG:[(lN,bt)]=L:=List.append_cancel_right (bs:=s.lg) hL
     subst IG
     cases hJ with
     |cons h1 t =>
      cases t
      have hg:(den J s1).get k=some (.fo J):=by
       show (match cI s1.yk k with|true=>some (Ob.fo J)|false=>dM s1 k)=_
       rw [n8,hy]
       simp only [cI,Nat.beq_refl]
      have hd:∀ J':FJ,den J' ⟨s1.m,s1.nx,s1.lw,s1.yk,a',(lN,bt)::s1.lg⟩=(den J s1).set k (some (.fo J')):=by
       intro J'
       unfold den U.set
       simp only [U.mk.injEq,and_true]
       funext j
       by_cases e:j=k
       ·subst e
        rw [ah,n8,hy]
        simp only [cI,Nat.beq_refl]
       ·rw [aw _ _ e,n8,hy]
        have:cI (some k) j=false:=by
         cases hb:cI (some k) j with
         |false=>rfl
         |true=>exact absurd (Option.some.inj (Gt hb)).symm e
        rw [this]
        rfl
      rw [hd]
      have hR:=oF.Gy (S:=den J s) (N:=N) (n1 J) (Nat.le_of_eq (by show s.nx=s1.nx;rw [n7])) (n2 J) n3 (h1 _ _ hg)
      intro n o hY
      obtain⟨c,u,ho,hu,rfl,rfl⟩:=lz hY
      rw [ld (α:=⟨f,df⟩)] at hR
      rw [ay (α:=⟨f,df⟩)] at hk
      exact xR ho hu hk hR
    unfold Pz at h
    split at h
    ·exact key _ _ h
    ·exact key _ _ h
   ·cases h
  ·cases h
 ·split at h
  ·cases h
  ·rename_i g aZ9 dg
   split at h
   ·rename_i v hv
    split at h
    ·rename_i x JV
     simp only [Option.some.injEq,Prod.mk.injEq] at h
     obtain⟨rfl,rfl⟩:=h
     obtain⟨xs,mS,bm⟩:=hE.nat _ _ _ hv
     refine⟨fun J J' hc=>?_,.refl _⟩
     obtain rfl:=hc.same rfl
     have uX:x=.func (.func g) #[] #[]/\aZ9=oO.map (·.ev f):=by
      rw [JV] at dg
      unfold fh at dg
      split at dg
      ·rename_i g' a b he
       split at dg
       ·rename_i e1 e2
        simp only [Option.some.injEq,Prod.mk.injEq] at dg
        obtain⟨rfl,rfl⟩:=dg
        injection he with he
        obtain⟨a⟩:=a
        obtain⟨b⟩:=b
        simp only at e1 e2
        subst e1 e2
        exact⟨he,rfl⟩
       ·cases dg
      ·rename_i he;cases he
      ·cases dg
     rw [uX.1] at JV
     exact aa.ext (α:=⟨f,df⟩) JV (by show oO.map (·.ev f)=_;rw [<-uX.2];exact mS) bm
    ·cases h
   ·split at h
    ·rename_i r' hp
     simp only [Option.some.injEq,Prod.mk.injEq] at h
     obtain⟨rfl,rfl⟩:=h
     split at hp
     ·refine⟨fun J J' hc=>?_,.refl _⟩
      obtain rfl:=hc.same rfl
      obtain⟨h1,h2⟩:=hE.ext _ _ _ hp
      exact aa.aB dg h1 h2
     ·refine⟨fun J J' hc=>?_,.refl _⟩
      obtain rfl:=hc.same rfl
      unfold PA at hp
      split at hp
      ·obtain⟨h1,h2⟩:=mg hE hs hp
       exact aa.aB dg h1 h2
      ·split at hp
       ·rename_i lN hf
        split at hp
        ·rename_i r2 jD
         split at hp
         ·rename_i SX
          obtain rfl:=Option.some.inj hp
          obtain⟨h1,h2⟩:=mg hE hs jD
          have h3:=(oX hf).1
          refine aa.FK dg h1 h2 (nH SX) ?_
          have mono:∀ {l l':List AV},gz (cS s) l l'->gz (den J' s) l l':=by
           intro l
           induction l with
           |nil=>intro l' h;cases l' with|nil=>trivial|cons=>exact h.elim
           |cons a l ih=>intro l' h;cases l' with|nil=>exact h.elim|cons b l'=>exact⟨h.1.mono fun _ _ _ _ _ h=>sW h,ih h.2⟩
          exact mono h3
         ·cases hp
        ·cases hp
       ·cases hp
    ·split at h
     ·rename_i r1 s1 hw
      obtain⟨h1,h2⟩:=t_ hE hs hw
      simp only [Option.some.injEq,Prod.mk.injEq] at h
      obtain⟨rfl,rfl⟩:=h
      refine⟨fun J J' hc=>aa.call dg (h1 J J' hc) (fun e=>by cases e),⟨Nat.min_le_left _ _,h2.nx,h2.yk,h2.lg,fun k hk=>h2.aV k (Nat.lt_of_lt_of_le hk (Nat.min_le_right _ _))⟩⟩
     ·cases h
theorem ua (hE:dv P w0 E) {dr:Bool}{q:cj}{f:Nat->AV}{df:List Nat}{S:U}(h:CX E q f=some r):aa P w0 dr q ⟨f,df⟩ S r S:=by
 unfold CX at h
 split at h
 ·split at h
  ·rename_i a b ha hb
   split at h
   ·rename_i e he
    obtain rfl:=Option.some.inj h
    exact aa.eqs ha hb (hE.seq _ _ _ _ he)
   ·cases h
  ·cases h
 ·cases h
theorem qP {kt:Nat}:∀ {l:List (Value × AV)},vE E kt l=true->∀ p ∈ l,E.xP kt p.1=true
 |[],_,a,h=>by cases h
 |b::l,hp,a,h=>by
  simp only [vE] at hp
  split at hp
  ·rename_i hb
   rcases List.mem_cons.1 h with rfl|h
   ·exact hb
   ·exact qP hp a h
  ·cases hp
theorem zg (hE:dv P w0 E) (hs:kN P w0 rc) {fw:Bool}{q:cj}{f:Nat->AV}{df:List Nat}(h:vF E rc fw q f s=some (r,s')):(∀ J J',eP P w0 s s' J J'->aa P w0 false q ⟨f,df⟩ (den J s) r (den J' s'))/\cE s s':=by
 have other:(match CX E q f with|some r=>some (r,s)|none=>lu false q f s)=some (r,s')->(∀ J J',eP P w0 s s' J J'->aa P w0 false q ⟨f,df⟩ (den J s) r (den J' s'))/\cE s s':=fun h=>by
  split at h
  ·rename_i r1 he
   simp only [Option.some.injEq,Prod.mk.injEq] at h
   obtain⟨rfl,rfl⟩:=h
   refine⟨fun J J' hc=>?_,.refl _⟩
   obtain rfl:=hc.same rfl
   exact ua hE he
  obtain⟨h1,h2,h3⟩:=CN (P:=P) (w0:=w0) (df:=df) h
  refine⟨fun J J' hc=>?_,h2⟩
  obtain rfl:=hc.same h3
  exact h1 J'
 cases q with
 |call g aZ9=>exact wG hE hs h
 |append sz by_ a b =>
  simp only [vF] at h
  split at h
  ·rename_i r1 ha
   obtain rfl:=Option.some.inj h
   obtain⟨h1,h2,h3⟩:=rU (P:=P) (w0:=w0) (df:=df) (dr:=false) ha
   refine⟨fun J J' hc=>?_,h2⟩
   obtain rfl:=hc.same h3
   exact h1 J'
  ·split at h
   ·rename_i ex rows ha hm
    simp only [Option.some.injEq,Prod.mk.injEq] at h
    obtain⟨rfl,rfl⟩:=h
    refine⟨fun J J' hc=>?_,.refl _⟩
    obtain rfl:=hc.same rfl
    exact aa.yY ha (ep hm)
   ·rename_i ex rows ha hm
    split at h
    ·rename_i hb
     simp only [Option.some.injEq,Prod.mk.injEq] at h
     obtain⟨rfl,rfl⟩:=h
     refine⟨fun J J' hc=>?_,.refl _⟩
     obtain rfl:=hc.same rfl
     exact aa.LP ha hb
    ·cases h
   ·cases h
 |fg kt z c x i =>
  simp only [vF] at h
  split at h
  ·rename_i k v hx hi
   split at h
   ·rename_i es hk
    split at h
    ·rename_i hc
     simp only [Bool.and_eq_true] at hc
     simp only [Option.some.injEq,Prod.mk.injEq] at h
     obtain⟨rfl,rfl⟩:=h
     refine⟨fun J J' jx=>?_,.refl _⟩
     obtain rfl:=jx.same rfl
     exact aa.fg hx (cg (J:=J') hk).1 hi (hE.key _ _ _ hc.1 (qP hc.2))
    ·cases h
   ·cases h
  ·cases h
 |jf kt x i b =>
  simp only [vF] at h
  split at h
  ·rename_i k v hx hi
   split at h
   ·rename_i es hk
    split at h
    ·rename_i hc hn
     simp only [Bool.and_eq_true] at hc
     simp only [Option.some.injEq,Prod.mk.injEq] at h
     obtain⟨rfl,rfl⟩:=h
     refine⟨fun J J' jx=>?_,.wr⟩
     obtain rfl:=jx.same rfl
     obtain⟨iY,gS⟩:=cg (J:=J') hk
     rw [gk gS]
     exact aa.jf hx iY hi (hE.key _ _ _ hc.1 (qP hc.2)) hn rfl
    ·cases h
   ·cases h
  ·cases h
 |_=>exact other h
theorem ub (hE:dv P w0 E) (hs:kN P w0 rc) {fw:Bool}{q:cj}{f:Nat->AV}{df:List Nat}(h:GJ E rc fw q f s=some (r,s')):(∀ J J',eP P w0 s s' J J'->aa P w0 false q ⟨f,df⟩ (den J s) r (den J' s'))/\cE s s':=by
 unfold GJ at h
 split at h
 ·rename_i r1 h1
  obtain rfl:=Option.some.inj h
  obtain⟨k1,k2,k3⟩:=y4 (P:=P) (w0:=w0) (df:=df) h1
  refine⟨fun J J' hc=>?_,k2⟩
  obtain rfl:=hc.same k3
  exact k1 J'
 ·exact zg hE hs h
theorem r7 {rd:Bool}{n:Nat}{c:QC}{body:Fr->XS->XR}
  (hb:∀ F s ex F' s',body F s=.dn ex F' s'->cE s s'/\∀ J J',eP P w0 s s' J J'->∀ c1,bj P.toTables n c1=some c->bS P c1=true->bA P w0 rd n c1 (bo F) (den J s) ex (bo F') (den J' s')) :
  ∀ {k:Nat}{F F':Fr}{s s':XS}{ex:Exit},y_ body k F s=some (ex,F',s')->cE s s'/\∀ J J',eP P w0 s s' J J'->∀ c1,bj P.toTables n c1=some c->bS P c1=true->my P w0 rd n c1 (bo F) (den J s) ex (bo F') (den J' s')
 |0,t,t',s,s',ex,h=>by cases h
 |k+1,t,t',s,s',ex,h=>by
  simp only [y_] at h
  split at h
  ·rename_i e1 t1 s1 h1
   obtain⟨p1,p2⟩:=hb _ _ _ _ _ h1
   split at h
   ·obtain⟨q1,q2⟩:=r7 hb h
    refine⟨p1.trans q1,fun J J' hc c1 fG hd=>?_⟩
    obtain⟨J1,k1,k2⟩:=eP.split p1 q1 hc
    exact my.step (p2 _ _ k1 c1 fG hd) (q2 _ _ k2 c1 fG hd)
   ·rename_i aM
    simp only [Option.some.injEq,Prod.mk.injEq] at h
    obtain⟨rfl,rfl,rfl⟩:=h
    exact⟨p1,fun J J' hc c1 fG hd=>my.done (p2 _ _ hc c1 fG hd) (fun e=>aM e)⟩
  ·cases h
theorem r8:∀ {ks:List Nat}{s s':XS},za s ks=some s'->(∀ J,den J s'=⟨w7 (den J s).get ks,s.nx⟩)/\cE s s'/\s'.lg=s.lg/\s'.nx=s.nx
 |[],s,s',h=>by obtain rfl:=Option.some.inj h;exact⟨fun J=>rfl,.refl _,rfl,rfl⟩
 |k::ks,s,s',h=>by
  simp only [za] at h
  split at h
  ·rename_i s1 h1
   obtain⟨p1,p2,p3,p4⟩:=r8 h1
   split at h
   ·rename_i hy
    obtain rfl:=Option.some.inj h
    refine⟨fun J=>?_,p2.trans .wr,p3,p4⟩
    rw [gk hy,p1]
    rfl
   ·cases h
  ·cases h
theorem vJ {W:List (Nat × Option Ob)}{m:Bool}(h:aW s W m=some s'):(∀ J,den J s'=cD (den J s) W m)/\cE s s'/\s'.lg=s.lg:=by
 unfold aW at h
 split at h
 ·obtain rfl:=Option.some.inj h
  exact⟨fun J=>bH.symm,.refl _,rfl⟩
 ·split at h
  ·rename_i hy
   obtain rfl:=Option.some.inj h
   exact⟨fun J=>by rw [gk hy,cJ];rfl,.wr,rfl⟩
  ·cases h
 ·split at h
  ·rename_i hb
   simp only [Bool.and_eq_true,Bool.not_eq_true'] at hb
   have h1:=Nat.eq_of_beq_eq_true hb.1
   subst h1
   obtain rfl:=Option.some.inj h
   exact⟨fun J=>by rw [eI hb.2,cJ];rfl,.nw,rfl⟩
  ·cases h
 ·split at h
  ·rename_i o j _ hb
   simp only [Bool.and_eq_true,Bool.not_eq_true'] at hb
   have h1:=Nat.eq_of_beq_eq_true hb.1.1
   subst h1
   obtain rfl:=Option.some.inj h
   exact⟨fun J=>by rw [eI (s:=h_ s _ none) hb.1.2,gk hb.2,cJ];rfl,cE.wr.trans .nw,rfl⟩
  ·cases h
 ·cases h
theorem C0 (hE:dv P w0 E) (hs:kN P w0 rc) {fr:Bool}{q:cj}{f:Nat->AV}{df:List Nat}{rs iU:List Nat}{ns:List Nat × List Nat × Bool}(h:GK E rc fr q f s rs=some (r,ns,iU,s')) :
  (∀ (J:FJ) (B:Nat),(∀ k ∈ rs,k < B)->∃ d:Dt,d.ns=ns/\bC P w0 B q ⟨f,df⟩ (den J s) r d/\den J s'=cD (den J s) d.W d.m)/\(∀ k ∈ iU,k ∈ rs)/\cE s s'/\s'.lg=s.lg:=by
 have quiet:∀ {q:cj},(match dq q f (cS s) rs with
   |some (r,d,iU)=>(match aW s d.W d.m with|some s'=>some (r,d.ns,iU,s')|none=>none)
   |none=>none)=some (r,ns,iU,s')->(∀ (J:FJ) (B:Nat),(∀ k ∈ rs,k < B)->∃ d:Dt,d.ns=ns/\bC P w0 B q ⟨f,df⟩ (den J s) r d/\den J s'=cD (den J s) d.W d.m)/\(∀ k ∈ iU,k ∈ rs)/\cE s s'/\s'.lg=s.lg:=fun {q} h=>by
  split at h
  ·rename_i r1 d FG hq
   split at h
   ·rename_i s1 ha
    simp only [Option.some.injEq,Prod.mk.injEq] at h
    obtain⟨rfl,rfl,rfl,rfl⟩:=h
    obtain⟨p1,p2,p3⟩:=vJ ha
    have pU:∀ k ∈ FG,k ∈ rs:=(qx (P:=P) (w0:=w0) (df:=df) (B:=rs.foldr (fun a b=>a+b) 0+1) (fun k hk=>by
     have:∀ l:List Nat,k ∈ l->k<=l.foldr (fun a b=>a+b) 0:=by
      intro l
      induction l with
      |nil=>intro h;cases h
      |cons a l ih =>
       intro h
       rw [List.foldr_cons]
       rcases List.mem_cons.1 h with rfl|h
       ·omega
       ·have:=ih h
        omega
     have:=this rs hk
     omega) hq).2
    refine⟨fun J B fZ=>⟨d,rfl,fun n o hr=>?_,p1 J⟩,pU,p2,p3⟩
    obtain⟨k1,k2,k3⟩:=(qx (P:=P) (w0:=w0) (df:=df) fZ hq).1 n o hr
    exact⟨k1,fun p hp=>(cg (k2 p hp)).1,fun T hb hT hm=>k3 T hb hT hm⟩
   ·cases h
  ·cases h
 unfold GK at h
 split at h
 ·rename_i r1 hp
  simp only [Option.some.injEq,Prod.mk.injEq] at h
  obtain⟨rfl,rfl,rfl,rfl⟩:=h
  exact⟨fun J B fZ=>⟨⟨[],[],false⟩,rfl,bC.pure fun T=>tN hp,bH.symm⟩,fun _ h=>h,.refl _,rfl⟩
 split at h
 ·rename_i r1 hp
  simp only [Option.some.injEq,Prod.mk.injEq] at h
  obtain⟨rfl,rfl,rfl,rfl⟩:=h
  exact⟨fun J B fZ=>⟨⟨[],[],false⟩,rfl,bC.pure fun T=>ua hE hp,bH.symm⟩,fun _ h=>h,.refl _,rfl⟩
 ·cases q with
  |call g aZ9 =>
   simp only at h
   split at h
   ·rename_i hh lN dg
    split at h
    ·rename_i sz len rows fz ex JW
     simp only [Option.some.injEq,Prod.mk.injEq] at h
     obtain⟨rfl,rfl,rfl,rfl⟩:=h
     split at JW
     ·rename_i hy
      obtain⟨k1,k2,k,S1,k3,k4⟩:=CZ hE hs JW
      refine⟨fun J B fZ=>⟨⟨[],[(s.nx,some (.arr sz rows fz ex))],true⟩,rfl,bC.LQ (S:=den J s) dg k1 k3 k4 k2,?_⟩,fun _ h=>h,.nw,rfl⟩
      rw [eI hy,cJ]
      rfl
     ·cases JW
    ·split at h
     ·rename_i r1 hp
      simp only [Option.some.injEq,Prod.mk.injEq] at h
      obtain⟨rfl,rfl,rfl,rfl⟩:=h
      obtain⟨k1,k2⟩:=mg hE hs hp
      exact⟨fun J B fZ=>⟨⟨[],[],false⟩,rfl,bC.pure fun T=>aa.aB dg k1 k2,bH.symm⟩,fun _ h=>h,.refl _,rfl⟩
     ·cases h
   ·cases h
  |append sz by_ a b =>
   simp only at h
   split at h
   ·rename_i r1 d ha
    split at h
    ·rename_i s1 hw
     simp only [Option.some.injEq,Prod.mk.injEq] at h
     obtain⟨rfl,rfl,rfl,rfl⟩:=h
     obtain⟨p1,p2,p3⟩:=vJ hw
     exact⟨fun J B fZ=>⟨d,rfl,yZ ha,p1 J⟩,fun _ h=>h,p2,p3⟩
    ·cases h
   ·cases h
  |_=>exact quiet h
theorem sX {n:Nat}{c1:Code}{l:List QI}(fG:bj P.toTables n c1=some (.bB false l)) {R:AA->U->Prop}{E:List PanicEntry->AA->U->Prop}{β:AA}{T:U}(hE:∀ ch α S,¬ E ch α S) (h:dH P w0 n false l R E β T) :
  ∃ bD bQ,bA P w0 true n c1 β T .normal bD bQ/\R bD bQ:=by
 obtain⟨id,ops,rfl,_,h3⟩:=tY fG
 obtain⟨af,S',h5,h6⟩:=(h _ _ h3 0 rfl).resolve_right fun ⟨ch,af,S',_,h6⟩=>hE _ _ _ h6
 rw [Array.length_toList,<-List.range_eq_range'] at h5
 exact⟨af,S',bA.region h5,h6⟩
theorem r9 (hs:kN P w0 rc) {n:Nat}{c1 c2:Code}{qa qb:QC}{F F':Fr}{ex:Exit}(h:zb rc n qa qb F s=.dn ex F' s') :
  cE s s'/\(bj P.toTables n c1=some qa->bj P.toTables n c2=some qb->bS P c2=true->(∀ ch,ex ≠ .panic ch)->∀ J J',eP P w0 s s' J J'->∃ bD bQ,bA P w0 true n c1 (bo F) (den J s) .normal bD bQ/\Wp P w0 true n c2 (fun e α S=>e=ex/\α=bo F'/\S=den J' s') bD bQ):=by
 unfold zb at h
 split at h
 ·rename_i l ha
  obtain⟨p1,p2⟩:=hs _ _ _ _ _ _ _ _ h
  refine⟨p1,fun fG jx gY xS J J' hc=>?_⟩
  have hq:=p2 J J' hc (fun e α S=>e=ex/\α=bo F'/\S=den J' s') ⟨rfl,rfl,rfl⟩
  unfold Er at ha
  split at ha
  ·injection ha with ha;injection ha with _ h2
   subst h2
   obtain⟨bD,bQ,h3,h4⟩:=(hq [] [] rfl 0 rfl).resolve_right fun ⟨ch,af,S',_,h6⟩=>xS ch h6.1.symm
   refine⟨bD,bQ,?_,h4 c2 jx gY⟩
   intro F m A g a w hF hR hS hA
   exact (j2.1 fG).wp (h3 F m A g a w (iD w0 n A g w .normal bD bQ) hF hS hA fun a' w' g' h1 h2 h3=>⟨rfl,g',h1,h2,h3⟩)
  ·injection ha with ha;injection ha with _ h2
   subst h2
   obtain⟨bD,bQ,h3,h4⟩:=sX fG (fun ch α S he=>xS ch he.1.symm) hq
   exact⟨bD,bQ,h3,h4 c2 jx gY⟩
  ·cases ha
  ·cases ha
 ·rename_i a l ha
  split at h
  ·rename_i F1 s1 h1
   split at h
   ·rename_i hl
    obtain⟨p1,p2⟩:=hs _ _ _ _ _ _ _ _ h1
    obtain⟨p3,p4⟩:=hs _ _ _ _ _ _ _ _ h
    have hl:s1.lg=s.lg:=by
     obtain⟨L,hL⟩:=p1.lg
     have:=Nat.eq_of_beq_eq_true hl
     rw [hL,List.length_append] at this
     rw [hL,List.length_eq_zero_iff.1 (show L.length=0 by omega)]
     rfl
    refine⟨p1.trans p3,fun fG jx gY xS J J' hc=>?_⟩
    have JX:=p2 J J (.zf hl) (fun e α S=>e=.normal/\α=bo F1/\S=den J s1) ⟨rfl,rfl,rfl⟩
    have xb:eP P w0 s1 s' J J':=by obtain⟨X,hX,hJ⟩:=hc;exact⟨X,by rw [hl];exact hX,hJ⟩
    have JY:=p4 J J' xb (fun e α S=>e=ex/\α=bo F'/\S=den J' s') ⟨rfl,rfl,rfl⟩
    unfold Er at ha
    split at ha
    ·cases ha
    ·cases ha
    ·simp only [Option.some.injEq,Prod.mk.injEq] at ha
     obtain⟨rfl,rfl⟩:=ha
     obtain⟨r1,r2,rfl,k1,k2⟩:=tZ fG
     obtain⟨bD,bQ,h3,h4⟩:=sX k1 (fun ch α S he=>by cases he.1) JX
     obtain⟨_,rfl,rfl⟩:_/\bD=bo F1/\bQ=den J s1:=h4
     obtain⟨uv,yC,h5,h6⟩:=sX k2 (fun ch α S he=>xS ch he.1.symm) JY
     exact⟨uv,yC,bA.seq h3 h5,h6 c2 jx gY⟩
    ·cases ha
   ·cases h
  ·cases h
 ·cases h
theorem r_ (hs:kN P w0 rc) {n B N:Nat}{c1 c2:Code}{pt:Array Tmp}{qa qb:QC}{t:Tr AV}{st0:List (Nat × AV)}(fG:bj P.toTables n c1=some qa) (jx:bj P.toTables n c2=some qb) (dT:bS P c1=true) (gY:bS P c2=true)
  (FO:∀ t ∈ pt,t < n) (j9:cM t=fN (fun _=>.u) st0) (hk:∀ p ∈ st0,da B p.2):∀ {lg:List (List AV × Bool)}{s s':XS}{ex:Exit},s.nx=N->o7 rc n B N qa qb pt.toList t lg s=some (ex,s') ->
  s'.nx=N/\s'.yk=s.yk/\(∃ L,s'.lg=L++s.lg)/\(s.lw=0->s'.lw=0)/\∀ J J',eP P w0 s s' J J'->∃ j,rF ex=some j/\∀ A gs T0,(∀ k,gs.al k->k < B) ->
   oP P w0 (LJ w0.heap.size A gs n T0 .ready none pt c1 c2 (eh st0 []).tm (bu (iw J s) N)) lg (LJ w0.heap.size A gs n T0 (il j) j pt c1 c2 (eh st0 []).tm (bu (iw J' s') N))
 |[],s,s',ex,hN,h=>by
  simp only [o7,Option.some.injEq,Prod.mk.injEq] at h
  obtain⟨rfl,rfl⟩:=h
  refine⟨hN,rfl,⟨[],rfl⟩,id,fun J J' hc=>⟨none,rfl,fun A gs T0 _=>?_⟩⟩
  obtain rfl:=hc.same rfl
  exact .nil _
 |(x,b)::rest,s,s',ex,hN,h=>by
  simp only [o7] at h
  split at h
  case h_2=>cases h
  rename_i hx
  simp only [Bool.and_eq_true] at hx
  have dR:=Nat.eq_of_beq_eq_true hx.1
  have bI:∀ a ∈ x,Pure a:=fun a ha=>cU (cr hx.2 a ha)
  split at h
  case h_2=>cases h
  rename_i qg F1 s2 hr
  split at h
  case h_2=>cases h
  rename_i s3 FW xd
  obtain⟨p1,p2⟩:=r9 (c1:=c1) (c2:=c2) hs hr
  obtain⟨g1,g2,g3,g4,g5,g6⟩:=tP (F:=cM F1.t) xd
  have Co:∀ t,da B ((eh st0 []).tm t):=fun t=>uY hk t
  have rn:∀ {j:Option Code},rF qg=some j->∀ J J1,eP P w0 s s2 J J1->∀ A gs T0,(∀ k,gs.al k->k < B)->∀ (T:U) (k:Nat),T.get k=some (.fo (LJ w0.heap.size A gs n T0 .ready none pt c1 c2 (eh st0 []).tm (bu (iw J s) N))) ->
    oF P w0 k x T (.v (.bool j.isNone)) (T.set k (some (.fo (LJ w0.heap.size A gs n T0 (il j) j pt c1 c2 (eh st0 []).tm (bu (iw J1 s3) N))))):=by
   intro j hj J J1 hc A gs T0 hB T k hT
   have xS:∀ ch,qg ≠ .panic ch:=fun ch e=>by rw [e] at hj;cases hj
   obtain⟨bD,bQ,h2,SW,lY,S2,h4,rfl,rfl,rfl⟩:=p2 fG jx gY xS J J1 hc
   have e1:bo ⟨pD t (pt.toList.zip x),[]⟩=⟨nq (eh st0 []).tm (pt.toList.zip x),[]⟩:=by
    unfold bo
    rw [tM,j9]
    rfl
   have e2:den J s=bu (iw J s) N:=by rw [<-hN,vu]
   rw [e1,e2] at h2
   obtain⟨m,hC⟩:=g6 J1
   have e3:bo F1=⟨cM F1.t,[]⟩:=by unfold bo;rw [FW]
   rw [<-e3] at hC
   exact oF.So h2 h4 hC hj (by rw [dR,Array.length_toList]) bI FO Co hB hT
  split at h
  ·obtain⟨q1,q2,⟨L2,q3⟩,q4,q5⟩:=r_ hs fG jx dT gY FO j9 hk g1 h
   obtain⟨L1,l4⟩:=p1.lg
   refine⟨q1,by rw [q2,g2];exact p1.yk,⟨L2++L1,by rw [q3,g4,l4,List.append_assoc]⟩,fun _=>q4 g5,fun J J' hc=>?_⟩
   obtain⟨X,hX,hJ⟩:=hc
   rw [q3,g4,l4,<-List.append_assoc] at hX
   obtain rfl:=List.append_cancel_right hX
   rw [List.reverse_append] at hJ
   obtain⟨J1,k1,k2⟩:=hJ.app
   obtain⟨j,hj,SY⟩:=q5 J1 J' ⟨L2,q3,k2⟩
   exact⟨j,hj,fun A gs T0 hB=>.cons (rn (j:=none) rfl J J1 ⟨L1,l4,k1⟩ A gs T0 hB) (SY A gs T0 hB)⟩
  ·simp only [Option.some.injEq,Prod.mk.injEq] at h
   obtain⟨rfl,rfl⟩:=h
   obtain⟨L1,l4⟩:=p1.lg
   refine⟨g1,by rw [g2];exact p1.yk,⟨L1,by rw [g4,l4]⟩,fun _=>g5,fun J J' hc=>⟨_,rfl,fun A gs T0 hB=>?_⟩⟩
   obtain⟨X,hX,hJ⟩:=hc
   rw [g4] at hX
   exact .cons (rn rfl J J' ⟨X,hX,hJ⟩ A gs T0 hB) (.nil _)
  ·simp only [Option.some.injEq,Prod.mk.injEq] at h
   obtain⟨rfl,rfl⟩:=h
   obtain⟨L1,l4⟩:=p1.lg
   refine⟨g1,by rw [g2];exact p1.yk,⟨L1,by rw [g4,l4]⟩,fun _=>g5,fun J J' hc=>⟨_,rfl,fun A gs T0 hB=>?_⟩⟩
   obtain⟨X,hX,hJ⟩:=hc
   rw [g4] at hX
   exact .cons (rn rfl J J' ⟨X,hX,hJ⟩ A gs T0 hB) (.nil _)
  ·cases h
theorem vK (hs:kN P w0 rc) {n B N:Nat}{qa:QC}{qb:QC}{ps:List Nat}{t:Tr AV}:∀ {lg:List (List AV × Bool)}{s s':XS}{ex:Exit},s.nx=N->o7 rc n B N qa qb ps t lg s=some (ex,s') ->
  s'.nx=N/\s'.yk=s.yk/\(∃ L,s'.lg=L++s.lg)/\(s.lw=0->s'.lw=0)
 |[],s,s',ex,hN,h=>by
  simp only [o7,Option.some.injEq,Prod.mk.injEq] at h
  obtain⟨rfl,rfl⟩:=h
  exact⟨hN,rfl,⟨[],rfl⟩,id⟩
 |(x,b)::rest,s,s',ex,hN,h=>by
  simp only [o7] at h
  split at h
  case h_2=>cases h
  split at h
  case h_2=>cases h
  rename_i qg F1 s2 hr
  split at h
  case h_2=>cases h
  rename_i s3 FW xd
  have p1:=(r9 (P:=P) (w0:=w0) (c1:=.skip) (c2:=.skip) hs hr).1
  obtain⟨g1,g2,g3,g4,g5,g6⟩:=tP (F:=cM F1.t) xd
  obtain⟨L1,l4⟩:=p1.lg
  have fin:s3.nx=N/\s3.yk=s.yk/\(∃ L,s3.lg=L++s.lg)/\(s.lw=0->s3.lw=0):=⟨g1,by rw [g2];exact p1.yk,⟨L1,by rw [g4,l4]⟩,fun _=>g5⟩
  split at h
  ·obtain⟨q1,q2,⟨L2,q3⟩,q4⟩:=vK hs g1 h
   exact⟨q1,by rw [q2,g2];exact p1.yk,⟨L2++L1,by rw [q3,g4,l4,List.append_assoc]⟩,fun _=>q4 g5⟩
  ·simp only [Option.some.injEq,Prod.mk.injEq] at h
   obtain⟨rfl,rfl⟩:=h
   exact fin
  ·simp only [Option.some.injEq,Prod.mk.injEq] at h
   obtain⟨rfl,rfl⟩:=h
   exact fin
  ·cases h
theorem o9 {s s':XS}(h:s.yk=s'.yk):∀ {l:List (Nat × Option Ob)},oY s l=oY s' l
 |[]=>rfl
 |p::l=>by
  simp only [oY,h]
  split
  ·rw [o9 h]
  ·exact o9 h
theorem C3 {s s':XS}(hm:s.m=s'.m) (h:s.yk=s'.yk):iw J s=iw J s':=by
 unfold iw
 rw [hm,h,o9 h]
theorem uc {B N:Nat}{m:List (Nat × Nat)}{f:Nat->AV}:∀ {l:List (Nat × AV)},(∀ p ∈ l,f p.1=p.2/\da B p.2)->rB B m N f l
 |[],_=>trivial
 |p::l,h=>⟨.aV (h p (by simp)).1 (h p (by simp)).2,uc fun q hq=>h q (by simp [hq])⟩
theorem vL {B N:Nat}{m:List (Nat × Nat)}{S:U}:∀ {l:List (Nat × Ob)},(∀ p ∈ l,∃ bf,S.get (b9 B (bh m) p.1)=some bf/\oB B m N bf p.2)->l3 B m N S l
 |[],_=>trivial
 |p::l,h=>⟨.inl (h p (by simp)),vL fun q hq=>h q (by simp [hq])⟩
theorem sa (hE:dv P w0 E) (hs:kN P w0 rc) {g:Nat}{aZ9:List AV}{an:Nat}{lg:List (List AV × Bool)}(h:zc E rc g aZ9 an=some lg):∀ J J',oP P w0 J lg J'->∃ r S1,aR P w0 g aZ9 (bu [(0,.fo J)] 1) r S1/\S1.get 0=some (.fo J'):=by
 unfold zc at h
 split at h
 ·rename_i r s' hw
  obtain rfl:=Option.some.inj h
  obtain⟨h1,h2⟩:=t_ hE hs hw
  intro J J' hJ
  obtain⟨L,hL⟩:=h2.lg
  have hc:=h1 J J' ⟨s'.lg,by simp,hJ⟩
  have e:den J ⟨.nil,1,1,some 0,an,[]⟩=bu [(0,.fo J)] 1:=by
   unfold den bu
   simp only [U.mk.injEq,and_true]
   funext k
   simp only [cI,fj]
   cases Nat.beq 0 k<;>rfl
  rw [e] at hc
  refine⟨r,_,hc,?_⟩
  show (match cI s'.yk 0 with|true=>some (Ob.fo J')|false=>dM s' 0)=_
  have:s'.yk=some 0:=h2.yk
  rw [this]
  rfl
 ·cases h
theorem zh (hE:dv P w0 E) (hs:kN P w0 rc) {g:Nat}{aZ9:List AV}{R:List (List AV × Bool)->Option (Exit × XS)}{C:List (List AV × Bool)->Option Nat}{q:Exit × XS}(h:Es rc E g aZ9 R C=some q) :
  ∃ lg,R lg=some q/\∀ J J',oP P w0 J lg J'->∃ r S1,aR P w0 g aZ9 (bu [(0,.fo J)] 1) r S1/\S1.get 0=some (.fo J'):=by
 unfold Es at h
 split at h
 ·rename_i lg h1
  split at h
  ·rename_i q' h2
   obtain rfl:=Option.some.inj h
   exact⟨lg,h2,sa hE hs h1⟩
  ·split at h
   ·split at h
    ·rename_i SZ h3
     exact⟨SZ,h,sa hE hs h3⟩
    ·cases h
   ·cases h
 ·cases h
theorem qQ {B:Nat}:∀ {l:List (Nat × AV)},zd B l=true->∀ p ∈ l,da B p.2
 |[],_,a,h=>by cases h
 |b::l,hp,a,h=>by
  simp only [zd] at hp
  split at hp
  ·rename_i hb
   rcases List.mem_cons.1 h with rfl|h
   ·exact fb hb
   ·exact qQ hp a h
  ·cases hp
theorem vM {B:Nat}:∀ {l:List (Nat × Option Ob)},ze B s l=true->∀ p ∈ l,p.1 < B/\∀ o,p.2=some o->rA B o
 |[],_,a,h=>by cases h
 |b::l,hp,a,h=>by
  simp only [ze] at hp
  split at hp
  ·rename_i hb
   simp only [Bool.and_eq_true] at hb
   rcases List.mem_cons.1 h with rfl|h
   ·refine⟨dI hb.1,fun o ho=>?_⟩
    have h2:=hb.2
    rw [ho] at h2
    exact vo h2
   ·exact vM hp a h
  ·cases hp
theorem ud {t:Tr AV}:cM t=fN (fun _=>.u) (toLk t):=by
 have key:∀ (l:List (Nat × AV)) (g:Nat->Option AV),(∀ k a,(k,a) ∈ l ↔ g k=some a)->∀ k,fN (fun _=>.u) l k=match g k with|some a=>a|none=>.u:=by
  intro l g h k
  have h1:∀ (l:List (Nat × AV)),(∃ a,(k,a) ∈ l/\fN (fun _=>.u) l k=a)\/((∀ a,(k,a) ∉ l)/\fN (fun _=>.u) l k=.u):=by
   intro l
   induction l with
   |nil=>exact .inr ⟨fun a h=>(by cases h),rfl⟩
   |cons p l ih =>
    obtain⟨j,b⟩:=p
    by_cases e:k=j
    ·subst e
     exact .inl ⟨b,by simp,ah _ _ _⟩
    ·have e2:fN (fun _=>.u) ((j,b)::l) k=fN (fun _=>.u) l k:=aw _ _ e
     rw [e2]
     rcases ih with ⟨a,h1,h2⟩|⟨h1,h2⟩
     ·exact .inl ⟨a,List.mem_cons_of_mem _ h1,h2⟩
     ·refine .inr ⟨fun a h=>?_,h2⟩
      rcases List.mem_cons.1 h with h|h
      ·injection h with h3 h4;exact e h3
      ·exact h1 a h
  rcases h1 l with ⟨a,h2,h3⟩|⟨h2,h3⟩
  ·rw [h3,(h k a).1 h2]
  ·rw [h3]
   cases e:g k with
   |none=>rfl
   |some a=>exact absurd ((h k a).2 e) (h2 a)
 funext k
 rw [key (toLk t) (dm t) (fun k a=>toLk_mem) k]
 rfl
theorem zi (hE:dv P w0 E) (hs:kN P w0 rc) {n:Nat}{x:QO}{ps:List Nat}{qa qb:QC}{F F':Fr}{ex:Exit}(h:Et E rc n (x.ev (cM F.t)) ps qa qb F s=some (ex,F',s')) :
  cE s s'/\∀ J J',eP P w0 s s' J J'->∀ Q K,a8 P w0 false n Q (.out ex K) (bo F') (den J' s')->a8 P w0 false n Q (.run (.qy x ps qa qb) K) (bo F) (den J s):=by
 unfold Et at h
 split at h
 case h_2=>cases h
 rename_i gid first cap hx
 split at h
 case h_2=>cases h
 rename_i tu
 simp only [Bool.and_eq_true,Bool.not_eq_true'] at tu
 obtain⟨⟨⟨⟨⟨⟨⟨⟨c1,c2⟩,c3⟩,c4⟩,c5⟩,c6⟩,c7⟩,c8⟩,c9⟩:=tu
 split at h
 case h_2=>cases h
 rename_i qg s1 iK
 simp only [Option.some.injEq,Prod.mk.injEq] at h
 obtain⟨rfl,rfl,rfl⟩:=h
 obtain⟨lg,hR,Gx⟩:=zh hE hs iK
 obtain⟨r0,qi⟩:∃ r0:XS,r0=⟨(gj s .df).m,s.nx+41,0,s.yk,s.an,s.lg⟩:=⟨_,rfl⟩
 rw [<-qi] at hR
 have r1:r0.nx=s.nx+41:=by rw [qi]
 have r2:r0.lg=s.lg:=by rw [qi]
 have r3:r0.yk=s.yk:=by rw [qi]
 have r4:∀ J,iw J r0=iw J (gj s .df):=fun J=>C3 (by rw [qi]) (by rw [qi];rfl)
 obtain⟨q1,q2,⟨L,q3⟩,q4⟩:=vK hs r1 hR
 have q4:=q4 (by rw [qi])
 refine⟨⟨by omega,by omega,q2.trans r3,⟨L,by rw [q3,r2]⟩,fun k hk=>by omega⟩,fun J J' hc Q K hQ=>?_⟩
 intro c qe hd
 obtain⟨y,pt,a1,a2,rfl,rfl,rfl,fG,jx⟩:=y7 qe
 simp only [bS,Bool.and_eq_true] at hd
 obtain⟨_,_,_,_,q5⟩:=r_ (P:=P) (w0:=w0) (pt:=pt) (st0:=toLk F.t) hs fG jx hd.1 hd.2 (fun t ht=>by
  have:=List.all_eq_true.1 c3 t (by simpa using ht)
  exact dI this) ud (qQ c6) r1 hR
 obtain⟨j,hj,S0⟩:=q5 J J' (by obtain⟨X,hX,hJ⟩:=hc;exact⟨X,by rw [r2];exact hX,hJ⟩)
 have IZ:(bo F).ev y=.fn (.func gid) first cap:=by rw [<-ay];exact hx
 have hC:Canon (s.nx+1) (s.nx+41) [] ⟨(bo F).tm,(den J s).nx::(bo F).df⟩ ((den J s).new .df) (toLk F.t) ((den J s).nx::(bo F).df) (iw J r0):=by
  refine⟨uc fun p hp=>⟨?_,qQ c6 p hp⟩,rfl,vL fun p hp=>?_,?_,Nat.ble_eq_true_of_le (by omega),?_⟩
  ·have:=toLk_mem.1 (show (p.1,p.2) ∈ toLk F.t from hp)
   show cM F.t p.1=p.2
   unfold cM
   rw [this]
  ·obtain⟨k,o⟩:=p
   rw [r4] at hp
   have hg:=xN.1 hp
   rw [eI c4] at hg
   have PB:k < s.nx+1/\rA (s.nx+1) o:=by
    unfold iw at hp
    rcases List.mem_append.1 hp with hp|hp
    ·have hy:(gj s .df).yk=s.yk:=rfl
     rw [hy] at hp
     cases PC:s.yk with
     |none=>rw [PC] at hp;cases hp
     |some y2 =>
      rw [PC] at hp c9
      simp only [CP,List.mem_singleton,Prod.mk.injEq] at hp
      obtain⟨rfl,rfl⟩:=hp
      exact⟨dI c9,trivial⟩
    ·obtain⟨h1,h2⟩:=mQ.1 hp
     obtain⟨h3,h4⟩:=vM c7 _ h2
     exact⟨h3,h4 o rfl⟩
   exact⟨o,by simp only;rw [ft PB.1];exact hg,.same PB.2⟩
  ·rw [r4,vt]
   exact c8
  ·show ((s.nx::F.ds).all fun x=>Nat.blt x (s.nx+1))=true
   rw [List.all_cons,c5,show Nat.blt s.nx (s.nx+1)=true from Nat.ble_eq_true_of_le (Nat.le_refl _)]
   rfl
 refine⟨qg,_,_,bA.range (n:=n) (st0:=toLk F.t) (so0:=iw J r0) (so1:=iw J' s1) (j:=j) IZ (fun a ha=>cU (cr c1 a ha)) (fun a ha=>cU (cr c2 a ha)) hC (Nat.le_refl _) hj (fun A gs T0 hB=>Gx _ _ (S0 A gs T0 hB)),?_⟩
 have e1:eh (toLk F.t) ((den J s).nx::(bo F).df)=bo ⟨F.t,s.nx::F.ds⟩:=by
  unfold eh bo
  rw [ud]
  rfl
 rw [e1,<-q1,vu]
 exact hQ
theorem zj {x:QO}{F F':Fr}{n:Nat}(h:Eu x F s=some (F',s')):cE s s'/\s'.lg=s.lg/\∀ J,Cv w0 n (bo F) (den J s) (bo F') (den J s'):=by
 unfold Eu at h
 split at h
 case h_2=>cases h
 rename_i t
 split at h
 case h_2=>cases h
 rename_i f first cap hx
 split at h
 ·cases h
 ·split at h
  ·rename_i a s1 hf
   simp only [Option.some.injEq,Prod.mk.injEq] at h
   obtain⟨rfl,rfl⟩:=h
   obtain⟨N,n1,n2,n3,n4,n5,n6,n7,n8,n9⟩:=rW hf
   refine⟨n5,n6,fun J=>?_⟩
   have:=Cv.Qy (w0:=w0) (n:=n) (α:=bo F) (t:=t) (a':=a) (S:=den J s) (S':=den J s1) (N:=N) (n1 J) (Nat.le_of_eq (by show s.nx=s1.nx;rw [n7])) (n2 J) (by show cM F.t t ≠ .u;rw [hx];intro h;cases h) (by show bG N (cM F.t t) a;rw [hx];exact n3.1)
   have e:bo ⟨put F.t t a,F.ds⟩=⟨a6 (bo F).tm t a,(bo F).df⟩:=by
    unfold bo
    rw [nB]
   rw [e]
   exact this
  ·cases h
def vN (P:Program) (w0:World) (rd:Bool) (n:Nat) (f:QF->Fr->XS->XR):Prop :=
 (∀ c F s c' F' s',f c F s=.mr c' F' s'->cE s s'/\∀ J J',eP P w0 s s' J J'->∀ Q,a8 P w0 rd n Q c' (bo F') (den J' s')->a8 P w0 rd n Q c (bo F) (den J s)) /\
 (∀ c F s ex F' s',f c F s=.dn ex F' s'->cE s s'/\∀ J J',eP P w0 s s' J J'->∀ Q,Q ex (bo F') (den J' s')->a8 P w0 rd n Q c (bo F) (den J s))
theorem vN.it {rd:Bool}{n:Nat}{f:QF->Fr->XS->XR}(h:vN P w0 rd n f):∀ k,vN P w0 rd n (CY f k)
 |0=>h
 |k+1=>by
  have ih:=vN.it h k
  refine⟨fun c t s c' t' s' e=>?_,fun c t s ex t' s' e=>?_⟩
  all_goals
   simp only [CY] at e
   split at e
   ·rename_i c1 t1 s1 h1
    obtain⟨p1,p2⟩:=ih.1 _ _ _ _ _ _ h1
    first
     |(obtain⟨q1,q2⟩:=ih.1 _ _ _ _ _ _ e
       refine⟨p1.trans q1,fun J J' hc Q hQ=>?_⟩
       obtain⟨J1,k1,k2⟩:=eP.split p1 q1 hc
       exact p2 _ _ k1 Q (q2 _ _ k2 Q hQ))
     |(obtain⟨q1,q2⟩:=ih.2 _ _ _ _ _ _ e
       refine⟨p1.trans q1,fun J J' hc Q hQ=>?_⟩
       obtain⟨J1,k1,k2⟩:=eP.split p1 q1 hc
       exact p2 _ _ k1 Q (q2 _ _ k2 Q hQ))
   ·first
     |exact ih.1 _ _ _ _ _ _ e
     |exact ih.2 _ _ _ _ _ _ e
theorem JZ {s0 s1:XS}{J J':FJ}{k:Nat}(h:cE s0 s1) (hc:eP P w0 s0 s1 J J') (hk:k < GM s0 s1):(den J' s1).get k=(den J s0).get k:=by
 unfold GM at hk
 split at hk
 ·rename_i hb
  obtain⟨L,hL⟩:=h.lg
  have:L=[]:=by
   have h1:=Nat.eq_of_beq_eq_true hb
   rw [hL,List.length_append] at h1
   exact List.eq_nil_of_length_eq_zero (by omega)
  subst this
  obtain rfl:=hc.same hL
  exact HS h hk
 ·omega
theorem HT (hE:dv P w0 E) (hs:kN P w0 rc) (rd:Bool) (n:Nat):vN P w0 rd n (gB E rc rd n):=by
 have mh:∀ {c c':QF}{t:Fr}{s:XS},(∀ (Q:Exit->AA->U->Prop) α S,a8 P w0 rd n Q c' α S->a8 P w0 rd n Q c α S)->∀ {c2:QF}{t':Fr}{s':XS},XR.mr c' t s=.mr c2 t' s'->cE s s'/\∀ J J',eP P w0 s s' J J'->∀ Q,a8 P w0 rd n Q c2 (bo t') (den J' s')->a8 P w0 rd n Q c (bo t) (den J s):=by
  intro c c' t s hm c2 t' s' e
  injection e with e1 e2 e3
  subst e1 e2 e3
  refine⟨.refl _,fun J J' hc Q hQ=>?_⟩
  obtain rfl:=hc.same rfl
  exact hm _ _ _ hQ
 refine⟨fun c t s c' t' s' e=>?_,fun c t s ex t' s' e=>?_⟩
 ·cases c with
  |run c K =>
   cases c with
   |skip=>exact mh (fun _ _ _=>a8.skip) e
   |bB dr l =>
    cases dr with
    |true=>cases e
    |false=>exact mh (fun _ _ _=>a8.bB) e
   |cB V l =>
    simp only [gB] at e
    split at e
    ·rename_i s1 h1
     injection e with e1 e2 e3
     subst e1 e2 e3
     obtain⟨p1,p2,p3,p4⟩:=r8 h1
     refine⟨⟨p2.lw,Nat.le_add_right _ _,p2.yk,p2.lg,p2.aV⟩,fun J J' hc Q hQ=>?_⟩
     obtain rfl:=hc.same p3
     have:den J' ⟨s1.m,s.nx+(dV l s.nx).length,s1.lw,s1.yk,s1.an,s1.lg⟩=ng (den J' s) l:=by
      have:=congrArg U.get (p1 J')
      unfold den ng
      simp only [U.mk.injEq,and_true]
      exact this
     rw [this] at hQ
     exact a8.cB hQ
    ·cases e
   |seq a c=>exact mh (fun _ _ _=>a8.seq) e
   |cond x a c =>
    simp only [gB] at e
    split at e
    ·rename_i hx
     injection e with e1 e2 e3
     subst e1 e2 e3
     refine⟨.refl _,fun J J' hc Q hQ=>?_⟩
     obtain rfl:=hc.same rfl
     exact a8.cond (t:=true) hx hQ
    ·rename_i hx
     injection e with e1 e2 e3
     subst e1 e2 e3
     refine⟨.refl _,fun J J' hc Q hQ=>?_⟩
     obtain rfl:=hc.same rfl
     exact a8.cond (t:=false) hx hQ
    ·cases e
   |block id c=>exact mh (fun _ _ _=>a8.block) e
   |scope c=>exact mh (fun _ _ _=>a8.scope) e
   |loop c =>
    simp only [gB] at e
    split at e
    ·rename_i qg t1 s1 h1
     injection e with e1 e2 e3
     subst e1 e2 e3
     obtain⟨q1,q2⟩:=r7 (P:=P) (w0:=w0) (rd:=rd) (n:=n) (c:=c) (fun t s ex t' s' h=>by
      obtain⟨p1,p2⟩:=hs _ _ _ _ _ _ _ _ h
      refine⟨p1,fun J J' hc c1 fG hd=>?_⟩
      obtain⟨e2,lY,S2,k1,rfl,rfl,rfl⟩:=p2 J J' hc (fun e α S=>e=ex/\α=bo t'/\S=den J' s') ⟨rfl,rfl,rfl⟩ c1 fG hd
      exact k1) h1
     refine⟨q1,fun J J' hc Q hQ=>?_⟩
     intro c0 qe S3
     obtain⟨c1,rfl,fG⟩:=y6 qe
     exact⟨_,_,_,bA.loop (q2 J J' hc c1 fG S3),hQ⟩
    ·cases e
   |exit id=>exact mh (fun _ _ _=>a8.exit_) e
   |ret=>exact mh (fun _ _ _=>a8.QK) e
   |qy x ps a c =>
    simp only [gB] at e
    split at e
    ·rename_i F1 s1 hp
     injection e with e1 e2 e3
     subst e1 e2 e3
     obtain⟨p1,p2,p3⟩:=zj (w0:=w0) (n:=n) hp
     refine⟨p1,fun J J' hc Q hQ=>?_⟩
     obtain rfl:=hc.same p2
     exact a8.cv (p3 J') hQ
    ·split at e
     ·rename_i qg F1 s1 hr
      injection e with e1 e2 e3
      subst e1 e2 e3
      obtain⟨p1,p2⟩:=zi hE hs hr
      exact⟨p1,fun J J' hc Q hQ=>p2 J J' hc Q K hQ⟩
     ·cases e
   |raw c=>cases e
  |out ex K =>
   cases K with
   |nil=>cases e
   |cons it K =>
    cases it with
    |seq c=>cases ex<;>(simp only [gB] at e;exact mh (by exact fun _ _ _ h=>h) e)
    |nT id =>
     cases ex with
     |exit j =>
      simp only [gB] at e
      split at e
      ·rename_i hj
       refine mh (fun Q α S h=>?_) e
       show (match Nat.beq j id with|true=>eJ P w0 rd n Q K .normal α S|false=>eJ P w0 rd n Q K (.exit j) α S)
       rw [hj]
       exact h
      ·rename_i hj
       refine mh (fun Q α S h=>?_) e
       show (match Nat.beq j id with|true=>eJ P w0 rd n Q K .normal α S|false=>eJ P w0 rd n Q K (.exit j) α S)
       rw [hj]
       exact h
     |_=>simp only [gB] at e;exact mh (by exact fun _ _ _ h=>h) e
    |rq =>
     cases ex with
     |goto l=>cases e
     |_=>simp only [gB] at e;exact mh (by exact fun _ _ _ h=>h) e
  |bB dr l K =>
   cases dr with
   |true=>cases l<;>cases e
   |false =>
    cases l with
    |nil=>exact mh (fun _ _ _=>a8.fin) e
    |cons i l =>
     simp only [gB] at e
     split at e
     ·rename_i hw
      split at e
      ·rename_i r1 s1 ho
       injection e with e1 e2 e3
       subst e1 e2 e3
       obtain⟨p1,p2⟩:=ub hE hs (df:=t.ds) ho
       refine⟨p2,fun J J' hc Q hQ=>?_⟩
       refine a8.op (α:=bo t) hw (p1 J J' hc) ?_
       unfold bo
       rw [lJ]
       exact hQ
      ·cases e
     ·rename_i hw
      injection e with e1 e2 e3
      subst e1 e2 e3
      refine⟨.refl _,fun J J' hc Q hQ=>?_⟩
      obtain rfl:=hc.same rfl
      refine a8.no (α:=bo t) hw ?_
      unfold bo
      rw [lJ]
      exact hQ
     ·cases e
  |cB B V lg rs l K =>
   cases l with
   |nil =>
    simp only [gB] at e
    split at e
    ·rename_i hc
     exact mh (fun _ _ _=>a8.QN hc) e
    ·cases e
   |cons i l =>
    simp only [gB] at e
    split at e
    ·rename_i hw
     split at e
     ·rename_i r1 ns FG s1 ho
      split at e
      ·rename_i hx
       injection e with e1 e2 e3
       subst e1 e2 e3
       have ho:GK E rc (sV i.d l) i.q (cM t.t) s rs=some (r1,ns,FG,s1):=by
        split at ho
        ·exact ho
        ·cases ho
       obtain⟨p1,p2,p3,p4⟩:=C0 hE hs (df:=t.ds) ho
       refine⟨p3,fun J J' hc Q hQ=>?_⟩
       obtain rfl:=hc.same p4
       intro fZ hB
       obtain⟨d,rfl,k2,k3⟩:=p1 J' B fZ
       have e5:bo ⟨nC i.d t.t r1,t.ds⟩=cH i.d (bo t) r1:=by
        unfold bo
        rw [lJ]
       rw [k3,e5] at hQ
       exact a8.xf (α:=bo t) hw hx k2 (fun _ GH=>hQ (fun k hk=>fZ k (p2 k hk)) GH) fZ hB
      ·cases e
     ·split at e
      ·cases e
      ·rename_i hx
       split at e
       ·rename_i r1 s1 ho
        injection e with e1 e2 e3
        subst e1 e2 e3
        obtain⟨p1,p2⟩:=ub hE hs (df:=t.ds) ho
        have p3:cE s ⟨s1.m,s1.nx,Nat.min s.lw s1.lw,s1.yk,s1.an,s1.lg⟩:=⟨Nat.min_le_left _ _,p2.nx,p2.yk,p2.lg,fun k hk=>p2.aV k (Nat.lt_of_lt_of_le hk (Nat.min_le_right _ _))⟩
        refine⟨p3,fun J J' hc Q hQ=>?_⟩
        have e5:bo ⟨nC i.d t.t r1,t.ds⟩=cH i.d (bo t) r1:=by
         unfold bo
         rw [lJ]
        rw [e5] at hQ
        exact a8.SV (α:=bo t) (S':=den J' s1) (lw:=GM s s1) hw hx p2.nx (fun k hk=>JZ (s0:=⟨s.m,s.nx,s.nx,s.yk,s.an,s.lg⟩) p2 hc hk) (p1 J J' hc) hQ
       ·cases e
    ·rename_i hw
     injection e with e1 e2 e3
     subst e1 e2 e3
     refine⟨.refl _,fun J J' hc Q hQ=>?_⟩
     obtain rfl:=hc.same rfl
     have e5:bo ⟨nC i.d t.t (.v undef),t.ds⟩=cH i.d (bo t) (.v undef):=by
      unfold bo
      rw [lJ]
     rw [e5] at hQ
     exact a8.SU (α:=bo t) hw hQ
    ·cases e
 ·cases c with
  |out qg K =>
   cases K with
   |nil =>
    injection e with e1 e2 e3
    subst e1 e2 e3
    refine⟨.refl _,fun J J' hc Q hQ=>?_⟩
    obtain rfl:=hc.same rfl
    exact hQ
   |cons it K =>
    cases it<;>cases qg<;>simp only [gB] at e<;>(repeat' split at e)<;>cases e
  |run c K =>
   cases c with
   |bB dr l=>cases dr<;>cases e
   |_ =>
    simp only [gB] at e
    repeat' split at e
    all_goals cases e
  |bB dr l K =>
   cases dr with
   |true=>cases l<;>cases e
   |false =>
    cases l with
    |nil=>cases e
    |cons i l =>
     simp only [gB] at e
     repeat' split at e
     all_goals cases e
  |cB B V lg rs l K =>
   cases l with
   |nil =>
    simp only [gB] at e
    repeat' split at e
    all_goals cases e
   |cons i l =>
    simp only [gB] at e
    repeat' split at e
    all_goals cases e
theorem k_ (hE:dv P w0 E):∀ m,kN P w0 (vG E m)
 |0=>fun rd n c t s ex t' s' h=>by cases h
 |m+1=>fun rd n c t s ex t' s' h=>((HT hE (k_ hE m) rd n).it 14).2 c t s ex t' s' h
theorem ag.emp {g:Nat}{ex:Bool}{r:AV}(h:∀ A c,ag P w0 g [.v (.slice A 0 c)] r):ag P w0 g [.sl ex []] r:=by
 have hp:∀ A c,∀ a ∈ [AV.v (.slice A 0 c)],Pure a:=fun A c a ha=>by
  simp only [List.mem_singleton] at ha
  subst ha
  exact .v
 refine⟨(h none 0).1,U.none_,((h none 0).tj (hp _ _) U.none_).1,fun F m A g bz w hF hS hA=>?_⟩
 have a7:bz.size=1:=hA.1
 obtain⟨v,rfl⟩:∃ v,bz=#[v]:=by
  obtain⟨l⟩:=bz
  match l,a7 with
  |[x],_=>exact⟨x,rfl⟩
 have hr:=hA.2 0 _ v rfl rfl
 obtain⟨B,c,e,_,_⟩:=jq hr
 subst e
 refine ((h B c).tj (hp _ _) U.none_).2 F m A g _ w hF hS ⟨rfl,fun i a x ha hx=>?_⟩
 match i,ha,hx with
 |0,ha,hx =>
  obtain rfl:=Option.some.inj ha
  obtain rfl:=Option.some.inj hx
  exact .v
theorem Env.bc (hE:dv P w0 E) (m:Nat) {g:Nat}{aZ9:List AV}(h:xQ E (vG E m) g aZ9=some r):ag P w0 g aZ9 r:=(mg hE (k_ hE m) h).1
end
end Go.Proofs.YtbofilglphfceaaGreat
