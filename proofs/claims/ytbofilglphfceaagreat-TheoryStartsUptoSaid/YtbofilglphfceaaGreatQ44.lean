import Derived.Test.YtbofilglphfceaaGreatQ43
namespace Go.Proofs.YtbofilglphfceaaGreat
set_option linter.unusedVariables false
set_option linter.unusedSimpArgs false
open Go.RowKit
structure iw (P:Program) (w0:World) (E:Env):Prop where
 seq:∀ t a b e,E.seq t a b=some e->Jl P t a b e
 key:∀ kt v es,E.Fw kt v=true->(∀ p ∈ es,E.Fw kt p.1=true)->uI P kt v es (E.VC v)
 Kk:∀ g v,E.Kk g=some v->∀ h first cap,db (first++cap)->ah P w0 h (first++cap) (.bg [])->ah P w0 g [.fn (.func h) first cap] v
 yW:∀ g c n,E.yW g=some (c,n)->aN P g c n
 ext:∀ g aZ9 r,E.ext g aZ9=some r->ah P w0 g aZ9 r/\db aZ9
 nat:∀ g aZ9 v,E.nat g aZ9=some v->∃ xs:List Value,aZ9=xs.map .v/\∀ w:World,(callFunc g xs.toArray).run P w=.ok (.value v) w
def o9 (P:Program) (w0:World) (rc:Rec):Prop:=∀ rd n c F s ex F' s',rc rd n c F s=.dn ex F' s'->dU s s'/\∀ J J',iE P w0 s s' J J'->∀ Q,Q ex (cy F') (den J' s')->cd P w0 rd n Q c (cy F) (den J s)
section
variable {P:Program}{w0:World}{E:Env}{rc:Rec}{s s':XS}{r:AV}{J J':FJ}
theorem iE.Hh (h:s'.lg=s.lg):iE P w0 s s' J J:=⟨[],h,.nil J⟩
theorem z6 {k sz fz:Nat}{rows:List (List AV)}{ex:Bool}(h:(ez s).get k=some (.arr sz rows fz ex)):(den J s).get k=some (.arr sz rows fz ex):=(du h).1
theorem rF {f:Nat->AV}:∀ {qs:List QR}{l:List AV},l0 f (ez s) qs=some l->l0 f (den J s) qs=some l
 |[],l,h=>h
 |.t n::qs,l,h=>by
  simp only [l0] at h ⊢
  split at h
  ·rename_i l' hl
   rw [rF hl]
   exact h
  ·cases h
 |.cell k n::qs,l,h=>by
  simp only [l0] at h ⊢
  split at h
  ·rename_i a l' ha hl
   rw [rF hl,yw ha]
   exact h
  ·cases h
theorem Dz:∀ {ds:List Nat}{s s':XS},Bx s ds=some s'->(∀ J,vc (den J s) ds=true/\iB (den J s) ds=den J s')/\dU s s'/\s'.lg=s.lg
 |[],s,s',h=>by obtain rfl:=Option.some.inj h;exact⟨fun J=>⟨rfl,rfl⟩,.refl _,rfl⟩
 |k::ds,s,s',h=>by
  simp only [Bx] at h
  split at h
  ·rename_i hk
   obtain⟨h1,h2,h3⟩:=Dz h
   refine⟨fun J=>?_,dU.wr.trans h2,h3⟩
   obtain⟨k1,k2⟩:=du (J:=J) hk
   simp only [vc,iB,k1]
   have:=h1 J
   rwa [j6 k2] at this
  ·cases h
theorem DA {qs:List QR}{ex:Exit}{F:Fr}(h:ui qs ex F s=some (r,s')):(∀ J,sU qs ex (cy F) (den J s)=some (r,den J s'))/\dU s s'/\s'.lg=s.lg:=by
 unfold ui at h
 split at h
 ·rename_i s1 he hd
  obtain⟨h1,h2,h3⟩:=Dz hd
  split at h
  ·rename_i a hq
   simp only [Option.some.injEq,Prod.mk.injEq] at h
   obtain⟨rfl,rfl⟩:=h
   refine⟨fun J=>?_,h2,h3⟩
   unfold sU
   simp only [cy,he,(h1 J).1,(h1 J).2,rF hq]
  ·rename_i l bG hq
   simp only [Option.some.injEq,Prod.mk.injEq] at h
   obtain⟨rfl,rfl⟩:=h
   refine⟨fun J=>?_,h2,h3⟩
   unfold sU
   simp only [cy,he,(h1 J).1,(h1 J).2,rF hq]
  ·cases h
 ·cases h
theorem vl {aZ9:List AV}:cy ⟨pq aZ9 0 .nil,[]⟩=⟨kg aZ9,[]⟩:=by
 unfold cy
 rw [LO]
theorem yX (hE:iw P w0 E) (hs:o9 P w0 rc) {g:Nat}{aZ9:List AV}(h:G8 E rc g aZ9=some r):ah P w0 g aZ9 r/\db aZ9:=by
 unfold G8 at h
 ·split at h
  ·cases h
  ·rename_i c n ht
   split at h
   ·rename_i hn hp
    split at h
    ·rename_i ex F s' hr
     split at h
     ·rename_i r0 s2 hl hf
      obtain⟨h1,h2⟩:=hs _ _ _ _ _ _ _ _ hr
      obtain⟨h3,h4⟩:aU (ez s2) r0 r/\Pure r:=by
       split at h
       ·rename_i hp
        obtain rfl:=Option.some.inj h
        exact⟨.refl _,eC hp⟩
       ·exact pv h
      have h5:=h2 (fun _ _ _ _=>True) (fun _ _ _ _=>True) (.Hh hl) (mO c.2 fun r' S=>aU S r' r) ⟨r0,_,(DA hf).1 _,h3.mono fun _ _ _ _ _ h=>z6 h⟩
      rw [vl] at h5
      exact⟨(hE.yW _ _ _ ht).aG (Nat.le_of_ble_eq_true hn) h4 h5,ti hp⟩
     ·cases h
    ·cases h
   ·cases h
theorem Kn (hE:iw P w0 E) (hs:o9 P w0 rc) {g:Nat}{aZ9:List AV}{sz len fz:Nat}{rows:List (List AV)}{ex:Bool}(h:VE E rc g aZ9=some (sz,len,rows,fz,ex)) :
  db aZ9/\(∀ r ∈ rows,∀ a ∈ r,Pure a)/\∃ k S',bc P w0 g aZ9 ae.none_ (.ob k sz 0 len none) S'/\S'.get k=some (.arr sz rows fz ex):=by
 unfold VE at h
 split at h
 ·cases h
 ·rename_i c n ht
  split at h
  ·rename_i hn hp
   split at h
   ·rename_i wF F s' hr
    split at h
    ·rename_i k sz1 Gb s2 hl hf
     split at h
     ·rename_i sz' aeQ R9 ex2 hk
      split at h
      ·rename_i hc
       simp only [Bool.and_eq_true] at hc
       have jq:=Nat.eq_of_beq_eq_true hc.1
       subst jq
       simp only [Option.some.injEq,Prod.mk.injEq] at h
       obtain⟨rfl,rfl,rfl,rfl,rfl⟩:=h
       obtain⟨h1,h2⟩:=hs _ _ _ _ _ _ _ _ hr
       obtain⟨J,hJ⟩:∃ J:FJ,J=fun _ _ _ _=>True:=⟨_,rfl⟩
       have h5:=h2 J J (.Hh hl) (mO c.2 fun r1 S1=>r1=.ob k sz' 0 Gb none/\S1=den J s2) ⟨_,_,(DA hf).1 _,rfl,rfl⟩
       rw [vl] at h5
       obtain⟨r1,S1,k1,rfl,rfl⟩:=(hE.yW _ _ _ ht).As (R:=fun r1 S1=>r1=.ob k sz' 0 Gb none/\S1=den J s2) (S:=den J VD) (Nat.le_of_ble_eq_true hn) h5
       exact⟨ti hp,fun r hr a ha=>eC (jX hc.2 r hr a ha),k,_,k1,z6 hk⟩
      ·cases h
     ·cases h
    ·cases h
   ·cases h
  ·cases h
theorem rZ:∀ {l m:List AV},db (l++m)->db l/\db m
 |[],m,h=>⟨trivial,h⟩
 |a::l,m,h=>⟨⟨h.1,(rZ h.2).1⟩,(rZ h.2).2⟩
theorem rG (hE:iw P w0 E) (hs:o9 P w0 rc) {g:Nat}{aZ9:List AV}(h:BL E rc g aZ9=some r):ah P w0 g aZ9 r/\db aZ9:=by
 unfold BL at h
 split at h
 ·rename_i r' he
  obtain rfl:=Option.some.inj h
  exact hE.ext _ _ _ he
 ·split at h
  ·rename_i v hv
   split at h
   ·rename_i hh first cap
    split at h
    ·rename_i h1
     obtain rfl:=Option.some.inj h
     obtain⟨k1,k2⟩:=yX hE hs h1
     obtain⟨k3,k4⟩:=rZ k2
     exact⟨hE.Kk _ _ hv _ _ _ k2 k1,.fn (db.all k3) (db.all k4),trivial⟩
    ·cases h
   ·cases h
  ·exact yX hE hs h
theorem tB:∀ {m:Nat}{a:AV},G9 m a=true->pT a
 |0,a,h=>by cases h
 |m+1,a,h=>by
  cases a with
  |v x=>exact .v
  |agg l=>exact .agg fun a ha=>tB (dF h a ha)
  |bg l=>exact .bg fun a ha=>tB (dF h a ha)
  |_=>cases h
theorem A3 (hE:iw P w0 E) (hs:o9 P w0 rc) {g:Nat}{aZ9:List AV}(h:PV E rc g aZ9 s=some (r,s')):(∀ J J',iE P w0 s s' J J'->bc P w0 g aZ9 (den J s) r (den J' s'))/\dU ⟨s.m,s.nx,s.nx,s.yk,s.an,s.lg⟩ s':=by
 unfold PV at h
 split at h
 ·cases h
 ·rename_i c n ht
  split at h
  ·rename_i hn
   split at h
   ·rename_i ex F s1 hr
    obtain⟨h1,h2⟩:=hs _ _ _ _ _ _ _ _ hr
    obtain⟨f1,f2,f3⟩:=DA h
    refine⟨fun J J' hc=>?_,h1.trans f2⟩
    have jq:iE P w0 ⟨s.m,s.nx,s.nx,s.yk,s.an,s.lg⟩ s1 J J':=by
     obtain⟨L,hL,hJ⟩:=hc
     exact⟨L,by rw [<-f3];exact hL,hJ⟩
    have h5:=h2 J J' jq (mO c.2 fun r1 S1=>r1=r/\S1=den J' s') ⟨r,_,f1 J',rfl,rfl⟩
    rw [vl] at h5
    obtain⟨r1,S1,k1,rfl,rfl⟩:=(hE.yW _ _ _ ht).As (R:=fun r1 S1=>r1=r/\S1=den J' s') (S:=den J s) (Nat.le_of_ble_eq_true hn) h5
    exact k1
   ·cases h
  ·cases h
theorem Ry {k:Nat}(h:dU s s') (hk:k < s'.lw):(den J s').get k=(den J s).get k:=by
 show (match dZ s'.yk k with|true=>some (Ob.fo J)|false=>fS s' k)=(match dZ s.yk k with|true=>some (Ob.fo J)|false=>fS s k)
 rw [h.yk,h.aD k hk]
theorem Ek (hE:iw P w0 E) (hs:o9 P w0 rc) {fw:Bool}{gq:QO}{kz:List QO}{f:Nat->AV}{df:List Nat}(h:vD E rc fw (gq.ev f) (kz.map (·.ev f)) s=some (r,s')) :
  (∀ J J',iE P w0 s s' J J'->ad P w0 false (.call gq kz) ⟨f,df⟩ (den J s) r (den J' s'))/\dU s s':=by
 unfold vD at h
 split at h
 ·rename_i k hk
  split at h
  ·rename_i hy
   have hy:=Pa hy
   split at h
   ·rename_i qC s1 hf
    obtain⟨N,n1,n2,n3,n4,n5,n6,n7,n8,n9⟩:=yK hf
    simp only [Option.some.injEq] at h
    have key:∀ (bt:Bool) (a':Nat),(.v (.bool bt),⟨s1.m,s1.nx,s1.lw,s1.yk,a',(qC,bt)::s1.lg⟩)=(r,s')->(∀ J J',iE P w0 s s' J J'->ad P w0 false (.call gq kz) ⟨f,df⟩ (den J s) r (den J' s'))/\dU s s':=by
     intro bt a' e
     simp only [Prod.mk.injEq] at e
     obtain⟨rfl,rfl⟩:=e
     refine⟨fun J J' hc=>?_,n5.trans ⟨Nat.le_refl _,Nat.le_refl _,rfl,⟨[(qC,bt)],rfl⟩,fun _ _=>rfl⟩⟩
     obtain⟨L,hL,hJ⟩:=hc
     have hL:(qC,bt)::s1.lg=L++s.lg:=hL
     rw [n6] at hL
     have R4:[(qC,bt)]=L:=List.append_cancel_right (bs:=s.lg) hL
     subst R4
     cases hJ with
     |cons h1 t =>
      cases t
      have hg:(den J s1).get k=some (.fo J):=by
       show (match dZ s1.yk k with|true=>some (Ob.fo J)|false=>fS s1 k)=_
       rw [n8,hy]
       simp only [dZ,Nat.beq_refl]
      have hd:∀ J':FJ,den J' ⟨s1.m,s1.nx,s1.lw,s1.yk,a',(qC,bt)::s1.lg⟩=(den J s1).set k (some (.fo J')):=by
       intro J'
       unfold den ae.set
       simp only [ae.mk.injEq,and_true]
       funext j
       by_cases e:j=k
       ·subst e
        rw [aE,n8,hy]
        simp only [dZ,Nat.beq_refl]
       ·rw [aK _ _ e,n8,hy]
        have:dZ (some k) j=false:=by
         cases hb:dZ (some k) j with
         |false=>rfl
         |true=>exact absurd (Option.some.inj (Pa hb)).symm e
        rw [this]
        rfl
      rw [hd]
      have hR:=ov.Eu (S:=den J s) (N:=N) (n1 J) (Nat.le_of_eq (by show s.nx=s1.nx;rw [n7])) (n2 J) n3 (h1 _ _ hg)
      intro n o jg
      obtain⟨c,u,ho,hu,rfl,rfl⟩:=l7 jg
      rw [ml (α:=⟨f,df⟩)] at hR
      rw [aR (α:=⟨f,df⟩)] at hk
      exact zm ho hu hk hR
    unfold ylX at h
    split at h
    ·exact key _ _ h
    ·exact key _ _ h
   ·cases h
  ·cases h
 ·split at h
  ·cases h
  ·rename_i g aZ9 bI
   split at h
   ·rename_i v hv
    split at h
    ·rename_i x VJ
     simp only [Option.some.injEq,Prod.mk.injEq] at h
     obtain⟨rfl,rfl⟩:=h
     obtain⟨xs,sH,cr⟩:=hE.nat _ _ _ hv
     refine⟨fun J J' hc=>?_,.refl _⟩
     obtain rfl:=hc.same rfl
     have BH:x=.func (.func g) #[] #[]/\aZ9=kz.map (·.ev f):=by
      rw [VJ] at bI
      unfold eL at bI
      split at bI
      ·rename_i g' a b he
       split at bI
       ·rename_i e1 e2
        simp only [Option.some.injEq,Prod.mk.injEq] at bI
        obtain⟨rfl,rfl⟩:=bI
        injection he with he
        obtain⟨a⟩:=a
        obtain⟨b⟩:=b
        simp only at e1 e2
        subst e1 e2
        exact⟨he,rfl⟩
       ·cases bI
      ·rename_i he;cases he
      ·cases bI
     rw [BH.1] at VJ
     exact ad.ext (α:=⟨f,df⟩) VJ (by show kz.map (·.ev f)=_;rw [<-BH.2];exact sH) cr
    ·cases h
   ·split at h
    ·rename_i r' hp
     simp only [Option.some.injEq,Prod.mk.injEq] at h
     obtain⟨rfl,rfl⟩:=h
     split at hp
     ·refine⟨fun J J' hc=>?_,.refl _⟩
      obtain rfl:=hc.same rfl
      obtain⟨h1,h2⟩:=hE.ext _ _ _ hp
      exact ad.ag bI h1 h2
     ·refine⟨fun J J' hc=>?_,.refl _⟩
      obtain rfl:=hc.same rfl
      unfold zcX at hp
      split at hp
      ·obtain⟨h1,h2⟩:=rG hE hs hp
       exact ad.ag bI h1 h2
      ·split at hp
       ·rename_i qC hf
        split at hp
        ·rename_i r2 dN
         split at hp
         ·rename_i hsc
          obtain rfl:=Option.some.inj hp
          obtain⟨h1,h2⟩:=rG hE hs dN
          have h3:=(u6 hf).1
          refine ad.pf bI h1 h2 (tB hsc) ?_
          have mono:∀ {l l':List AV},ff (ez s) l l'->ff (den J' s) l l':=by
           intro l
           induction l with
           |nil=>intro l' h;cases l' with|nil=>trivial|cons=>exact h.elim
           |cons a l ih=>intro l' h;cases l' with|nil=>exact h.elim|cons b l'=>exact⟨h.1.mono fun _ _ _ _ _ h=>z6 h,ih h.2⟩
          exact mono h3
         ·cases hp
        ·cases hp
       ·cases hp
    ·split at h
     ·rename_i r1 s1 hw
      obtain⟨h1,h2⟩:=A3 hE hs hw
      simp only [Option.some.injEq,Prod.mk.injEq] at h
      obtain⟨rfl,rfl⟩:=h
      refine⟨fun J J' hc=>ad.call bI (h1 J J' hc) (fun e=>by cases e),⟨Nat.min_le_left _ _,h2.nx,h2.yk,h2.lg,fun k hk=>h2.aD k (Nat.lt_of_lt_of_le hk (Nat.min_le_right _ _))⟩⟩
     ·cases h
theorem A4 (hE:iw P w0 E) {dr:Bool}{q:dm}{f:Nat->AV}{df:List Nat}{S:ae}(h:Kl E q f=some r):ad P w0 dr q ⟨f,df⟩ S r S:=by
 unfold Kl at h
 split at h
 ·split at h
  ·rename_i a b ha hb
   split at h
   ·rename_i e he
    obtain rfl:=Option.some.inj h
    exact ad.eqs ha hb (hE.seq _ _ _ _ he)
   ·cases h
  ·cases h
 ·cases h
theorem xw {kt:Nat}:∀ {l:List (Value × AV)},Dx E kt l=true->∀ p ∈ l,E.Fw kt p.1=true
 |[],_,a,h=>by cases h
 |b::l,hp,a,h=>by
  simp only [Dx] at hp
  split at hp
  ·rename_i hb
   rcases List.mem_cons.1 h with rfl|h
   ·exact hb
   ·exact xw hp a h
  ·cases hp
theorem Hi (hE:iw P w0 E) (hs:o9 P w0 rc) {fw:Bool}{q:dm}{f:Nat->AV}{df:List Nat}(h:Dy E rc fw q f s=some (r,s')):(∀ J J',iE P w0 s s' J J'->ad P w0 false q ⟨f,df⟩ (den J s) r (den J' s'))/\dU s s':=by
 have other:(match Kl E q f with|some r=>some (r,s)|none=>qy false q f s)=some (r,s')->(∀ J J',iE P w0 s s' J J'->ad P w0 false q ⟨f,df⟩ (den J s) r (den J' s'))/\dU s s':=fun h=>by
  split at h
  ·rename_i r1 he
   simp only [Option.some.injEq,Prod.mk.injEq] at h
   obtain⟨rfl,rfl⟩:=h
   refine⟨fun J J' hc=>?_,.refl _⟩
   obtain rfl:=hc.same rfl
   exact A4 hE he
  obtain⟨h1,h2,h3⟩:=JV (P:=P) (w0:=w0) (df:=df) h
  refine⟨fun J J' hc=>?_,h2⟩
  obtain rfl:=hc.same h3
  exact h1 J'
 cases q with
 |call g aZ9=>exact Ek hE hs h
 |append sz by_ a b =>
  simp only [Dy] at h
  split at h
  ·rename_i r1 ha
   obtain rfl:=Option.some.inj h
   obtain⟨h1,h2,h3⟩:=yx (P:=P) (w0:=w0) (df:=df) (dr:=false) ha
   refine⟨fun J J' hc=>?_,h2⟩
   obtain rfl:=hc.same h3
   exact h1 J'
  ·split at h
   ·rename_i ex rows ha hm
    simp only [Option.some.injEq,Prod.mk.injEq] at h
    obtain⟨rfl,rfl⟩:=h
    refine⟨fun J J' hc=>?_,.refl _⟩
    obtain rfl:=hc.same rfl
    exact ad.GZ ha (gL hm)
   ·rename_i ex rows ha hm
    split at h
    ·rename_i hb
     simp only [Option.some.injEq,Prod.mk.injEq] at h
     obtain⟨rfl,rfl⟩:=h
     refine⟨fun J J' hc=>?_,.refl _⟩
     obtain rfl:=hc.same rfl
     exact ad.YD ha hb
    ·cases h
   ·cases h
 |eM kt z c x i =>
  simp only [Dy] at h
  split at h
  ·rename_i k v hx hi
   split at h
   ·rename_i es hk
    split at h
    ·rename_i hc
     simp only [Bool.and_eq_true] at hc
     simp only [Option.some.injEq,Prod.mk.injEq] at h
     obtain⟨rfl,rfl⟩:=h
     refine⟨fun J J' ga=>?_,.refl _⟩
     obtain rfl:=ga.same rfl
     exact ad.eM hx (du (J:=J') hk).1 hi (hE.key _ _ _ hc.1 (xw hc.2))
    ·cases h
   ·cases h
  ·cases h
 |ky kt x i b =>
  simp only [Dy] at h
  split at h
  ·rename_i k v hx hi
   split at h
   ·rename_i es hk
    split at h
    ·rename_i hc hn
     simp only [Bool.and_eq_true] at hc
     simp only [Option.some.injEq,Prod.mk.injEq] at h
     obtain⟨rfl,rfl⟩:=h
     refine⟨fun J J' ga=>?_,.wr⟩
     obtain rfl:=ga.same rfl
     obtain⟨iV,dS⟩:=du (J:=J') hk
     rw [j6 dS]
     exact ad.ky hx iV hi (hE.key _ _ _ hc.1 (xw hc.2)) hn rfl
    ·cases h
   ·cases h
  ·cases h
 |_=>exact other h
theorem A5 (hE:iw P w0 E) (hs:o9 P w0 rc) {fw:Bool}{q:dm}{f:Nat->AV}{df:List Nat}(h:PW E rc fw q f s=some (r,s')):(∀ J J',iE P w0 s s' J J'->ad P w0 false q ⟨f,df⟩ (den J s) r (den J' s'))/\dU s s':=by
 unfold PW at h
 split at h
 ·rename_i r1 h1
  obtain rfl:=Option.some.inj h
  obtain⟨k1,k2,k3⟩:=G4 (P:=P) (w0:=w0) (df:=df) h1
  refine⟨fun J J' hc=>?_,k2⟩
  obtain rfl:=hc.same k3
  exact k1 J'
 ·exact Hi hE hs h
theorem yY {rd:Bool}{n:Nat}{c:QC}{body:Fr->XS->XR}
  (hb:∀ F s ex F' s',body F s=.dn ex F' s'->dU s s'/\∀ J J',iE P w0 s s' J J'->∀ c1,ct P.toTables n c1=some c->cH P c1=true->cu P w0 rd n c1 (cy F) (den J s) ex (cy F') (den J' s')) :
  ∀ {k:Nat}{F F':Fr}{s s':XS}{ex:Exit},G_ body k F s=some (ex,F',s')->dU s s'/\∀ J J',iE P w0 s s' J J'->∀ c1,ct P.toTables n c1=some c->cH P c1=true->rT P w0 rd n c1 (cy F) (den J s) ex (cy F') (den J' s')
 |0,t,t',s,s',ex,h=>by cases h
 |k+1,t,t',s,s',ex,h=>by
  simp only [G_] at h
  split at h
  ·rename_i e1 t1 s1 h1
   obtain⟨p1,p2⟩:=hb _ _ _ _ _ h1
   split at h
   ·obtain⟨q1,q2⟩:=yY hb h
    refine⟨p1.trans q1,fun J J' hc c1 jq hd=>?_⟩
    obtain⟨J1,k1,k2⟩:=iE.split p1 q1 hc
    exact rT.step (p2 _ _ k1 c1 jq hd) (q2 _ _ k2 c1 jq hd)
   ·rename_i bG
    simp only [Option.some.injEq,Prod.mk.injEq] at h
    obtain⟨rfl,rfl,rfl⟩:=h
    exact⟨p1,fun J J' hc c1 jq hd=>rT.done (p2 _ _ hc c1 jq hd) (fun e=>bG e)⟩
  ·cases h
theorem yZ:∀ {ks:List Nat}{s s':XS},Ha s ks=some s'->(∀ J,den J s'=⟨Fy (den J s).get ks,s.nx⟩)/\dU s s'/\s'.lg=s.lg/\s'.nx=s.nx
 |[],s,s',h=>by obtain rfl:=Option.some.inj h;exact⟨fun J=>rfl,.refl _,rfl,rfl⟩
 |k::ks,s,s',h=>by
  simp only [Ha] at h
  split at h
  ·rename_i s1 h1
   obtain⟨p1,p2,p3,p4⟩:=yZ h1
   split at h
   ·rename_i hy
    obtain rfl:=Option.some.inj h
    refine⟨fun J=>?_,p2.trans .wr,p3,p4⟩
    rw [j6 hy,p1]
    rfl
   ·cases h
  ·cases h
theorem DC {W:List (Nat × Option Ob)}{m:Bool}(h:aW s W m=some s'):(∀ J,den J s'=dQ (den J s) W m)/\dU s s'/\s'.lg=s.lg:=by
 unfold aW at h
 split at h
 ·obtain rfl:=Option.some.inj h
  exact⟨fun J=>cK.symm,.refl _,rfl⟩
 ·split at h
  ·rename_i hy
   obtain rfl:=Option.some.inj h
   exact⟨fun J=>by rw [j6 hy,ec];rfl,.wr,rfl⟩
  ·cases h
 ·split at h
  ·rename_i hb
   simp only [Bool.and_eq_true,Bool.not_eq_true'] at hb
   have h1:=Nat.eq_of_beq_eq_true hb.1
   subst h1
   obtain rfl:=Option.some.inj h
   exact⟨fun J=>by rw [iq hb.2,ec];rfl,.nw,rfl⟩
  ·cases h
 ·split at h
  ·rename_i o j _ hb
   simp only [Bool.and_eq_true,Bool.not_eq_true'] at hb
   have h1:=Nat.eq_of_beq_eq_true hb.1.1
   subst h1
   obtain rfl:=Option.some.inj h
   exact⟨fun J=>by rw [iq (s:=lD s _ none) hb.1.2,j6 hb.2,ec];rfl,dU.wr.trans .nw,rfl⟩
  ·cases h
 ·cases h
theorem Ko (hE:iw P w0 E) (hs:o9 P w0 rc) {fr:Bool}{q:dm}{f:Nat->AV}{df:List Nat}{rs mE:List Nat}{ns:List Nat × List Nat × Bool}(h:PX E rc fr q f s rs=some (r,ns,mE,s')) :
  (∀ (J:FJ) (B:Nat),(∀ k ∈ rs,k < B)->∃ d:Dt,d.ns=ns/\cB P w0 B q ⟨f,df⟩ (den J s) r d/\den J s'=dQ (den J s) d.W d.m)/\(∀ k ∈ mE,k ∈ rs)/\dU s s'/\s'.lg=s.lg:=by
 have quiet:∀ {q:dm},(match dq q f (ez s) rs with
   |some (r,d,mE)=>(match aW s d.W d.m with|some s'=>some (r,d.ns,mE,s')|none=>none)
   |none=>none)=some (r,ns,mE,s')->(∀ (J:FJ) (B:Nat),(∀ k ∈ rs,k < B)->∃ d:Dt,d.ns=ns/\cB P w0 B q ⟨f,df⟩ (den J s) r d/\den J s'=dQ (den J s) d.W d.m)/\(∀ k ∈ mE,k ∈ rs)/\dU s s'/\s'.lg=s.lg:=fun {q} h=>by
  split at h
  ·rename_i r1 d PZ hq
   split at h
   ·rename_i s1 ha
    simp only [Option.some.injEq,Prod.mk.injEq] at h
    obtain⟨rfl,rfl,rfl,rfl⟩:=h
    obtain⟨p1,p2,p3⟩:=DC ha
    have wo:∀ k ∈ PZ,k ∈ rs:=(xx (P:=P) (w0:=w0) (df:=df) (B:=rs.foldr (fun a b=>a+b) 0+1) (fun k hk=>by
     have:∀ l:List Nat,k ∈ l->k<=l.foldr (fun a b=>a+b) 0:=by
      intro l
      induction l with
      |nil=>intro h;cases h
      |cons a l ih =>
       intro h
       rw [List.foldr_cons]
       rcases List.mem_cons.1 h with rfl|h
       ·omega
       ·have:=ih h
        omega
     have:=this rs hk
     omega) hq).2
    refine⟨fun J B fp=>⟨d,rfl,fun n o hr=>?_,p1 J⟩,wo,p2,p3⟩
    obtain⟨k1,k2,k3⟩:=(xx (P:=P) (w0:=w0) (df:=df) fp hq).1 n o hr
    exact⟨k1,fun p hp=>(du (k2 p hp)).1,fun T hb hT hm=>k3 T hb hT hm⟩
   ·cases h
  ·cases h
 unfold PX at h
 split at h
 ·rename_i r1 hp
  simp only [Option.some.injEq,Prod.mk.injEq] at h
  obtain⟨rfl,rfl,rfl,rfl⟩:=h
  exact⟨fun J B fp=>⟨⟨[],[],false⟩,rfl,cB.pure fun T=>AI hp,cK.symm⟩,fun _ h=>h,.refl _,rfl⟩
 split at h
 ·rename_i r1 hp
  simp only [Option.some.injEq,Prod.mk.injEq] at h
  obtain⟨rfl,rfl,rfl,rfl⟩:=h
  exact⟨fun J B fp=>⟨⟨[],[],false⟩,rfl,cB.pure fun T=>A4 hE hp,cK.symm⟩,fun _ h=>h,.refl _,rfl⟩
 ·cases q with
  |call g aZ9 =>
   simp only at h
   split at h
   ·rename_i hh qC bI
    split at h
    ·rename_i sz len rows fz ex VK
     simp only [Option.some.injEq,Prod.mk.injEq] at h
     obtain⟨rfl,rfl,rfl,rfl⟩:=h
     split at VK
     ·rename_i hy
      obtain⟨k1,k2,k,S1,k3,k4⟩:=Kn hE hs VK
      refine⟨fun J B fp=>⟨⟨[],[(s.nx,some (.arr sz rows fz ex))],true⟩,rfl,cB.YE (S:=den J s) bI k1 k3 k4 k2,?_⟩,fun _ h=>h,.nw,rfl⟩
      rw [iq hy,ec]
      rfl
     ·cases VK
    ·split at h
     ·rename_i r1 hp
      simp only [Option.some.injEq,Prod.mk.injEq] at h
      obtain⟨rfl,rfl,rfl,rfl⟩:=h
      obtain⟨k1,k2⟩:=rG hE hs hp
      exact⟨fun J B fp=>⟨⟨[],[],false⟩,rfl,cB.pure fun T=>ad.ag bI k1 k2,cK.symm⟩,fun _ h=>h,.refl _,rfl⟩
     ·cases h
   ·cases h
  |append sz by_ a b =>
   simp only at h
   split at h
   ·rename_i r1 d ha
    split at h
    ·rename_i s1 hw
     simp only [Option.some.injEq,Prod.mk.injEq] at h
     obtain⟨rfl,rfl,rfl,rfl⟩:=h
     obtain⟨p1,p2,p3⟩:=DC hw
     exact⟨fun J B fp=>⟨d,rfl,G0 ha,p1 J⟩,fun _ h=>h,p2,p3⟩
    ·cases h
   ·cases h
  |_=>exact quiet h
theorem z7 {n:Nat}{c1:Code}{l:List QI}(jq:ct P.toTables n c1=some (.bD false l)) {R:AA->ae->Prop}{E:List PanicEntry->AA->ae->Prop}{β:AA}{T:ae}(hE:∀ ch α S,¬ E ch α S) (h:ea P w0 n false l R E β T) :
  ∃ bK bZ,cu P w0 true n c1 β T .normal bK bZ/\R bK bZ:=by
 obtain⟨id,ops,rfl,_,h3⟩:=A0 jq
 obtain⟨aA,S',h5,h6⟩:=(h _ _ h3 0 rfl).resolve_right fun ⟨ch,aA,S',_,h6⟩=>hE _ _ _ h6
 rw [Array.length_toList,<-List.range_eq_range'] at h5
 exact⟨aA,S',cu.region h5,h6⟩
theorem y0 (hs:o9 P w0 rc) {n:Nat}{c1 c2:Code}{qa qb:QC}{F F':Fr}{ex:Exit}(h:Hb rc n qa qb F s=.dn ex F' s') :
  dU s s'/\(ct P.toTables n c1=some qa->ct P.toTables n c2=some qb->cH P c2=true->(∀ ch,ex ≠ .panic ch)->∀ J J',iE P w0 s s' J J'->∃ bK bZ,cu P w0 true n c1 (cy F) (den J s) .normal bK bZ/\Wp P w0 true n c2 (fun e α S=>e=ex/\α=cy F'/\S=den J' s') bK bZ):=by
 unfold Hb at h
 split at h
 ·rename_i l ha
  obtain⟨p1,p2⟩:=hs _ _ _ _ _ _ _ _ h
  refine⟨p1,fun jq ga eK Fz J J' hc=>?_⟩
  have hq:=p2 J J' hc (fun e α S=>e=ex/\α=cy F'/\S=den J' s') ⟨rfl,rfl,rfl⟩
  unfold Mt at ha
  split at ha
  ·injection ha with ha;injection ha with _ h2
   subst h2
   obtain⟨bK,bZ,h3,h4⟩:=(hq [] [] rfl 0 rfl).resolve_right fun ⟨ch,aA,S',_,h6⟩=>Fz ch h6.1.symm
   refine⟨bK,bZ,?_,h4 c2 ga eK⟩
   intro F m A g a w hF hR hS hA
   exact (ot.1 jq).wp (h3 F m A g a w (k_ w0 n A g w .normal bK bZ) hF hS hA fun a' w' g' h1 h2 h3=>⟨rfl,g',h1,h2,h3⟩)
  ·injection ha with ha;injection ha with _ h2
   subst h2
   obtain⟨bK,bZ,h3,h4⟩:=z7 jq (fun ch α S he=>Fz ch he.1.symm) hq
   exact⟨bK,bZ,h3,h4 c2 ga eK⟩
  ·cases ha
  ·cases ha
 ·rename_i a l ha
  split at h
  ·rename_i F1 s1 h1
   split at h
   ·rename_i hl
    obtain⟨p1,p2⟩:=hs _ _ _ _ _ _ _ _ h1
    obtain⟨p3,p4⟩:=hs _ _ _ _ _ _ _ _ h
    have hl:s1.lg=s.lg:=by
     obtain⟨L,hL⟩:=p1.lg
     have:=Nat.eq_of_beq_eq_true hl
     rw [hL,List.length_append] at this
     rw [hL,List.length_eq_zero_iff.1 (show L.length=0 by omega)]
     rfl
    refine⟨p1.trans p3,fun jq ga eK Fz J J' hc=>?_⟩
    have hq1:=p2 J J (.Hh hl) (fun e α S=>e=.normal/\α=cy F1/\S=den J s1) ⟨rfl,rfl,rfl⟩
    have xM:iE P w0 s1 s' J J':=by obtain⟨X,hX,hJ⟩:=hc;exact⟨X,by rw [hl];exact hX,hJ⟩
    have CY:=p4 J J' xM (fun e α S=>e=ex/\α=cy F'/\S=den J' s') ⟨rfl,rfl,rfl⟩
    unfold Mt at ha
    split at ha
    ·cases ha
    ·cases ha
    ·simp only [Option.some.injEq,Prod.mk.injEq] at ha
     obtain⟨rfl,rfl⟩:=ha
     obtain⟨r1,r2,rfl,k1,k2⟩:=A1 jq
     obtain⟨bK,bZ,h3,h4⟩:=z7 k1 (fun ch α S he=>by cases he.1) hq1
     obtain⟨_,rfl,rfl⟩:_/\bK=cy F1/\bZ=den J s1:=h4
     obtain⟨vz,zj,h5,h6⟩:=z7 k2 (fun ch α S he=>Fz ch he.1.symm) CY
     exact⟨vz,zj,cu.seq h3 h5,h6 c2 ga eK⟩
    ·cases ha
   ·cases h
  ·cases h
 ·cases h
theorem y3 (hs:o9 P w0 rc) {n B N:Nat}{c1 c2:Code}{pt:Array Tmp}{qa qb:QC}{t:Tr AV}{st0:List (Nat × AV)}(jq:ct P.toTables n c1=some qa) (ga:ct P.toTables n c2=some qb) (d_:cH P c1=true) (eK:cH P c2=true)
  (Ey:∀ t ∈ pt,t < n) (jf:en t=jk (fun _=>.u) st0) (hk:∀ p ∈ st0,dH B p.2):∀ {lg:List (List AV × Bool)}{s s':XS}{ex:Exit},s.nx=N->vk rc n B N qa qb pt.toList t lg s=some (ex,s') ->
  s'.nx=N/\s'.yk=s.yk/\(∃ L,s'.lg=L++s.lg)/\(s.lw=0->s'.lw=0)/\∀ J J',iE P w0 s s' J J'->∃ j,r_ ex=some j/\∀ A gs T0,(∀ k,gs.al k->k < B) ->
   uN P w0 (LJ w0.heap.size A gs n T0 .ready none pt c1 c2 (dX st0 []).tm (aM (lV J s) N)) lg (LJ w0.heap.size A gs n T0 (kc j) j pt c1 c2 (dX st0 []).tm (aM (lV J' s') N))
 |[],s,s',ex,hN,h=>by
  simp only [vk,Option.some.injEq,Prod.mk.injEq] at h
  obtain⟨rfl,rfl⟩:=h
  refine⟨hN,rfl,⟨[],rfl⟩,id,fun J J' hc=>⟨none,rfl,fun A gs T0 _=>?_⟩⟩
  obtain rfl:=hc.same rfl
  exact .nil _
 |(x,b)::rest,s,s',ex,hN,h=>by
  simp only [vk] at h
  split at h
  case h_2=>cases h
  rename_i hx
  simp only [Bool.and_eq_true] at hx
  have gT:=Nat.eq_of_beq_eq_true hx.1
  have aO:∀ a ∈ x,Pure a:=fun a ha=>eC (dF hx.2 a ha)
  split at h
  case h_2=>cases h
  rename_i wF F1 s2 hr
  split at h
  case h_2=>cases h
  rename_i s3 Nj EB
  obtain⟨p1,p2⟩:=y0 (c1:=c1) (c2:=c2) hs hr
  obtain⟨g1,g2,g3,g4,g5,g6⟩:=AO (F:=en F1.t) EB
  have BP:∀ t,dH B ((dX st0 []).tm t):=fun t=>wO hk t
  have rn:∀ {j:Option Code},r_ wF=some j->∀ J J1,iE P w0 s s2 J J1->∀ A gs T0,(∀ k,gs.al k->k < B)->∀ (T:ae) (k:Nat),T.get k=some (.fo (LJ w0.heap.size A gs n T0 .ready none pt c1 c2 (dX st0 []).tm (aM (lV J s) N))) ->
    ov P w0 k x T (.v (.bool j.isNone)) (T.set k (some (.fo (LJ w0.heap.size A gs n T0 (kc j) j pt c1 c2 (dX st0 []).tm (aM (lV J1 s3) N))))):=by
   intro j hj J J1 hc A gs T0 hB T k hT
   have Fz:∀ ch,wF ≠ .panic ch:=fun ch e=>by rw [e] at hj;cases hj
   obtain⟨bK,bZ,h2,ex2,rA,S2,h4,rfl,rfl,rfl⟩:=p2 jq ga eK Fz J J1 hc
   have e1:cy ⟨vO t (pt.toList.zip x),[]⟩=⟨qQ (dX st0 []).tm (pt.toList.zip x),[]⟩:=by
    unfold cy
    rw [AD,jf]
    rfl
   have e2:den J s=aM (lV J s) N:=by rw [<-hN,Dl]
   rw [e1,e2] at h2
   obtain⟨m,hC⟩:=g6 J1
   have e3:cy F1=⟨en F1.t,[]⟩:=by unfold cy;rw [Nj]
   rw [<-e3] at hC
   exact ov.Z_ h2 h4 hC hj (by rw [gT,Array.length_toList]) aO Ey BP hB hT
  split at h
  ·obtain⟨q1,q2,⟨L2,q3⟩,q4,q5⟩:=y3 hs jq ga d_ eK Ey jf hk g1 h
   obtain⟨L1,qR⟩:=p1.lg
   refine⟨q1,by rw [q2,g2];exact p1.yk,⟨L2++L1,by rw [q3,g4,qR,List.append_assoc]⟩,fun _=>q4 g5,fun J J' hc=>?_⟩
   obtain⟨X,hX,hJ⟩:=hc
   rw [q3,g4,qR,<-List.append_assoc] at hX
   obtain rfl:=List.append_cancel_right hX
   rw [List.reverse_append] at hJ
   obtain⟨J1,k1,k2⟩:=hJ.app
   obtain⟨j,hj,hq5⟩:=q5 J1 J' ⟨L2,q3,k2⟩
   exact⟨j,hj,fun A gs T0 hB=>.cons (rn (j:=none) rfl J J1 ⟨L1,qR,k1⟩ A gs T0 hB) (hq5 A gs T0 hB)⟩
  ·simp only [Option.some.injEq,Prod.mk.injEq] at h
   obtain⟨rfl,rfl⟩:=h
   obtain⟨L1,qR⟩:=p1.lg
   refine⟨g1,by rw [g2];exact p1.yk,⟨L1,by rw [g4,qR]⟩,fun _=>g5,fun J J' hc=>⟨_,rfl,fun A gs T0 hB=>?_⟩⟩
   obtain⟨X,hX,hJ⟩:=hc
   rw [g4] at hX
   exact .cons (rn rfl J J' ⟨X,hX,hJ⟩ A gs T0 hB) (.nil _)
  ·simp only [Option.some.injEq,Prod.mk.injEq] at h
   obtain⟨rfl,rfl⟩:=h
   obtain⟨L1,qR⟩:=p1.lg
   refine⟨g1,by rw [g2];exact p1.yk,⟨L1,by rw [g4,qR]⟩,fun _=>g5,fun J J' hc=>⟨_,rfl,fun A gs T0 hB=>?_⟩⟩
   obtain⟨X,hX,hJ⟩:=hc
   rw [g4] at hX
   exact .cons (rn rfl J J' ⟨X,hX,hJ⟩ A gs T0 hB) (.nil _)
  ·cases h
theorem DD (hs:o9 P w0 rc) {n B N:Nat}{qa:QC}{qb:QC}{ps:List Nat}{t:Tr AV}:∀ {lg:List (List AV × Bool)}{s s':XS}{ex:Exit},s.nx=N->vk rc n B N qa qb ps t lg s=some (ex,s') ->
  s'.nx=N/\s'.yk=s.yk/\(∃ L,s'.lg=L++s.lg)/\(s.lw=0->s'.lw=0)
 |[],s,s',ex,hN,h=>by
  simp only [vk,Option.some.injEq,Prod.mk.injEq] at h
  obtain⟨rfl,rfl⟩:=h
  exact⟨hN,rfl,⟨[],rfl⟩,id⟩
 |(x,b)::rest,s,s',ex,hN,h=>by
  simp only [vk] at h
  split at h
  case h_2=>cases h
  split at h
  case h_2=>cases h
  rename_i wF F1 s2 hr
  split at h
  case h_2=>cases h
  rename_i s3 Nj EB
  have p1:=(y0 (P:=P) (w0:=w0) (c1:=.skip) (c2:=.skip) hs hr).1
  obtain⟨g1,g2,g3,g4,g5,g6⟩:=AO (F:=en F1.t) EB
  obtain⟨L1,qR⟩:=p1.lg
  have fin:s3.nx=N/\s3.yk=s.yk/\(∃ L,s3.lg=L++s.lg)/\(s.lw=0->s3.lw=0):=⟨g1,by rw [g2];exact p1.yk,⟨L1,by rw [g4,qR]⟩,fun _=>g5⟩
  split at h
  ·obtain⟨q1,q2,⟨L2,q3⟩,q4⟩:=DD hs g1 h
   exact⟨q1,by rw [q2,g2];exact p1.yk,⟨L2++L1,by rw [q3,g4,qR,List.append_assoc]⟩,fun _=>q4 g5⟩
  ·simp only [Option.some.injEq,Prod.mk.injEq] at h
   obtain⟨rfl,rfl⟩:=h
   exact fin
  ·simp only [Option.some.injEq,Prod.mk.injEq] at h
   obtain⟨rfl,rfl⟩:=h
   exact fin
  ·cases h
theorem vm {s s':XS}(h:s.yk=s'.yk):∀ {l:List (Nat × Option Ob)},u_ s l=u_ s' l
 |[]=>rfl
 |p::l=>by
  simp only [u_,h]
  split
  ·rw [vm h]
  ·exact vm h
theorem Kp {s s':XS}(hm:s.m=s'.m) (h:s.yk=s'.yk):lV J s=lV J s':=by
 unfold lV
 rw [hm,h,vm h]
theorem A6 {B N:Nat}{m:List (Nat × Nat)}{f:Nat->AV}:∀ {l:List (Nat × AV)},(∀ p ∈ l,f p.1=p.2/\dH B p.2)->y4 B m N f l
 |[],_=>trivial
 |p::l,h=>⟨.aD (h p (by simp)).1 (h p (by simp)).2,A6 fun q hq=>h q (by simp [hq])⟩
theorem DE {B N:Nat}{m:List (Nat × Nat)}{S:ae}:∀ {l:List (Nat × Ob)},(∀ p ∈ l,∃ ck,S.get (cW B (bX m) p.1)=some ck/\u7 B m N ck p.2)->q8 B m N S l
 |[],_=>trivial
 |p::l,h=>⟨.inl (h p (by simp)),DE fun q hq=>h q (by simp [hq])⟩
theorem y5 (hE:iw P w0 E) (hs:o9 P w0 rc) {g:Nat}{aZ9:List AV}{an:Nat}{lg:List (List AV × Bool)}(h:Hc E rc g aZ9 an=some lg):∀ J J',uN P w0 J lg J'->∃ r S1,bc P w0 g aZ9 (aM [(0,.fo J)] 1) r S1/\S1.get 0=some (.fo J'):=by
 unfold Hc at h
 split at h
 ·rename_i r s' hw
  obtain rfl:=Option.some.inj h
  obtain⟨h1,h2⟩:=A3 hE hs hw
  intro J J' hJ
  obtain⟨L,hL⟩:=h2.lg
  have hc:=h1 J J' ⟨s'.lg,by simp,hJ⟩
  have e:den J ⟨.nil,1,1,some 0,an,[]⟩=aM [(0,.fo J)] 1:=by
   unfold den aM
   simp only [ae.mk.injEq,and_true]
   funext k
   simp only [dZ,ix]
   cases Nat.beq 0 k<;>rfl
  rw [e] at hc
  refine⟨r,_,hc,?_⟩
  show (match dZ s'.yk 0 with|true=>some (Ob.fo J')|false=>fS s' 0)=_
  have:s'.yk=some 0:=h2.yk
  rw [this]
  rfl
 ·cases h
theorem Hj (hE:iw P w0 E) (hs:o9 P w0 rc) {g:Nat}{aZ9:List AV}{R:List (List AV × Bool)->Option (Exit × XS)}{C:List (List AV × Bool)->Option Nat}{q:Exit × XS}(h:Mu rc E g aZ9 R C=some q) :
  ∃ lg,R lg=some q/\∀ J J',uN P w0 J lg J'->∃ r S1,bc P w0 g aZ9 (aM [(0,.fo J)] 1) r S1/\S1.get 0=some (.fo J'):=by
 unfold Mu at h
 split at h
 ·rename_i lg h1
  split at h
  ·rename_i q' h2
   obtain rfl:=Option.some.inj h
   exact⟨lg,h2,y5 hE hs h1⟩
  ·split at h
   ·split at h
    ·rename_i lg2 h3
     exact⟨lg2,h,y5 hE hs h3⟩
    ·cases h
   ·cases h
 ·cases h
theorem xy {B:Nat}:∀ {l:List (Nat × AV)},He B l=true->∀ p ∈ l,dH B p.2
 |[],_,a,h=>by cases h
 |b::l,hp,a,h=>by
  simp only [He] at hp
  split at hp
  ·rename_i hb
   rcases List.mem_cons.1 h with rfl|h
   ·exact je hb
   ·exact xy hp a h
  ·cases hp
theorem DF {B:Nat}:∀ {l:List (Nat × Option Ob)},Hf B s l=true->∀ p ∈ l,p.1 < B/\∀ o,p.2=some o->oy B o
 |[],_,a,h=>by cases h
 |b::l,hp,a,h=>by
  simp only [Hf] at hp
  split at hp
  ·rename_i hb
   simp only [Bool.and_eq_true] at hb
   rcases List.mem_cons.1 h with rfl|h
   ·refine⟨dR hb.1,fun o ho=>?_⟩
    have h2:=hb.2
    rw [ho] at h2
    exact Dg h2
   ·exact DF hp a h
  ·cases hp
theorem A7 {t:Tr AV}:en t=jk (fun _=>.u) (toLk t):=by
 have key:∀ (l:List (Nat × AV)) (g:Nat->Option AV),(∀ k a,(k,a) ∈ l ↔ g k=some a)->∀ k,jk (fun _=>.u) l k=match g k with|some a=>a|none=>.u:=by
  intro l g h k
  have h1:∀ (l:List (Nat × AV)),(∃ a,(k,a) ∈ l/\jk (fun _=>.u) l k=a)\/((∀ a,(k,a) ∉ l)/\jk (fun _=>.u) l k=.u):=by
   intro l
   induction l with
   |nil=>exact .inr ⟨fun a h=>(by cases h),rfl⟩
   |cons p l ih =>
    obtain⟨j,b⟩:=p
    by_cases e:k=j
    ·subst e
     exact .inl ⟨b,by simp,aE _ _ _⟩
    ·have e2:jk (fun _=>.u) ((j,b)::l) k=jk (fun _=>.u) l k:=aK _ _ e
     rw [e2]
     rcases ih with ⟨a,h1,h2⟩|⟨h1,h2⟩
     ·exact .inl ⟨a,List.mem_cons_of_mem _ h1,h2⟩
     ·refine .inr ⟨fun a h=>?_,h2⟩
      rcases List.mem_cons.1 h with h|h
      ·injection h with h3 h4;exact e h3
      ·exact h1 a h
  rcases h1 l with ⟨a,h2,h3⟩|⟨h2,h3⟩
  ·rw [h3,(h k a).1 h2]
  ·rw [h3]
   cases e:g k with
   |none=>rfl
   |some a=>exact absurd ((h k a).2 e) (h2 a)
 funext k
 rw [key (toLk t) (eY t) (fun k a=>toLk_mem) k]
 rfl
theorem Hk (hE:iw P w0 E) (hs:o9 P w0 rc) {n:Nat}{x:QO}{ps:List Nat}{qa qb:QC}{F F':Fr}{ex:Exit}(h:Mv E rc n (x.ev (en F.t)) ps qa qb F s=some (ex,F',s')) :
  dU s s'/\∀ J J',iE P w0 s s' J J'->∀ Q K,cd P w0 false n Q (.out ex K) (cy F') (den J' s')->cd P w0 false n Q (.run (.sR x ps qa qb) K) (cy F) (den J s):=by
 unfold Mv at h
 split at h
 case h_2=>cases h
 rename_i gid first cap hx
 split at h
 case h_2=>cases h
 rename_i Ap
 simp only [Bool.and_eq_true,Bool.not_eq_true'] at Ap
 obtain⟨⟨⟨⟨⟨⟨⟨⟨c1,c2⟩,c3⟩,c4⟩,c5⟩,c6⟩,c7⟩,c8⟩,c9⟩:=Ap
 split at h
 case h_2=>cases h
 rename_i wF s1 dz
 simp only [Option.some.injEq,Prod.mk.injEq] at h
 obtain⟨rfl,rfl,rfl⟩:=h
 obtain⟨lg,hR,Aq⟩:=Hj hE hs dz
 obtain⟨r0,wu⟩:∃ r0:XS,r0=⟨(j5 s .df).m,s.nx+41,0,s.yk,s.an,s.lg⟩:=⟨_,rfl⟩
 rw [<-wu] at hR
 have r1:r0.nx=s.nx+41:=by rw [wu]
 have r2:r0.lg=s.lg:=by rw [wu]
 have r3:r0.yk=s.yk:=by rw [wu]
 have r4:∀ J,lV J r0=lV J (j5 s .df):=fun J=>Kp (by rw [wu]) (by rw [wu];rfl)
 obtain⟨q1,q2,⟨L,q3⟩,q4⟩:=DD hs r1 hR
 have q4:=q4 (by rw [wu])
 refine⟨⟨by omega,by omega,q2.trans r3,⟨L,by rw [q3,r2]⟩,fun k hk=>by omega⟩,fun J J' hc Q K hQ=>?_⟩
 intro c wi hd
 obtain⟨y,pt,a1,a2,rfl,rfl,rfl,jq,ga⟩:=G7 wi
 simp only [cH,Bool.and_eq_true] at hd
 obtain⟨_,_,_,_,q5⟩:=y3 (P:=P) (w0:=w0) (pt:=pt) (st0:=toLk F.t) hs jq ga hd.1 hd.2 (fun t ht=>by
  have:=List.all_eq_true.1 c3 t (by simpa using ht)
  exact dR this) A7 (xy c6) r1 hR
 obtain⟨j,hj,hch⟩:=q5 J J' (by obtain⟨X,hX,hJ⟩:=hc;exact⟨X,by rw [r2];exact hX,hJ⟩)
 have Sq:(cy F).ev y=.fn (.func gid) first cap:=by rw [<-aR];exact hx
 have hC:Canon (s.nx+1) (s.nx+41) [] ⟨(cy F).tm,(den J s).nx::(cy F).df⟩ ((den J s).new .df) (toLk F.t) ((den J s).nx::(cy F).df) (lV J r0):=by
  refine⟨A6 fun p hp=>⟨?_,xy c6 p hp⟩,rfl,DE fun p hp=>?_,?_,Nat.ble_eq_true_of_le (by omega),?_⟩
  ·have:=toLk_mem.1 (show (p.1,p.2) ∈ toLk F.t from hp)
   show en F.t p.1=p.2
   unfold en
   rw [this]
  ·obtain⟨k,o⟩:=p
   rw [r4] at hp
   have hg:=Fl.1 hp
   rw [iq c4] at hg
   have AK:k < s.nx+1/\oy (s.nx+1) o:=by
    unfold lV at hp
    rcases List.mem_append.1 hp with hp|hp
    ·have hy:(j5 s .df).yk=s.yk:=rfl
     rw [hy] at hp
     cases hyy:s.yk with
     |none=>rw [hyy] at hp;cases hp
     |some y2 =>
      rw [hyy] at hp c9
      simp only [Kc,List.mem_singleton,Prod.mk.injEq] at hp
      obtain⟨rfl,rfl⟩:=hp
      exact⟨dR c9,trivial⟩
    ·obtain⟨h1,h2⟩:=sG.1 hp
     obtain⟨h3,h4⟩:=DF c7 _ h2
     exact⟨h3,h4 o rfl⟩
   exact⟨o,by simp only;rw [jo AK.1];exact hg,.same AK.2⟩
  ·rw [r4,Dk]
   exact c8
  ·show ((s.nx::F.ds).all fun x=>Nat.blt x (s.nx+1))=true
   rw [List.all_cons,c5,show Nat.blt s.nx (s.nx+1)=true from Nat.ble_eq_true_of_le (Nat.le_refl _)]
   rfl
 refine⟨wF,_,_,cu.range (n:=n) (st0:=toLk F.t) (so0:=lV J r0) (so1:=lV J' s1) (j:=j) Sq (fun a ha=>eC (dF c1 a ha)) (fun a ha=>eC (dF c2 a ha)) hC (Nat.le_refl _) hj (fun A gs T0 hB=>Aq _ _ (hch A gs T0 hB)),?_⟩
 have e1:dX (toLk F.t) ((den J s).nx::(cy F).df)=cy ⟨F.t,s.nx::F.ds⟩:=by
  unfold dX cy
  rw [A7]
  rfl
 rw [e1,<-q1,Dl]
 exact hQ
theorem Hl {x:QO}{F F':Fr}{n:Nat}(h:Mw x F s=some (F',s')):dU s s'/\s'.lg=s.lg/\∀ J,Cv w0 n (cy F) (den J s) (cy F') (den J s'):=by
 unfold Mw at h
 split at h
 case h_2=>cases h
 rename_i t
 split at h
 case h_2=>cases h
 rename_i f first cap hx
 split at h
 ·cases h
 ·split at h
  ·rename_i a s1 hf
   simp only [Option.some.injEq,Prod.mk.injEq] at h
   obtain⟨rfl,rfl⟩:=h
   obtain⟨N,n1,n2,n3,n4,n5,n6,n7,n8,n9⟩:=yK hf
   refine⟨n5,n6,fun J=>?_⟩
   have:=Cv.ab5 (w0:=w0) (n:=n) (α:=cy F) (t:=t) (a':=a) (S:=den J s) (S':=den J s1) (N:=N) (n1 J) (Nat.le_of_eq (by show s.nx=s1.nx;rw [n7])) (n2 J) (by show en F.t t ≠ .u;rw [hx];intro h;cases h) (by show aU N (en F.t t) a;rw [hx];exact n3.1)
   have e:cy ⟨put F.t t a,F.ds⟩=⟨bO (cy F).tm t a,(cy F).df⟩:=by
    unfold cy
    rw [tg]
   rw [e]
   exact this
  ·cases h
def DG (P:Program) (w0:World) (rd:Bool) (n:Nat) (f:QF->Fr->XS->XR):Prop :=
 (∀ c F s c' F' s',f c F s=.mr c' F' s'->dU s s'/\∀ J J',iE P w0 s s' J J'->∀ Q,cd P w0 rd n Q c' (cy F') (den J' s')->cd P w0 rd n Q c (cy F) (den J s)) /\
 (∀ c F s ex F' s',f c F s=.dn ex F' s'->dU s s'/\∀ J J',iE P w0 s s' J J'->∀ Q,Q ex (cy F') (den J' s')->cd P w0 rd n Q c (cy F) (den J s))
theorem DG.it {rd:Bool}{n:Nat}{f:QF->Fr->XS->XR}(h:DG P w0 rd n f):∀ k,DG P w0 rd n (Km f k)
 |0=>h
 |k+1=>by
  have ih:=DG.it h k
  refine⟨fun c t s c' t' s' e=>?_,fun c t s ex t' s' e=>?_⟩
  all_goals
   simp only [Km] at e
   split at e
   ·rename_i c1 t1 s1 h1
    obtain⟨p1,p2⟩:=ih.1 _ _ _ _ _ _ h1
    first
     |(obtain⟨q1,q2⟩:=ih.1 _ _ _ _ _ _ e
       refine⟨p1.trans q1,fun J J' hc Q hQ=>?_⟩
       obtain⟨J1,k1,k2⟩:=iE.split p1 q1 hc
       exact p2 _ _ k1 Q (q2 _ _ k2 Q hQ))
     |(obtain⟨q1,q2⟩:=ih.2 _ _ _ _ _ _ e
       refine⟨p1.trans q1,fun J J' hc Q hQ=>?_⟩
       obtain⟨J1,k1,k2⟩:=iE.split p1 q1 hc
       exact p2 _ _ k1 Q (q2 _ _ k2 Q hQ))
   ·first
     |exact ih.1 _ _ _ _ _ _ e
     |exact ih.2 _ _ _ _ _ _ e
theorem VL {s0 s1:XS}{J J':FJ}{k:Nat}(h:dU s0 s1) (hc:iE P w0 s0 s1 J J') (hk:k < PY s0 s1):(den J' s1).get k=(den J s0).get k:=by
 unfold PY at hk
 split at hk
 ·rename_i hb
  obtain⟨L,hL⟩:=h.lg
  have:L=[]:=by
   have h1:=Nat.eq_of_beq_eq_true hb
   rw [hL,List.length_append] at h1
   exact List.eq_nil_of_length_eq_zero (by omega)
  subst this
  obtain rfl:=hc.same hL
  exact Ry h hk
 ·omega
theorem Rz (hE:iw P w0 E) (hs:o9 P w0 rc) (rd:Bool) (n:Nat):DG P w0 rd n (kp E rc rd n):=by
 have rH:∀ {c c':QF}{t:Fr}{s:XS},(∀ (Q:Exit->AA->ae->Prop) α S,cd P w0 rd n Q c' α S->cd P w0 rd n Q c α S)->∀ {c2:QF}{t':Fr}{s':XS},XR.mr c' t s=.mr c2 t' s'->dU s s'/\∀ J J',iE P w0 s s' J J'->∀ Q,cd P w0 rd n Q c2 (cy t') (den J' s')->cd P w0 rd n Q c (cy t) (den J s):=by
  intro c c' t s hm c2 t' s' e
  injection e with e1 e2 e3
  subst e1 e2 e3
  refine⟨.refl _,fun J J' hc Q hQ=>?_⟩
  obtain rfl:=hc.same rfl
  exact hm _ _ _ hQ
 refine⟨fun c t s c' t' s' e=>?_,fun c t s ex t' s' e=>?_⟩
 ·cases c with
  |run c K =>
   cases c with
   |skip=>exact rH (fun _ _ _=>cd.skip) e
   |bD dr l =>
    cases dr with
    |true=>cases e
    |false=>exact rH (fun _ _ _=>cd.bD) e
   |dJ V l =>
    simp only [kp] at e
    split at e
    ·rename_i s1 h1
     injection e with e1 e2 e3
     subst e1 e2 e3
     obtain⟨p1,p2,p3,p4⟩:=yZ h1
     refine⟨⟨p2.lw,Nat.le_add_right _ _,p2.yk,p2.lg,p2.aD⟩,fun J J' hc Q hQ=>?_⟩
     obtain rfl:=hc.same p3
     have:den J' ⟨s1.m,s.nx+(gA l s.nx).length,s1.lw,s1.yk,s1.an,s1.lg⟩=tz (den J' s) l:=by
      have:=congrArg ae.get (p1 J')
      unfold den tz
      simp only [ae.mk.injEq,and_true]
      exact this
     rw [this] at hQ
     exact cd.dJ hQ
    ·cases e
   |seq a c=>exact rH (fun _ _ _=>cd.seq) e
   |cond x a c =>
    simp only [kp] at e
    split at e
    ·rename_i hx
     injection e with e1 e2 e3
     subst e1 e2 e3
     refine⟨.refl _,fun J J' hc Q hQ=>?_⟩
     obtain rfl:=hc.same rfl
     exact cd.cond (t:=true) hx hQ
    ·rename_i hx
     injection e with e1 e2 e3
     subst e1 e2 e3
     refine⟨.refl _,fun J J' hc Q hQ=>?_⟩
     obtain rfl:=hc.same rfl
     exact cd.cond (t:=false) hx hQ
    ·cases e
   |block id c=>exact rH (fun _ _ _=>cd.block) e
   |scope c=>exact rH (fun _ _ _=>cd.scope) e
   |loop c =>
    simp only [kp] at e
    split at e
    ·rename_i wF t1 s1 h1
     injection e with e1 e2 e3
     subst e1 e2 e3
     obtain⟨q1,q2⟩:=yY (P:=P) (w0:=w0) (rd:=rd) (n:=n) (c:=c) (fun t s ex t' s' h=>by
      obtain⟨p1,p2⟩:=hs _ _ _ _ _ _ _ _ h
      refine⟨p1,fun J J' hc c1 jq hd=>?_⟩
      obtain⟨e2,rA,S2,k1,rfl,rfl,rfl⟩:=p2 J J' hc (fun e α S=>e=ex/\α=cy t'/\S=den J' s') ⟨rfl,rfl,rfl⟩ c1 jq hd
      exact k1) h1
     refine⟨q1,fun J J' hc Q hQ=>?_⟩
     intro c0 wi hd0
     obtain⟨c1,rfl,jq⟩:=G6 wi
     exact⟨_,_,_,cu.loop (q2 J J' hc c1 jq hd0),hQ⟩
    ·cases e
   |exit id=>exact rH (fun _ _ _=>cd.exit_) e
   |ret=>exact rH (fun _ _ _=>cd.acq) e
   |sR x ps a c =>
    simp only [kp] at e
    split at e
    ·rename_i F1 s1 hp
     injection e with e1 e2 e3
     subst e1 e2 e3
     obtain⟨p1,p2,p3⟩:=Hl (w0:=w0) (n:=n) hp
     refine⟨p1,fun J J' hc Q hQ=>?_⟩
     obtain rfl:=hc.same p2
     exact cd.cv (p3 J') hQ
    ·split at e
     ·rename_i wF F1 s1 hr
      injection e with e1 e2 e3
      subst e1 e2 e3
      obtain⟨p1,p2⟩:=Hk hE hs hr
      exact⟨p1,fun J J' hc Q hQ=>p2 J J' hc Q K hQ⟩
     ·cases e
   |raw c=>cases e
  |out ex K =>
   cases K with
   |nil=>cases e
   |cons it K =>
    cases it with
    |seq c=>cases ex<;>(simp only [kp] at e;exact rH (by exact fun _ _ _ h=>h) e)
    |qY id =>
     cases ex with
     |exit j =>
      simp only [kp] at e
      split at e
      ·rename_i hj
       refine rH (fun Q α S h=>?_) e
       show (match Nat.beq j id with|true=>iu P w0 rd n Q K .normal α S|false=>iu P w0 rd n Q K (.exit j) α S)
       rw [hj]
       exact h
      ·rename_i hj
       refine rH (fun Q α S h=>?_) e
       show (match Nat.beq j id with|true=>iu P w0 rd n Q K .normal α S|false=>iu P w0 rd n Q K (.exit j) α S)
       rw [hj]
       exact h
     |_=>simp only [kp] at e;exact rH (by exact fun _ _ _ h=>h) e
    |uc =>
     cases ex with
     |goto l=>cases e
     |_=>simp only [kp] at e;exact rH (by exact fun _ _ _ h=>h) e
  |bD dr l K =>
   cases dr with
   |true=>cases l<;>cases e
   |false =>
    cases l with
    |nil=>exact rH (fun _ _ _=>cd.fin) e
    |cons i l =>
     simp only [kp] at e
     split at e
     ·rename_i hw
      split at e
      ·rename_i r1 s1 ho
       injection e with e1 e2 e3
       subst e1 e2 e3
       obtain⟨p1,p2⟩:=A5 hE hs (df:=t.ds) ho
       refine⟨p2,fun J J' hc Q hQ=>?_⟩
       refine cd.op (α:=cy t) hw (p1 J J' hc) ?_
       unfold cy
       rw [qn]
       exact hQ
      ·cases e
     ·rename_i hw
      injection e with e1 e2 e3
      subst e1 e2 e3
      refine⟨.refl _,fun J J' hc Q hQ=>?_⟩
      obtain rfl:=hc.same rfl
      refine cd.no (α:=cy t) hw ?_
      unfold cy
      rw [qn]
      exact hQ
     ·cases e
  |dJ B V lg rs l K =>
   cases l with
   |nil =>
    simp only [kp] at e
    split at e
    ·rename_i hc
     exact rH (fun _ _ _=>cd.acu hc) e
    ·cases e
   |cons i l =>
    simp only [kp] at e
    split at e
    ·rename_i hw
     split at e
     ·rename_i r1 ns PZ s1 ho
      split at e
      ·rename_i hx
       injection e with e1 e2 e3
       subst e1 e2 e3
       have ho:PX E rc (z5 i.d l) i.q (en t.t) s rs=some (r1,ns,PZ,s1):=by
        split at ho
        ·exact ho
        ·cases ho
       obtain⟨p1,p2,p3,p4⟩:=Ko hE hs (df:=t.ds) ho
       refine⟨p3,fun J J' hc Q hQ=>?_⟩
       obtain rfl:=hc.same p4
       intro fp hB
       obtain⟨d,rfl,k2,k3⟩:=p1 J' B fp
       have e5:cy ⟨th i.d t.t r1,t.ds⟩=cD i.d (cy t) r1:=by
        unfold cy
        rw [qn]
       rw [k3,e5] at hQ
       exact cd.BV (α:=cy t) hw hx k2 (fun _ PS=>hQ (fun k hk=>fp k (p2 k hk)) PS) fp hB
      ·cases e
     ·split at e
      ·cases e
      ·rename_i hx
       split at e
       ·rename_i r1 s1 ho
        injection e with e1 e2 e3
        subst e1 e2 e3
        obtain⟨p1,p2⟩:=A5 hE hs (df:=t.ds) ho
        have p3:dU s ⟨s1.m,s1.nx,Nat.min s.lw s1.lw,s1.yk,s1.an,s1.lg⟩:=⟨Nat.min_le_left _ _,p2.nx,p2.yk,p2.lg,fun k hk=>p2.aD k (Nat.lt_of_lt_of_le hk (Nat.min_le_right _ _))⟩
        refine⟨p3,fun J J' hc Q hQ=>?_⟩
        have e5:cy ⟨th i.d t.t r1,t.ds⟩=cD i.d (cy t) r1:=by
         unfold cy
         rw [qn]
        rw [e5] at hQ
        exact cd.xop (α:=cy t) (S':=den J' s1) (lw:=PY s s1) hw hx p2.nx (fun k hk=>VL (s0:=⟨s.m,s.nx,s.nx,s.yk,s.an,s.lg⟩) p2 hc hk) (p1 J J' hc) hQ
       ·cases e
    ·rename_i hw
     injection e with e1 e2 e3
     subst e1 e2 e3
     refine⟨.refl _,fun J J' hc Q hQ=>?_⟩
     obtain rfl:=hc.same rfl
     have e5:cy ⟨th i.d t.t (.v undef),t.ds⟩=cD i.d (cy t) (.v undef):=by
      unfold cy
      rw [qn]
     rw [e5] at hQ
     exact cd.dno (α:=cy t) hw hQ
    ·cases e
 ·cases c with
  |out wF K =>
   cases K with
   |nil =>
    injection e with e1 e2 e3
    subst e1 e2 e3
    refine⟨.refl _,fun J J' hc Q hQ=>?_⟩
    obtain rfl:=hc.same rfl
    exact hQ
   |cons it K =>
    cases it<;>cases wF<;>simp only [kp] at e<;>(repeat' split at e)<;>cases e
  |run c K =>
   cases c with
   |bD dr l=>cases dr<;>cases e
   |_ =>
    simp only [kp] at e
    repeat' split at e
    all_goals cases e
  |bD dr l K =>
   cases dr with
   |true=>cases l<;>cases e
   |false =>
    cases l with
    |nil=>cases e
    |cons i l =>
     simp only [kp] at e
     repeat' split at e
     all_goals cases e
  |dJ B V lg rs l K =>
   cases l with
   |nil =>
    simp only [kp] at e
    repeat' split at e
    all_goals cases e
   |cons i l =>
    simp only [kp] at e
    repeat' split at e
    all_goals cases e
theorem y6 (hE:iw P w0 E):∀ m,o9 P w0 (FH E m)
 |0=>fun rd n c t s ex t' s' h=>by cases h
 |m+1=>fun rd n c t s ex t' s' h=>((Rz hE (y6 hE m) rd n).it 14).2 c t s ex t' s' h
theorem ah.emp {g:Nat}{ex:Bool}{r:AV}(h:∀ A c,ah P w0 g [.v (.slice A 0 c)] r):ah P w0 g [.sl ex []] r:=by
 have hp:∀ A c,∀ a ∈ [AV.v (.slice A 0 c)],Pure a:=fun A c a ha=>by
  simp only [List.mem_singleton] at ha
  subst ha
  exact .v
 refine⟨(h none 0).1,ae.none_,((h none 0).As (hp _ _) ae.none_).1,fun F m A g bL w hF hS hA=>?_⟩
 have bH:bL.size=1:=hA.1
 obtain⟨v,rfl⟩:∃ v,bL=#[v]:=by
  obtain⟨l⟩:=bL
  match l,bH with
  |[x],_=>exact⟨x,rfl⟩
 have hr:=hA.2 0 _ v rfl rfl
 obtain⟨B,c,e,_,_⟩:=m7 hr
 subst e
 refine ((h B c).As (hp _ _) ae.none_).2 F m A g _ w hF hS ⟨rfl,fun i a x ha hx=>?_⟩
 match i,ha,hx with
 |0,ha,hx =>
  obtain rfl:=Option.some.inj ha
  obtain rfl:=Option.some.inj hx
  exact .v
theorem Env.aG (hE:iw P w0 E) (m:Nat) {g:Nat}{aZ9:List AV}(h:BL E (FH E m) g aZ9=some r):ah P w0 g aZ9 r:=(rG hE (y6 hE m) h).1
end
end Go.Proofs.YtbofilglphfceaaGreat
