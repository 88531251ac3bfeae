import Derived.Test.YtgjfgekaclobaaaGreatCa42
namespace Go.Proofs.YtgjfgekaclobaaaGreat
set_option linter.unusedVariables false
set_option linter.unusedSimpArgs false
open Go.RowKit
structure fR (P:Program) (w0:World) (E:Env):Prop where
 seq:∀ t a b e,E.seq t a b=some e->OB P t a b e
 key:∀ kt v es,E.Jp kt v=true->(∀ p ∈ es,E.Jp kt p.1=true)->xl P kt v es (E.keq v)
 B_:∀ g v,E.B_ g=some v->∀ h first cap,dm (first++cap)->ah P w0 h (first++cap) (.aE [])->ah P w0 g [.fn (.func h) first cap] v
 uI:∀ g c n,E.uI g=some (c,n)->af P g c n
 ext:∀ g aZ9 r,E.ext g aZ9=some r->ah P w0 g aZ9 r/\dm aZ9
 nat:∀ g aZ9 v,E.nat g aZ9=some v->∃ xs:List Value,aZ9=xs.map .v/\∀ w:World,(callFunc g xs.toArray).run P w=.ok (.value v) w
def qH (P:Program) (w0:World) (rc:Rec):Prop:=∀ rd n c F s ex F' s',rc rd n c F s=.dn ex F' s'->dZ s s'/\∀ J J',jm P w0 s s' J J'->∀ Q,Q ex (cy F') (den J' s')->b_ P w0 rd n Q c (cy F) (den J s)
section
variable {P:Program}{w0:World}{E:Env}{rc:Rec}{s s':XS}{r:AV}{J J':FJ}
theorem jm.KY (h:s'.lg=s.lg):jm P w0 s s' J J:=⟨[],h,.nil J⟩
theorem Dj {k sz fz:Nat}{rows:List (List AV)}{ex:Bool}(h:(eE s).get k=some (.arr sz rows fz ex)):(den J s).get k=some (.arr sz rows fz ex):=(dk h).1
theorem te {f:Nat->AV}:∀ {qs:List QR}{l:List AV},lO f (eE s) qs=some l->lO f (den J s) qs=some l
 |[],l,h=>h
 |.t n::qs,l,h=>by
  simp only [lO] at h ⊢
  split at h
  ·rename_i l' hl
   rw [te hl]
   exact h
  ·cases h
 |.cell k n::qs,l,h=>by
  simp only [lO] at h ⊢
  split at h
  ·rename_i a l' ha hl
   rw [te hl,BV ha]
   exact h
  ·cases h
theorem Hg:∀ {ds:List DE}{s s':XS},E2 s ds=some s'->(∀ J,wE (den J s) ds=true/\jr (den J s) ds=den J s')/\dZ s s'/\s'.lg=s.lg
 |[],s,s',h=>by obtain rfl:=oJ_ h;exact⟨fun J=>⟨rfl,rfl⟩,.refl _,rfl⟩
 |.del _ _ _::ds,s,s',h=>by cases h
 |.ob k::ds,s,s',h=>by
  simp only [E2] at h
  split at h
  ·rename_i hk
   obtain⟨h1,h2,h3⟩:=Hg h
   refine⟨fun J=>?_,dZ.wr.trans h2,h3⟩
   obtain⟨k1,k2⟩:=dk (J:=J) hk
   simp only [wE,jr,DE.k,k1]
   have:=h1 J
   rwa [jk k2] at this
  ·cases h
theorem Hh {qs:List QR}{ex:Exit}{F:Fr}(h:xc qs ex F s=some (r,s')):(∀ J,uV qs ex (cy F) (den J s)=some (r,den J s'))/\dZ s s'/\s'.lg=s.lg:=by
 unfold xc at h
 split at h
 ·rename_i s1 he hd
  obtain⟨h1,h2,h3⟩:=Hg hd
  split at h
  ·rename_i a hq
   simp only [oI_,pI_] at h
   obtain⟨rfl,rfl⟩:=h
   refine⟨fun J=>?_,h2,h3⟩
   unfold uV
   simp only [cy,he,(h1 J).1,(h1 J).2,te hq]
  ·rename_i l a_ hq
   simp only [oI_,pI_] at h
   obtain⟨rfl,rfl⟩:=h
   refine⟨fun J=>?_,h2,h3⟩
   unfold uV
   simp only [cy,he,(h1 J).1,(h1 J).2,te hq]
  ·cases h
 ·cases h
theorem yh {aZ9:List AV}:cy ⟨qS aZ9 0 .nil,[]⟩=⟨j_ aZ9,[]⟩:=by
 unfold cy
 rw [Rm]
theorem qX (hE:fR P w0 E) (hs:qH P w0 rc) {g:Nat}{aZ9:List AV}(h:Dh E rc g aZ9=some r):ah P w0 g aZ9 r/\dm aZ9:=by
 unfold Dh at h
 ·split at h
  ·cases h
  ·rename_i c n ht
   split at h
   ·rename_i hn hp
    split at h
    ·rename_i ex F s' hr
     split at h
     ·rename_i r0 s2 hl hf
      obtain⟨h1,h2⟩:=hs _ _ _ _ _ _ _ _ hr
      obtain⟨h3,h4⟩:bp (eE s2) r0 r/\Pure r:=by
       split at h
       ·rename_i hp
        obtain rfl:=oJ_ h
        exact⟨.refl _,e_ hp⟩
       ·exact qT h
      have h5:=h2 (fun _ _ _ _=>True) (fun _ _ _ _=>True) (.KY hl) (og c.2 fun r' S=>bp S r' r) ⟨r0,_,(Hh hf).1 _,h3.mono fun _ _ _ _ _ h=>Dj h⟩
      rw [yh] at h5
      exact⟨(hE.uI _ _ _ ht).bu (Nat.le_of_ble_eq_true hn) h4 h5,vu hp⟩
     ·cases h
    ·cases h
   ·cases h
theorem PD (hE:fR P w0 E) (hs:qH P w0 rc) {g:Nat}{aZ9:List AV}{sz len fz:Nat}{rows:List (List AV)}{ex:Bool}(h:fcX E rc g aZ9=some (sz,len,rows,fz,ex)) :
  dm aZ9/\(∀ r ∈ rows,∀ a ∈ r,Pure a)/\∃ k S',aK P w0 g aZ9 ad.none_ (.ob k sz 0 len none) S'/\S'.get k=some (.arr sz rows fz ex):=by
 unfold fcX at h
 split at h
 ·cases h
 ·rename_i c n ht
  split at h
  ·rename_i hn hp
   split at h
   ·rename_i zM F s' hr
    split at h
    ·rename_i k sz1 abA s2 hl hf
     split at h
     ·rename_i sz' anZ Za ex2 hk
      split at h
      ·rename_i hc
       simp only [Bool.and_eq_true] at hc
       have fW:=Nat.eq_of_beq_eq_true hc.1
       subst fW
       simp only [oI_,pI_] at h
       obtain⟨rfl,rfl,rfl,rfl,rfl⟩:=h
       obtain⟨h1,h2⟩:=hs _ _ _ _ _ _ _ _ hr
       obtain⟨J,hJ⟩:∃ J:FJ,J=fun _ _ _ _=>True:=⟨_,rfl⟩
       have h5:=h2 J J (.KY hl) (og c.2 fun r1 S1=>r1=.ob k sz' 0 abA none/\S1=den J s2) ⟨_,_,(Hh hf).1 _,rfl,rfl⟩
       rw [yh] at h5
       obtain⟨r1,S1,k1,rfl,rfl⟩:=(hE.uI _ _ _ ht).A3 (R:=fun r1 S1=>r1=.ob k sz' 0 abA none/\S1=den J s2) (S:=den J s0X) (Nat.le_of_ble_eq_true hn) h5
       exact⟨vu hp,fun r hr a ha=>e_ (kQ hc.2 r hr a ha),k,_,k1,Dj hk⟩
      ·cases h
     ·cases h
    ·cases h
   ·cases h
  ·cases h
theorem tM:∀ {l m:List AV},dm (l++m)->dm l/\dm m
 |[],m,h=>⟨trivial,h⟩
 |a::l,m,h=>⟨⟨h.1,(tM h.2).1⟩,(tM h.2).2⟩
theorem tf (hE:fR P w0 E) (hs:qH P w0 rc) {g:Nat}{aZ9:List AV}(h:Jq E rc g aZ9=some r):ah P w0 g aZ9 r/\dm aZ9:=by
 unfold Jq at h
 split at h
 ·rename_i r' he
  obtain rfl:=oJ_ h
  exact hE.ext _ _ _ he
 ·split at h
  ·rename_i v hv
   split at h
   ·rename_i hh first cap
    split at h
    ·rename_i h1
     obtain rfl:=oJ_ h
     obtain⟨k1,k2⟩:=qX hE hs h1
     obtain⟨k3,k4⟩:=tM k2
     exact⟨hE.B_ _ _ hv _ _ _ k2 k1,.fn (dm.all k3) (dm.all k4),trivial⟩
    ·cases h
   ·cases h
  ·exact qX hE hs h
theorem vI:∀ {m:Nat}{a:AV},KR m a=true->rH a
 |0,a,h=>by cases h
 |m+1,a,h=>by
  cases a with
  |v x=>exact .v
  |agg l=>exact .agg fun a ha=>vI (dV h a ha)
  |aE l=>exact .aE fun a ha=>vI (dV h a ha)
  |_=>cases h
theorem EA (hE:fR P w0 E) (hs:qH P w0 rc) {g:Nat}{aZ9:List AV}(h:Vu E rc g aZ9 s=some (r,s')):(∀ J J',jm P w0 s s' J J'->aK P w0 g aZ9 (den J s) r (den J' s'))/\dZ ⟨s.m,s.nx,s.nx,s.yk,s.an,s.lg⟩ s':=by
 unfold Vu at h
 split at h
 ·cases h
 ·rename_i c n ht
  split at h
  ·rename_i hn
   split at h
   ·rename_i ex F s1 hr
    obtain⟨h1,h2⟩:=hs _ _ _ _ _ _ _ _ hr
    obtain⟨f1,f2,f3⟩:=Hh h
    refine⟨fun J J' hc=>?_,h1.trans f2⟩
    have fW:jm P w0 ⟨s.m,s.nx,s.nx,s.yk,s.an,s.lg⟩ s1 J J':=by
     obtain⟨L,hL,hJ⟩:=hc
     exact⟨L,by rw [<-f3];exact hL,hJ⟩
    have h5:=h2 J J' fW (og c.2 fun r1 S1=>r1=r/\S1=den J' s') ⟨r,_,f1 J',rfl,rfl⟩
    rw [yh] at h5
    obtain⟨r1,S1,k1,rfl,rfl⟩:=(hE.uI _ _ _ ht).A3 (R:=fun r1 S1=>r1=r/\S1=den J' s') (S:=den J s) (Nat.le_of_ble_eq_true hn) h5
    exact k1
   ·cases h
  ·cases h
theorem YC {k:Nat}(h:dZ s s') (hk:k < s'.lw):(den J s').get k=(den J s).get k:=by
 show (match dY s'.yk k with|true=>some (Ob.fo J)|false=>eM s' k)=(match dY s.yk k with|true=>some (Ob.fo J)|false=>eM s k)
 rw [h.yk,h.aB k hk]
theorem abB {kb:Nat}:dZ s (PA s kb)/\(PA s kb).lg=s.lg/\∀ (J:FJ) {g:FuncId}{aZ9:List AV}{r:AV}{S':ad},aK P w0 g aZ9 (den J (PA s kb)) r S'->aK P w0 g aZ9 (den J s) r S':=by
 unfold PA
 split
 ·rename_i sz k sz' m cs fz ex hy hb
  split
  ·rename_i fN rows Er ex' tZ a_ hk
   split
   ·rename_i hc
    simp only [Bool.and_eq_true] at hc
    obtain rfl:=Nat.eq_of_beq_eq_true hc.1
    have hm:=Nat.eq_of_beq_eq_true hc.2
    have Qy:kb ≠ k:=fun e=>by rw [e,Nat.beq_refl] at a_;cases a_
    refine⟨dZ.wr.trans .wr,rfl,fun J {g aZ9 r S'} h=>?_⟩
    rw [jk (s:=kH s k _) hy,jk tZ] at h
    exact aK.share (dk (J:=J) hb).1 (dk (J:=J) hk).1 Qy hm h
   ·exact⟨.refl _,rfl,fun J {g aZ9 r S'} h=>h⟩
  ·exact⟨.refl _,rfl,fun J {g aZ9 r S'} h=>h⟩
 ·exact⟨.refl _,rfl,fun J {g aZ9 r S'} h=>h⟩
theorem abC {k:Nat}:dZ s (Jr E k s)/\(Jr E k s).lg=s.lg/\∀ (J:FJ) {g:FuncId}{aZ9:List AV}{r:AV}{S':ad},aK P w0 g aZ9 (den J (Jr E k s)) r S'->aK P w0 g aZ9 (den J s) r S':=by
 unfold Jr
 split
 ·exact abB
 ·exact⟨.refl _,rfl,fun J {g aZ9 r S'} h=>h⟩
theorem H9 (hE:fR P w0 E) (hs:qH P w0 rc) {fw:Bool}{gq:QO}{fe:List QO}{f:Nat->AV}{df:List DE}(h:yN E rc fw (gq.ev f) (fe.map (·.ev f)) s=some (r,s')) :
  (∀ J J',jm P w0 s s' J J'->ae P w0 false (.call gq fe) ⟨f,df⟩ (den J s) r (den J' s'))/\dZ s s':=by
 unfold yN at h
 split at h
 ·rename_i k hk
  split at h
  ·rename_i hy
   have hy:=UJ hy
   split at h
   ·rename_i oY s1 hf
    obtain⟨N,n1,n2,n3,n4,n5,n6,n7,n8,n9⟩:=vC hf
    simp only [oI_] at h
    have key:∀ (bt:Bool) (a':Nat),(.v (.bool bt),⟨s1.m,s1.nx,s1.lw,s1.yk,a',(oY,bt)::s1.lg⟩)=(r,s')->(∀ J J',jm P w0 s s' J J'->ae P w0 false (.call gq fe) ⟨f,df⟩ (den J s) r (den J' s'))/\dZ s s':=by
     intro bt a' e
     simp only [pI_] at e
     obtain⟨rfl,rfl⟩:=e
     refine⟨fun J J' hc=>?_,n5.trans ⟨Nat.le_refl _,Nat.le_refl _,rfl,⟨[(oY,bt)],rfl⟩,fun _ _=>rfl⟩⟩
     obtain⟨L,hL,hJ⟩:=hc
     have hL:(oY,bt)::s1.lg=L++s.lg:=hL
     rw [n6] at hL
     have N7:[(oY,bt)]=L:=List.append_cancel_right (bs:=s.lg) hL
     subst N7
     cases hJ with
     |cons h1 t =>
      cases t
      have hg:(den J s1).get k=some (.fo J):=by
       show (match dY s1.yk k with|true=>some (Ob.fo J)|false=>eM s1 k)=_
       rw [n8,hy]
       simp only [dY,Nat.beq_refl]
      have hd:∀ J':FJ,den J' ⟨s1.m,s1.nx,s1.lw,s1.yk,a',(oY,bt)::s1.lg⟩=(den J s1).set k (some (.fo J')):=by
       intro J'
       unfold den ad.set
       simp only [ad.mk.injEq,and_true]
       funext j
       by_cases e:j=k
       ·subst e
        rw [aq,n8,hy]
        simp only [dY,Nat.beq_refl]
       ·rw [aC _ _ e,n8,hy]
        have:dY (some k) j=false:=by
         cases hb:dY (some k) j with
         |false=>rfl
         |true=>exact absurd (oJ_ (UJ hb)).symm e
        rw [this]
        rfl
      rw [hd]
      have hR:=oo.Eg (S:=den J s) (N:=N) (n1 J) (Nat.le_of_eq (by show s.nx=s1.nx;rw [n7])) (n2 J) n3 (h1 _ _ hg)
      intro n o eK
      obtain⟨c,u,ho,hu,rfl,rfl⟩:=jP eK
      rw [ij (α:=⟨f,df⟩)] at hR
      rw [aJ (α:=⟨f,df⟩)] at hk
      exact Cu ho hu hk hR
    unfold ylX at h
    split at h
    ·exact key _ _ h
    ·exact key _ _ h
   ·cases h
  ·cases h
 ·split at h
  ·cases h
  ·rename_i g aZ9 bC
   split at h
   ·rename_i v hv
    split at h
    ·rename_i x hfv
     simp only [oI_,pI_] at h
     obtain⟨rfl,rfl⟩:=h
     obtain⟨xs,uJ,bY⟩:=hE.nat _ _ _ hv
     refine⟨fun J J' hc=>?_,.refl _⟩
     obtain rfl:=hc.same rfl
     have wR:x=.func (.func g) #[] #[]/\aZ9=fe.map (·.ev f):=by
      rw [hfv] at bC
      unfold dM at bC
      split at bC
      ·rename_i g' a b he
       split at bC
       ·rename_i e1 e2
        simp only [oI_,pI_] at bC
        obtain⟨rfl,rfl⟩:=bC
        injection he with he
        obtain⟨a⟩:=a
        obtain⟨b⟩:=b
        simp only at e1 e2
        subst e1 e2
        exact⟨he,rfl⟩
       ·cases bC
      ·rename_i he;cases he
      ·cases bC
     rw [wR.1] at hfv
     exact ae.ext (α:=⟨f,df⟩) hfv (by show fe.map (·.ev f)=_;rw [<-wR.2];exact uJ) bY
    ·cases h
   ·split at h
    ·rename_i r' hp
     simp only [oI_,pI_] at h
     obtain⟨rfl,rfl⟩:=h
     split at hp
     ·refine⟨fun J J' hc=>?_,.refl _⟩
      obtain rfl:=hc.same rfl
      obtain⟨h1,h2⟩:=hE.ext _ _ _ hp
      exact ae.aL bC h1 h2
     ·refine⟨fun J J' hc=>?_,.refl _⟩
      obtain rfl:=hc.same rfl
      unfold zcX at hp
      split at hp
      ·obtain⟨h1,h2⟩:=tf hE hs hp
       exact ae.aL bC h1 h2
      ·split at hp
       ·rename_i oY hf
        split at hp
        ·rename_i r2 iN
         split at hp
         ·rename_i hsc
          obtain rfl:=oJ_ hp
          obtain⟨h1,h2⟩:=tf hE hs iN
          have h3:=(xS hf).1
          refine ae.AZ bC h1 h2 (vI hsc) ?_
          have mono:∀ {l l':List AV},fH (eE s) l l'->fH (den J' s) l l':=by
           intro l
           induction l with
           |nil=>intro l' h;cases l' with|nil=>trivial|cons=>exact h.elim
           |cons a l ih=>intro l' h;cases l' with|nil=>exact h.elim|cons b l'=>exact⟨h.1.mono fun _ _ _ _ _ h=>Dj h,ih h.2⟩
          exact mono h3
         ·cases hp
        ·cases hp
       ·cases hp
    ·split at h
     ·rename_i q hq
      obtain rfl:=oJ_ h
      unfold fxX at hq
      split at hq
      ·split at hq
       ·rename_i oY s1 hf
        split at hq
        ·rename_i r1 he
         simp only [oI_,pI_] at hq
         obtain⟨rfl,rfl⟩:=hq
         obtain⟨N,n1,n2,n3,n4,n5,n6,n7,n8,n9⟩:=vC hf
         refine⟨fun J J' hc=>?_,n5⟩
         obtain rfl:=hc.same n6
         obtain⟨h1,h2⟩:=hE.ext _ _ _ he
         exact ae.call bC (aK.Eg (S:=den J' s) (N:=N) (n1 J') (Nat.le_of_eq (by show s.nx=s1.nx;rw [n7])) (n2 J') n3 (h1.zW n4 (den J' s1))) (fun e=>by cases e)
        ·cases hq
       ·cases hq
      ·cases hq
     ·split at h
      ·rename_i r1 s1 hw
       obtain⟨h1,h2⟩:=EA hE hs hw
       simp only [oI_,pI_] at h
       obtain⟨rfl,rfl⟩:=h
       obtain⟨q1,q2,q3⟩:=abC (P:=P) (w0:=w0) (E:=E) (s:=s) (k:=g)
       refine⟨fun J J' hc=>ae.call bC (q3 J (h1 J J' ?_)) (fun e=>by cases e),⟨Nat.le_trans (Nat.min_le_left _ _) q1.lw,Nat.le_trans q1.nx h2.nx,h2.yk.trans q1.yk,by obtain⟨L,hL⟩:=h2.lg;exact⟨L,by rw [<-q2];exact hL⟩,fun k hk=>(h2.aB k (Nat.lt_of_lt_of_le hk (Nat.min_le_right _ _))).trans (q1.aB k (Nat.lt_of_lt_of_le hk (Nat.min_le_left _ _)))⟩⟩
       obtain⟨L,hL,hJ⟩:=hc
       exact⟨L,by rw [q2];exact hL,hJ⟩
      ·cases h
theorem EB (hE:fR P w0 E) {dr:Bool}{q:dp}{f:Nat->AV}{df:List DE}{S:ad}(h:PB E q f=some r):ae P w0 dr q ⟨f,df⟩ S r S:=by
 unfold PB at h
 split at h
 ·split at h
  ·rename_i a b ha hb
   split at h
   ·rename_i e he
    obtain rfl:=oJ_ h
    exact ae.eqs ha hb (hE.seq _ _ _ _ he)
   ·cases h
  ·cases h
 ·cases h
theorem AL {kt:Nat}:∀ {l:List (Value × AV)},Hb E kt l=true->∀ p ∈ l,E.Jp kt p.1=true
 |[],_,a,h=>by cases h
 |b::l,hp,a,h=>by
  simp only [Hb] at hp
  split at hp
  ·rename_i hb
   rcases List.mem_cons.1 h with rfl|h
   ·exact hb
   ·exact AL hp a h
  ·cases hp
theorem KZ (hE:fR P w0 E) (hs:qH P w0 rc) {fw:Bool}{q:dp}{f:Nat->AV}{df:List DE}(h:Hc E rc fw q f s=some (r,s')):(∀ J J',jm P w0 s s' J J'->ae P w0 false q ⟨f,df⟩ (den J s) r (den J' s'))/\dZ s s':=by
 have other:(match PB E q f with|some r=>some (r,s)|none=>rC false q f s)=some (r,s')->(∀ J J',jm P w0 s s' J J'->ae P w0 false q ⟨f,df⟩ (den J s) r (den J' s'))/\dZ s s':=fun h=>by
  split at h
  ·rename_i r1 he
   simp only [oI_,pI_] at h
   obtain⟨rfl,rfl⟩:=h
   refine⟨fun J J' hc=>?_,.refl _⟩
   obtain rfl:=hc.same rfl
   exact EB hE he
  obtain⟨h1,h2,h3⟩:=Ph (P:=P) (w0:=w0) (df:=df) h
  refine⟨fun J J' hc=>?_,h2⟩
  obtain rfl:=hc.same h3
  exact h1 J'
 cases q with
 |call g aZ9=>exact H9 hE hs h
 |append sz by_ a b =>
  simp only [Hc] at h
  split at h
  ·rename_i r1 ha
   obtain rfl:=oJ_ h
   obtain⟨h1,h2,h3⟩:=BW (P:=P) (w0:=w0) (df:=df) (dr:=false) ha
   refine⟨fun J J' hc=>?_,h2⟩
   obtain rfl:=hc.same h3
   exact h1 J'
  ·split at h
   ·rename_i ex rows ha hm
    simp only [oI_,pI_] at h
    obtain⟨rfl,rfl⟩:=h
    refine⟨fun J J' hc=>?_,.refl _⟩
    obtain rfl:=hc.same rfl
    exact ae.E0 ha (iU hm)
   ·rename_i ex rows ha hm
    split at h
    ·rename_i hb
     simp only [oI_,pI_] at h
     obtain⟨rfl,rfl⟩:=h
     refine⟨fun J J' hc=>?_,.refl _⟩
     obtain rfl:=hc.same rfl
     exact ae.BX ha hb
    ·cases h
   ·cases h
 |fm kt z c x i =>
  simp only [Hc] at h
  split at h
  ·rename_i k v hx hi
   split at h
   ·rename_i es hk
    split at h
    ·rename_i hc
     simp only [Bool.and_eq_true] at hc
     simp only [oI_,pI_] at h
     obtain⟨rfl,rfl⟩:=h
     refine⟨fun J J' dv=>?_,.refl _⟩
     obtain rfl:=dv.same rfl
     exact ae.fm hx (dk (J:=J') hk).1 hi (hE.key _ _ _ hc.1 (AL hc.2))
    ·cases h
   ·cases h
  ·cases h
 |lS kt x i b =>
  simp only [Hc] at h
  split at h
  ·rename_i k v hx hi
   split at h
   ·rename_i es hk
    split at h
    ·rename_i hc hn
     simp only [Bool.and_eq_true] at hc
     simp only [oI_,pI_] at h
     obtain⟨rfl,rfl⟩:=h
     refine⟨fun J J' dv=>?_,.wr⟩
     obtain rfl:=dv.same rfl
     obtain⟨dN,eh⟩:=dk (J:=J') hk
     rw [jk eh]
     exact ae.lS hx dN hi (hE.key _ _ _ hc.1 (AL hc.2)) hn rfl
    ·cases h
   ·cases h
  ·cases h
 |_=>exact other h
theorem EC (hE:fR P w0 E) (hs:qH P w0 rc) {fw:Bool}{q:dp}{f:Nat->AV}{df:List DE}(h:Vv E rc fw q f s=some (r,s')):(∀ J J',jm P w0 s s' J J'->ae P w0 false q ⟨f,df⟩ (den J s) r (den J' s'))/\dZ s s':=by
 unfold Vv at h
 split at h
 ·rename_i r1 h1
  obtain rfl:=oJ_ h
  obtain⟨k1,k2,k3⟩:=KI (P:=P) (w0:=w0) (df:=df) h1
  refine⟨fun J J' hc=>?_,k2⟩
  obtain rfl:=hc.same k3
  exact k1 J'
 ·exact KZ hE hs h
theorem Ca {rd:Bool}{n:Nat}{c:QC}{body:Fr->XS->XR}
  (hb:∀ F s ex F' s',body F s=.dn ex F' s'->dZ s s'/\∀ J J',jm P w0 s s' J J'->∀ c1,ct P.toTables n c1=some c->cI P c1=true->cu P w0 rd n c1 (cy F) (den J s) ex (cy F') (den J' s')) :
  ∀ {k:Nat}{F F':Fr}{s s':XS}{ex:Exit},KS body k F s=some (ex,F',s')->dZ s s'/\∀ J J',jm P w0 s s' J J'->∀ c1,ct P.toTables n c1=some c->cI P c1=true->tu P w0 rd n c1 (cy F) (den J s) ex (cy F') (den J' s')
 |0,t,t',s,s',ex,h=>by cases h
 |k+1,t,t',s,s',ex,h=>by
  simp only [KS] at h
  split at h
  ·rename_i e1 t1 s1 h1
   obtain⟨p1,p2⟩:=hb _ _ _ _ _ h1
   split at h
   ·obtain⟨q1,q2⟩:=Ca hb h
    refine⟨p1.trans q1,fun J J' hc c1 fW hd=>?_⟩
    obtain⟨J1,k1,k2⟩:=jm.split p1 q1 hc
    exact tu.step (p2 _ _ k1 c1 fW hd) (q2 _ _ k2 c1 fW hd)
   ·rename_i a_
    simp only [oI_,pI_] at h
    obtain⟨rfl,rfl,rfl⟩:=h
    exact⟨p1,fun J J' hc c1 fW hd=>tu.done (p2 _ _ hc c1 fW hd) (fun e=>a_ e)⟩
  ·cases h
theorem Cb:∀ {ks:List Nat}{s s':XS},KT s ks=some s'->(∀ J,den J s'=⟨Ij (den J s).get ks,s.nx⟩)/\dZ s s'/\s'.lg=s.lg/\s'.nx=s.nx
 |[],s,s',h=>by obtain rfl:=oJ_ h;exact⟨fun J=>rfl,.refl _,rfl,rfl⟩
 |k::ks,s,s',h=>by
  simp only [KT] at h
  split at h
  ·rename_i s1 h1
   obtain⟨p1,p2,p3,p4⟩:=Cb h1
   split at h
   ·rename_i hy
    obtain rfl:=oJ_ h
    refine⟨fun J=>?_,p2.trans .wr,p3,p4⟩
    rw [jk hy,p1]
    rfl
   ·cases h
  ·cases h
theorem Hi {W:List (Nat × Option Ob)}{m:Bool}(h:aW s W m=some s'):(∀ J,den J s'=cY (den J s) W m)/\dZ s s'/\s'.lg=s.lg:=by
 unfold aW at h
 split at h
 ·obtain rfl:=oJ_ h
  exact⟨fun J=>cG.symm,.refl _,rfl⟩
 ·split at h
  ·rename_i hy
   obtain rfl:=oJ_ h
   exact⟨fun J=>by rw [jk hy,dI];rfl,.wr,rfl⟩
  ·cases h
 ·split at h
  ·rename_i hb
   simp only [Bool.and_eq_true,Bool.not_eq_true'] at hb
   have h1:=Nat.eq_of_beq_eq_true hb.1
   subst h1
   obtain rfl:=oJ_ h
   exact⟨fun J=>by rw [jl hb.2,dI];rfl,.nw,rfl⟩
  ·cases h
 ·split at h
  ·rename_i o j _ hb
   simp only [Bool.and_eq_true,Bool.not_eq_true'] at hb
   have h1:=Nat.eq_of_beq_eq_true hb.1.1
   subst h1
   obtain rfl:=oJ_ h
   exact⟨fun J=>by rw [jl (s:=kH s _ none) hb.1.2,jk hb.2,dI];rfl,dZ.wr.trans .nw,rfl⟩
  ·cases h
 ·cases h
theorem PE (hE:fR P w0 E) (hs:qH P w0 rc) {fr:Bool}{q:dp}{f:Nat->AV}{df:List DE}{rs nT:List Nat}{ns:List Nat × List Nat × Bool}(h:Vw E rc fr q f s rs=some (r,ns,nT,s')) :
  (∀ (J:FJ) (B:Nat),(∀ k ∈ rs,k < B)->∃ d:Dt,d.ns=ns/\bc P w0 B q ⟨f,df⟩ (den J s) r d/\den J s'=cY (den J s) d.W d.m)/\(∀ k ∈ nT,k ∈ rs)/\dZ s s'/\s'.lg=s.lg:=by
 have quiet:∀ {q:dp},(match dq q f (eE s) rs with
   |some (r,d,nT)=>(match aW s d.W d.m with|some s'=>some (r,d.ns,nT,s')|none=>none)
   |none=>none)=some (r,ns,nT,s')->(∀ (J:FJ) (B:Nat),(∀ k ∈ rs,k < B)->∃ d:Dt,d.ns=ns/\bc P w0 B q ⟨f,df⟩ (den J s) r d/\den J s'=cY (den J s) d.W d.m)/\(∀ k ∈ nT,k ∈ rs)/\dZ s s'/\s'.lg=s.lg:=fun {q} h=>by
  split at h
  ·rename_i r1 d Vy hq
   split at h
   ·rename_i s1 ha
    simp only [oI_,pI_] at h
    obtain⟨rfl,rfl,rfl,rfl⟩:=h
    obtain⟨p1,p2,p3⟩:=Hi ha
    have l4:∀ k ∈ Vy,k ∈ rs:=(zV (P:=P) (w0:=w0) (df:=df) (B:=rs.foldr (fun a b=>a+b) 0+1) (fun k hk=>by
     have:∀ l:List Nat,k ∈ l->k<=l.foldr (fun a b=>a+b) 0:=by
      intro l
      induction l with
      |nil=>intro h;cases h
      |cons a l ih =>
       intro h
       rw [List.foldr_cons]
       rcases List.mem_cons.1 h with rfl|h
       ·omega
       ·have:=ih h
        omega
     have:=this rs hk
     omega) hq).2
    refine⟨fun J B jb=>⟨d,rfl,fun n o hr=>?_,p1 J⟩,l4,p2,p3⟩
    obtain⟨k1,k2,k3⟩:=(zV (P:=P) (w0:=w0) (df:=df) jb hq).1 n o hr
    exact⟨k1,fun p hp=>(dk (k2 p hp)).1,fun T hb hT hm=>k3 T hb hT hm⟩
   ·cases h
  ·cases h
 unfold Vw at h
 split at h
 ·rename_i r1 hp
  simp only [oI_,pI_] at h
  obtain⟨rfl,rfl,rfl,rfl⟩:=h
  exact⟨fun J B jb=>⟨⟨[],[],false⟩,rfl,bc.pure fun T=>D4 hp,cG.symm⟩,fun _ h=>h,.refl _,rfl⟩
 split at h
 ·rename_i r1 hp
  simp only [oI_,pI_] at h
  obtain⟨rfl,rfl,rfl,rfl⟩:=h
  exact⟨fun J B jb=>⟨⟨[],[],false⟩,rfl,bc.pure fun T=>EB hE hp,cG.symm⟩,fun _ h=>h,.refl _,rfl⟩
 ·cases q with
  |call g aZ9 =>
   simp only at h
   split at h
   ·rename_i hh oY bC
    split at h
    ·rename_i sz len rows fz ex hfc
     simp only [oI_,pI_] at h
     obtain⟨rfl,rfl,rfl,rfl⟩:=h
     split at hfc
     ·rename_i hy
      obtain⟨k1,k2,k,S1,k3,k4⟩:=PD hE hs hfc
      refine⟨fun J B jb=>⟨⟨[],[(s.nx,some (.arr sz rows fz ex))],true⟩,rfl,bc.aee (S:=den J s) bC k1 k3 k4 k2,?_⟩,fun _ h=>h,.nw,rfl⟩
      rw [jl hy,dI]
      rfl
     ·cases hfc
    ·split at h
     ·rename_i r1 hp
      simp only [oI_,pI_] at h
      obtain⟨rfl,rfl,rfl,rfl⟩:=h
      obtain⟨k1,k2⟩:=tf hE hs hp
      exact⟨fun J B jb=>⟨⟨[],[],false⟩,rfl,bc.pure fun T=>ae.aL bC k1 k2,cG.symm⟩,fun _ h=>h,.refl _,rfl⟩
     ·cases h
   ·cases h
  |append sz by_ a b =>
   simp only at h
   split at h
   ·rename_i r1 d ha
    split at h
    ·rename_i s1 hw
     simp only [oI_,pI_] at h
     obtain⟨rfl,rfl,rfl,rfl⟩:=h
     obtain⟨p1,p2,p3⟩:=Hi hw
     exact⟨fun J B jb=>⟨d,rfl,KE ha,p1 J⟩,fun _ h=>h,p2,p3⟩
    ·cases h
   ·cases h
  |_=>exact quiet h
theorem Dk {n:Nat}{c1:Code}{l:List QI}(fW:ct P.toTables n c1=some (.aU false l)) {R:AA->ad->Prop}{E:List PanicEntry->AA->ad->Prop}{β:AA}{T:ad}(hE:∀ ch α S,¬ E ch α S) (h:eH P w0 n false l R E β T) :
  ∃ bE bT,cu P w0 true n c1 β T .normal bE bT/\R bE bT:=by
 obtain⟨id,ops,rfl,_,h3⟩:=Ey fW
 obtain⟨aw,S',h5,h6⟩:=(h _ _ h3 0 rfl).resolve_right fun ⟨ch,aw,S',_,h6⟩=>hE _ _ _ h6
 rw [Array.length_toList,<-List.range_eq_range'] at h5
 exact⟨aw,S',cu.region h5,h6⟩
theorem Cc (hs:qH P w0 rc) {n:Nat}{c1 c2:Code}{qa qb:QC}{F F':Fr}{ex:Exit}(h:KU rc n qa qb F s=.dn ex F' s') :
  dZ s s'/\(ct P.toTables n c1=some qa->ct P.toTables n c2=some qb->cI P c2=true->(∀ ch,ex ≠ .panic ch)->∀ J J',jm P w0 s s' J J'->∃ bE bT,cu P w0 true n c1 (cy F) (den J s) .normal bE bT/\Wp P w0 true n c2 (fun e α S=>e=ex/\α=cy F'/\S=den J' s') bE bT):=by
 unfold KU at h
 split at h
 ·rename_i l ha
  obtain⟨p1,p2⟩:=hs _ _ _ _ _ _ _ _ h
  refine⟨p1,fun fW dv gK Js J J' hc=>?_⟩
  have hq:=p2 J J' hc (fun e α S=>e=ex/\α=cy F'/\S=den J' s') ⟨rfl,rfl,rfl⟩
  unfold R9 at ha
  split at ha
  ·injection ha with ha;injection ha with _ h2
   subst h2
   obtain⟨bE,bT,h3,h4⟩:=(hq [] [] rfl 0 rfl).resolve_right fun ⟨ch,aw,S',_,h6⟩=>Js ch h6.1.symm
   refine⟨bE,bT,?_,h4 c2 dv gK⟩
   intro F m A g a w hF hR hS hA
   exact (pF.1 fW).wp (h3 F m A g a w (mF w0 n A g w .normal bE bT) hF hS hA fun a' w' g' h1 h2 h3=>⟨rfl,g',h1,h2,h3⟩)
  ·injection ha with ha;injection ha with _ h2
   subst h2
   obtain⟨bE,bT,h3,h4⟩:=Dk fW (fun ch α S he=>Js ch he.1.symm) hq
   exact⟨bE,bT,h3,h4 c2 dv gK⟩
  ·cases ha
  ·cases ha
 ·rename_i a l ha
  split at h
  ·rename_i F1 s1 h1
   split at h
   ·rename_i hl
    obtain⟨p1,p2⟩:=hs _ _ _ _ _ _ _ _ h1
    obtain⟨p3,p4⟩:=hs _ _ _ _ _ _ _ _ h
    have hl:s1.lg=s.lg:=by
     obtain⟨L,hL⟩:=p1.lg
     have:=Nat.eq_of_beq_eq_true hl
     rw [hL,List.length_append] at this
     rw [hL,List.length_eq_zero_iff.1 (show L.length=0 by omega)]
     rfl
    refine⟨p1.trans p3,fun fW dv gK Js J J' hc=>?_⟩
    have BP:=p2 J J (.KY hl) (fun e α S=>e=.normal/\α=cy F1/\S=den J s1) ⟨rfl,rfl,rfl⟩
    have Bb:jm P w0 s1 s' J J':=by obtain⟨X,hX,hJ⟩:=hc;exact⟨X,by rw [hl];exact hX,hJ⟩
    have pX:=p4 J J' Bb (fun e α S=>e=ex/\α=cy F'/\S=den J' s') ⟨rfl,rfl,rfl⟩
    unfold R9 at ha
    split at ha
    ·cases ha
    ·cases ha
    ·simp only [oI_,pI_] at ha
     obtain⟨rfl,rfl⟩:=ha
     obtain⟨r1,r2,rfl,k1,k2⟩:=Ez fW
     obtain⟨bE,bT,h3,h4⟩:=Dk k1 (fun ch α S he=>by cases he.1) BP
     obtain⟨_,rfl,rfl⟩:_/\bE=cy F1/\bT=den J s1:=h4
     obtain⟨yG,Cs,h5,h6⟩:=Dk k2 (fun ch α S he=>Js ch he.1.symm) pX
     exact⟨yG,Cs,cu.seq h3 h5,h6 c2 dv gK⟩
    ·cases ha
   ·cases h
  ·cases h
 ·cases h
theorem Cd (hs:qH P w0 rc) {n B N:Nat}{c1 c2:Code}{pt:Array Tmp}{qa qb:QC}{t:Tr AV}{st0:List (Nat × AV)}(fW:ct P.toTables n c1=some qa) (dv:ct P.toTables n c2=some qb) (eu:cI P c1=true) (gK:cI P c2=true)
  (A9:∀ t ∈ pt,t < n) (lr:eL t=j6 (fun _=>.u) st0) (hk:∀ p ∈ st0,dg B p.2):∀ {lg:List (List AV × Bool)}{s s':XS}{ex:Exit},s.nx=N->yg rc n B N qa qb pt.toList t lg s=some (ex,s') ->
  s'.nx=N/\s'.yk=s.yk/\(∃ L,s'.lg=L++s.lg)/\(s.lw=0->s'.lw=0)/\∀ J J',jm P w0 s s' J J'->∃ j,tR ex=some j/\∀ A gs T0,(∀ k,gs.al k->k < B) ->
   xw P w0 (LJ w0.heap.size A gs n T0 .ready none pt c1 c2 (ez st0 []).tm (au (nq J s) N)) lg (LJ w0.heap.size A gs n T0 (lG j) j pt c1 c2 (ez st0 []).tm (au (nq J' s') N))
 |[],s,s',ex,hN,h=>by
  simp only [yg,oI_,pI_] at h
  obtain⟨rfl,rfl⟩:=h
  refine⟨hN,rfl,⟨[],rfl⟩,id,fun J J' hc=>⟨none,rfl,fun A gs T0 _=>?_⟩⟩
  obtain rfl:=hc.same rfl
  exact .nil _
 |(x,b)::rest,s,s',ex,hN,h=>by
  simp only [yg] at h
  split at h
  case h_2=>cases h
  rename_i hx
  simp only [Bool.and_eq_true] at hx
  have iM:=Nat.eq_of_beq_eq_true hx.1
  have cg:∀ a ∈ x,Pure a:=fun a ha=>e_ (dV hx.2 a ha)
  split at h
  case h_2=>cases h
  rename_i zM F1 s2 hr
  split at h
  case h_2=>cases h
  rename_i s3 TQ Iv
  obtain⟨p1,p2⟩:=Cc (c1:=c1) (c2:=c2) hs hr
  obtain⟨g1,g2,g3,g4,g5,g6⟩:=Eh (F:=eL F1.t) Iv
  have A_:∀ t,dg B ((ez st0 []).tm t):=fun t=>z8 hk t
  have rn:∀ {j:Option Code},tR zM=some j->∀ J J1,jm P w0 s s2 J J1->∀ A gs T0,(∀ k,gs.al k->k < B)->∀ (T:ad) (k:Nat),T.get k=some (.fo (LJ w0.heap.size A gs n T0 .ready none pt c1 c2 (ez st0 []).tm (au (nq J s) N))) ->
    oo P w0 k x T (.v (.bool j.isNone)) (T.set k (some (.fo (LJ w0.heap.size A gs n T0 (lG j) j pt c1 c2 (ez st0 []).tm (au (nq J1 s3) N))))):=by
   intro j hj J J1 hc A gs T0 hB T k hT
   have Js:∀ ch,zM ≠ .panic ch:=fun ch e=>by rw [e] at hj;cases hj
   obtain⟨bE,bT,h2,ex2,mW,S2,h4,rfl,rfl,rfl⟩:=p2 fW dv gK Js J J1 hc
   have e1:cy ⟨yS t (pt.toList.zip x),[]⟩=⟨sE (ez st0 []).tm (pt.toList.zip x),[]⟩:=by
    unfold cy
    rw [D2,lr]
    rfl
   have e2:den J s=au (nq J s) N:=by rw [<-hN,GD]
   rw [e1,e2] at h2
   obtain⟨m,hC⟩:=g6 J1
   have e3:cy F1=⟨eL F1.t,[]⟩:=by unfold cy;rw [TQ]
   rw [<-e3] at hC
   exact oo.rnd h2 h4 hC hj (by rw [iM,Array.length_toList]) cg A9 A_ hB hT
  split at h
  ·obtain⟨q1,q2,⟨L2,q3⟩,q4,q5⟩:=Cd hs fW dv eu gK A9 lr hk g1 h
   obtain⟨L1,sF⟩:=p1.lg
   refine⟨q1,by rw [q2,g2];exact p1.yk,⟨L2++L1,by rw [q3,g4,sF,List.append_assoc]⟩,fun _=>q4 g5,fun J J' hc=>?_⟩
   obtain⟨X,hX,hJ⟩:=hc
   rw [q3,g4,sF,<-List.append_assoc] at hX
   obtain rfl:=List.append_cancel_right hX
   rw [List.reverse_append] at hJ
   obtain⟨J1,k1,k2⟩:=hJ.app
   obtain⟨j,hj,hq5⟩:=q5 J1 J' ⟨L2,q3,k2⟩
   exact⟨j,hj,fun A gs T0 hB=>.cons (rn (j:=none) rfl J J1 ⟨L1,sF,k1⟩ A gs T0 hB) (hq5 A gs T0 hB)⟩
  ·simp only [oI_,pI_] at h
   obtain⟨rfl,rfl⟩:=h
   obtain⟨L1,sF⟩:=p1.lg
   refine⟨g1,by rw [g2];exact p1.yk,⟨L1,by rw [g4,sF]⟩,fun _=>g5,fun J J' hc=>⟨_,rfl,fun A gs T0 hB=>?_⟩⟩
   obtain⟨X,hX,hJ⟩:=hc
   rw [g4] at hX
   exact .cons (rn rfl J J' ⟨X,hX,hJ⟩ A gs T0 hB) (.nil _)
  ·simp only [oI_,pI_] at h
   obtain⟨rfl,rfl⟩:=h
   obtain⟨L1,sF⟩:=p1.lg
   refine⟨g1,by rw [g2];exact p1.yk,⟨L1,by rw [g4,sF]⟩,fun _=>g5,fun J J' hc=>⟨_,rfl,fun A gs T0 hB=>?_⟩⟩
   obtain⟨X,hX,hJ⟩:=hc
   rw [g4] at hX
   exact .cons (rn rfl J J' ⟨X,hX,hJ⟩ A gs T0 hB) (.nil _)
  ·cases h
theorem Hj (hs:qH P w0 rc) {n B N:Nat}{qa:QC}{qb:QC}{ps:List Nat}{t:Tr AV}:∀ {lg:List (List AV × Bool)}{s s':XS}{ex:Exit},s.nx=N->yg rc n B N qa qb ps t lg s=some (ex,s') ->
  s'.nx=N/\s'.yk=s.yk/\(∃ L,s'.lg=L++s.lg)/\(s.lw=0->s'.lw=0)
 |[],s,s',ex,hN,h=>by
  simp only [yg,oI_,pI_] at h
  obtain⟨rfl,rfl⟩:=h
  exact⟨hN,rfl,⟨[],rfl⟩,id⟩
 |(x,b)::rest,s,s',ex,hN,h=>by
  simp only [yg] at h
  split at h
  case h_2=>cases h
  split at h
  case h_2=>cases h
  rename_i zM F1 s2 hr
  split at h
  case h_2=>cases h
  rename_i s3 TQ Iv
  have p1:=(Cc (P:=P) (w0:=w0) (c1:=.skip) (c2:=.skip) hs hr).1
  obtain⟨g1,g2,g3,g4,g5,g6⟩:=Eh (F:=eL F1.t) Iv
  obtain⟨L1,sF⟩:=p1.lg
  have fin:s3.nx=N/\s3.yk=s.yk/\(∃ L,s3.lg=L++s.lg)/\(s.lw=0->s3.lw=0):=⟨g1,by rw [g2];exact p1.yk,⟨L1,by rw [g4,sF]⟩,fun _=>g5⟩
  split at h
  ·obtain⟨q1,q2,⟨L2,q3⟩,q4⟩:=Hj hs g1 h
   exact⟨q1,by rw [q2,g2];exact p1.yk,⟨L2++L1,by rw [q3,g4,sF,List.append_assoc]⟩,fun _=>q4 g5⟩
  ·simp only [oI_,pI_] at h
   obtain⟨rfl,rfl⟩:=h
   exact fin
  ·simp only [oI_,pI_] at h
   obtain⟨rfl,rfl⟩:=h
   exact fin
  ·cases h
theorem yj {s s':XS}(h:s.yk=s'.yk):∀ {l:List (Nat × Option Ob)},xT s l=xT s' l
 |[]=>rfl
 |p::l=>by
  simp only [xT,h]
  split
  ·rw [yj h]
  ·exact yj h
theorem PF {s s':XS}(hm:s.m=s'.m) (h:s.yk=s'.yk):nq J s=nq J s':=by
 unfold nq
 rw [hm,h,yj h]
theorem ED {B N:Nat}{m:List (Nat × Nat)}{f:Nat->AV}:∀ {l:List (Nat × AV)},(∀ p ∈ l,f p.1=p.2/\dg B p.2)->A4 B m N f l
 |[],_=>trivial
 |p::l,h=>⟨.aB (h p (by simp)).1 (h p (by simp)).2,ED fun q hq=>h q (by simp [hq])⟩
theorem Hk {B N:Nat}{m:List (Nat × Nat)}{S:ad}:∀ {l:List (Nat × Ob)},(∀ p ∈ l,∃ bW,S.get (du B (aN m) p.1)=some bW/\wH B m N bW p.2)->gj B m N S l
 |[],_=>trivial
 |p::l,h=>⟨.inl (h p (by simp)),Hk fun q hq=>h q (by simp [hq])⟩
theorem Ce (hE:fR P w0 E) (hs:qH P w0 rc) {g:Nat}{aZ9:List AV}{an:Nat}{lg:List (List AV × Bool)}(h:KV E rc g aZ9 an=some lg):∀ J J',xw P w0 J lg J'->∃ r S1,aK P w0 g aZ9 (au [(0,.fo J)] 1) r S1/\S1.get 0=some (.fo J'):=by
 unfold KV at h
 split at h
 ·rename_i r s' hw
  obtain rfl:=oJ_ h
  obtain⟨h1,h2⟩:=EA hE hs hw
  intro J J' hJ
  obtain⟨L,hL⟩:=h2.lg
  have hc:=h1 J J' ⟨s'.lg,by simp,hJ⟩
  have e:den J ⟨.nil,1,1,some 0,an,[]⟩=au [(0,.fo J)] 1:=by
   unfold den au
   simp only [ad.mk.injEq,and_true]
   funext k
   simp only [dY,dF]
   cases Nat.beq 0 k<;>rfl
  rw [e] at hc
  refine⟨r,_,hc,?_⟩
  show (match dY s'.yk 0 with|true=>some (Ob.fo J')|false=>eM s' 0)=_
  have:s'.yk=some 0:=h2.yk
  rw [this]
  rfl
 ·cases h
theorem K0 (hE:fR P w0 E) (hs:qH P w0 rc) {g:Nat}{aZ9:List AV}{R:List (List AV × Bool)->Option (Exit × XS)}{C:List (List AV × Bool)->Option Nat}{q:Exit × XS}(h:R_ rc E g aZ9 R C=some q) :
  ∃ lg,R lg=some q/\∀ J J',xw P w0 J lg J'->∃ r S1,aK P w0 g aZ9 (au [(0,.fo J)] 1) r S1/\S1.get 0=some (.fo J'):=by
 unfold R_ at h
 split at h
 ·rename_i lg h1
  split at h
  ·rename_i q' h2
   obtain rfl:=oJ_ h
   exact⟨lg,h2,Ce hE hs h1⟩
  ·split at h
   ·split at h
    ·rename_i lg2 h3
     exact⟨lg2,h,Ce hE hs h3⟩
    ·cases h
   ·cases h
 ·cases h
theorem AM {B:Nat}:∀ {l:List (Nat × AV)},KW B l=true->∀ p ∈ l,dg B p.2
 |[],_,a,h=>by cases h
 |b::l,hp,a,h=>by
  simp only [KW] at hp
  split at hp
  ·rename_i hb
   rcases List.mem_cons.1 h with rfl|h
   ·exact jT hb
   ·exact AM hp a h
  ·cases hp
theorem Hl {B:Nat}:∀ {l:List (Nat × Option Ob)},KX B s l=true->∀ p ∈ l,p.1 < B/\∀ o,p.2=some o->fV B o
 |[],_,a,h=>by cases h
 |b::l,hp,a,h=>by
  simp only [KX] at hp
  split at hp
  ·rename_i hb
   simp only [Bool.and_eq_true] at hb
   rcases List.mem_cons.1 h with rfl|h
   ·refine⟨dC hb.1,fun o ho=>?_⟩
    have h2:=hb.2
    rw [ho] at h2
    exact Gw h2
   ·exact Hl hp a h
  ·cases hp
theorem EE {t:Tr AV}:eL t=j6 (fun _=>.u) (toLk t):=by
 have key:∀ (l:List (Nat × AV)) (g:Nat->Option AV),(∀ k a,(k,a) ∈ l ↔ g k=some a)->∀ k,j6 (fun _=>.u) l k=match g k with|some a=>a|none=>.u:=by
  intro l g h k
  have h1:∀ (l:List (Nat × AV)),(∃ a,(k,a) ∈ l/\j6 (fun _=>.u) l k=a)\/((∀ a,(k,a) ∉ l)/\j6 (fun _=>.u) l k=.u):=by
   intro l
   induction l with
   |nil=>exact .inr ⟨fun a h=>(by cases h),rfl⟩
   |cons p l ih =>
    obtain⟨j,b⟩:=p
    by_cases e:k=j
    ·subst e
     exact .inl ⟨b,by simp,aq _ _ _⟩
    ·have e2:j6 (fun _=>.u) ((j,b)::l) k=j6 (fun _=>.u) l k:=aC _ _ e
     rw [e2]
     rcases ih with ⟨a,h1,h2⟩|⟨h1,h2⟩
     ·exact .inl ⟨a,List.mem_cons_of_mem _ h1,h2⟩
     ·refine .inr ⟨fun a h=>?_,h2⟩
      rcases List.mem_cons.1 h with h|h
      ·injection h with h3 h4;exact e h3
      ·exact h1 a h
  rcases h1 l with ⟨a,h2,h3⟩|⟨h2,h3⟩
  ·rw [h3,(h k a).1 h2]
  ·rw [h3]
   cases e:g k with
   |none=>rfl
   |some a=>exact absurd ((h k a).2 e) (h2 a)
 funext k
 rw [key (toLk t) (ft t) (fun k a=>toLk_mem) k]
 rfl
theorem K1 (hE:fR P w0 E) (hs:qH P w0 rc) {n:Nat}{x:QO}{ps:List Nat}{qa qb:QC}{F F':Fr}{ex:Exit}(h:Sa E rc n (x.ev (eL F.t)) ps qa qb F s=some (ex,F',s')) :
  dZ s s'/\∀ J J',jm P w0 s s' J J'->∀ Q K,b_ P w0 false n Q (.out ex K) (cy F') (den J' s')->b_ P w0 false n Q (.run (.uP x ps qa qb) K) (cy F) (den J s):=by
 unfold Sa at h
 split at h
 case h_2=>cases h
 rename_i gid first cap hx
 split at h
 case h_2=>cases h
 rename_i zk
 simp only [Bool.and_eq_true,Bool.not_eq_true'] at zk
 obtain⟨⟨⟨⟨⟨⟨⟨⟨c1,c2⟩,c3⟩,c4⟩,c5⟩,c6⟩,c7⟩,c8⟩,c9⟩:=zk
 split at h
 case h_2=>cases h
 rename_i zM s1 iR
 simp only [oI_,pI_] at h
 obtain⟨rfl,rfl,rfl⟩:=h
 obtain⟨lg,hR,DI⟩:=K0 hE hs iR
 obtain⟨r0,lB⟩:∃ r0:XS,r0=⟨(ly s .df).m,s.nx+41,0,s.yk,s.an,s.lg⟩:=⟨_,rfl⟩
 rw [<-lB] at hR
 have r1:r0.nx=s.nx+41:=by rw [lB]
 have r2:r0.lg=s.lg:=by rw [lB]
 have r3:r0.yk=s.yk:=by rw [lB]
 have r4:∀ J,nq J r0=nq J (ly s .df):=fun J=>PF (by rw [lB]) (by rw [lB];rfl)
 obtain⟨q1,q2,⟨L,q3⟩,q4⟩:=Hj hs r1 hR
 have q4:=q4 (by rw [lB])
 refine⟨⟨by omega,by omega,q2.trans r3,⟨L,by rw [q3,r2]⟩,fun k hk=>by omega⟩,fun J J' hc Q K hQ=>?_⟩
 intro c uv hd
 obtain⟨y,pt,a1,a2,rfl,rfl,rfl,fW,dv⟩:=KQ uv
 simp only [cI,Bool.and_eq_true] at hd
 obtain⟨_,_,_,_,q5⟩:=Cd (P:=P) (w0:=w0) (pt:=pt) (st0:=toLk F.t) hs fW dv hd.1 hd.2 (fun t ht=>by
  have:=List.all_eq_true.1 c3 t (by simpa using ht)
  exact dC this) EE (AM c6) r1 hR
 obtain⟨j,hj,hch⟩:=q5 J J' (by obtain⟨X,hX,hJ⟩:=hc;exact⟨X,by rw [r2];exact hX,hJ⟩)
 have ZV:(cy F).ev y=.fn (.func gid) first cap:=by rw [<-aJ];exact hx
 have hC:Canon (s.nx+1) (s.nx+41) [] ⟨(cy F).tm,(den J s).nx::(cy F).df⟩ ((den J s).new .df) (toLk F.t) ((den J s).nx::(cy F).df) (nq J r0):=by
  refine⟨ED fun p hp=>⟨?_,AM c6 p hp⟩,rfl,Hk fun p hp=>?_,?_,Nat.ble_eq_true_of_le (by omega),?_⟩
  ·have:=toLk_mem.1 (show (p.1,p.2) ∈ toLk F.t from hp)
   show eL F.t p.1=p.2
   unfold eL
   rw [this]
  ·obtain⟨k,o⟩:=p
   rw [r4] at hp
   have hg:=Jb.1 hp
   rw [jl c4] at hg
   have D_:k < s.nx+1/\fV (s.nx+1) o:=by
    unfold nq at hp
    rcases List.mem_append.1 hp with hp|hp
    ·have hy:(ly s .df).yk=s.yk:=rfl
     rw [hy] at hp
     cases hyy:s.yk with
     |none=>rw [hyy] at hp;cases hp
     |some y2 =>
      rw [hyy] at hp c9
      simp only [Pe,List.mem_singleton,pI_] at hp
      obtain⟨rfl,rfl⟩:=hp
      exact⟨dC c9,trivial⟩
    ·obtain⟨h1,h2⟩:=uy.1 hp
     obtain⟨h3,h4⟩:=Hl c7 _ h2
     exact⟨h3,h4 o rfl⟩
   exact⟨o,by simp only;rw [kc D_.1];exact hg,.same D_.2⟩
  ·rw [r4,GC]
   exact c8
  ·show (Nat.blt s.nx (s.nx+1) && F.ds.all fun d=>Nat.blt d.k (s.nx+1))=true
   rw [c5,show Nat.blt s.nx (s.nx+1)=true from Nat.ble_eq_true_of_le (Nat.le_refl _)]
   rfl
 refine⟨zM,_,_,cu.range (n:=n) (st0:=toLk F.t) (so0:=nq J r0) (so1:=nq J' s1) (j:=j) ZV (fun a ha=>e_ (dV c1 a ha)) (fun a ha=>e_ (dV c2 a ha)) hC (Nat.le_refl _) hj (fun A gs T0 hB=>DI _ _ (hch A gs T0 hB)),?_⟩
 have e1:ez (toLk F.t) ((den J s).nx::(cy F).df)=cy ⟨F.t,s.nx::F.ds⟩:=by
  unfold ez cy
  rw [EE]
  rfl
 rw [e1,<-q1,GD]
 exact hQ
theorem K2 {x:QO}{F F':Fr}{n:Nat}(h:Sb x F s=some (F',s')):dZ s s'/\s'.lg=s.lg/\∀ J,Cv w0 n (cy F) (den J s) (cy F') (den J s'):=by
 unfold Sb at h
 split at h
 case h_2=>cases h
 rename_i t
 split at h
 case h_2=>cases h
 rename_i f first cap hx
 split at h
 ·cases h
 ·split at h
  ·rename_i a s1 hf
   simp only [oI_,pI_] at h
   obtain⟨rfl,rfl⟩:=h
   obtain⟨N,n1,n2,n3,n4,n5,n6,n7,n8,n9⟩:=vC hf
   refine⟨n5,n6,fun J=>?_⟩
   have:=Cv.aaW (w0:=w0) (n:=n) (α:=cy F) (t:=t) (a':=a) (S:=den J s) (S':=den J s1) (N:=N) (n1 J) (Nat.le_of_eq (by show s.nx=s1.nx;rw [n7])) (n2 J) (by show eL F.t t ≠ .u;rw [hx];intro h;cases h) (by show bp N (eL F.t t) a;rw [hx];exact n3.1)
   have e:cy ⟨put F.t t a,F.ds⟩=⟨a8 (cy F).tm t a,(cy F).df⟩:=by
    unfold cy
    rw [vq]
   rw [e]
   exact this
  ·cases h
def Hm (P:Program) (w0:World) (rd:Bool) (n:Nat) (f:QF->Fr->XS->XR):Prop :=
 (∀ c F s c' F' s',f c F s=.mr c' F' s'->dZ s s'/\∀ J J',jm P w0 s s' J J'->∀ Q,b_ P w0 rd n Q c' (cy F') (den J' s')->b_ P w0 rd n Q c (cy F) (den J s)) /\
 (∀ c F s ex F' s',f c F s=.dn ex F' s'->dZ s s'/\∀ J J',jm P w0 s s' J J'->∀ Q,Q ex (cy F') (den J' s')->b_ P w0 rd n Q c (cy F) (den J s))
theorem Hm.it {rd:Bool}{n:Nat}{f:QF->Fr->XS->XR}(h:Hm P w0 rd n f):∀ k,Hm P w0 rd n (PC f k)
 |0=>h
 |k+1=>by
  have ih:=Hm.it h k
  refine⟨fun c t s c' t' s' e=>?_,fun c t s ex t' s' e=>?_⟩
  all_goals
   simp only [PC] at e
   split at e
   ·rename_i c1 t1 s1 h1
    obtain⟨p1,p2⟩:=ih.1 _ _ _ _ _ _ h1
    first
     |(obtain⟨q1,q2⟩:=ih.1 _ _ _ _ _ _ e
       refine⟨p1.trans q1,fun J J' hc Q hQ=>?_⟩
       obtain⟨J1,k1,k2⟩:=jm.split p1 q1 hc
       exact p2 _ _ k1 Q (q2 _ _ k2 Q hQ))
     |(obtain⟨q1,q2⟩:=ih.2 _ _ _ _ _ _ e
       refine⟨p1.trans q1,fun J J' hc Q hQ=>?_⟩
       obtain⟨J1,k1,k2⟩:=jm.split p1 q1 hc
       exact p2 _ _ k1 Q (q2 _ _ k2 Q hQ))
   ·first
     |exact ih.1 _ _ _ _ _ _ e
     |exact ih.2 _ _ _ _ _ _ e
theorem abF {s0 s1:XS}{J J':FJ}{k:Nat}(h:dZ s0 s1) (hc:jm P w0 s0 s1 J J') (hk:k < He s0 s1):(den J' s1).get k=(den J s0).get k:=by
 unfold He at hk
 split at hk
 ·rename_i hb
  obtain⟨L,hL⟩:=h.lg
  have:L=[]:=by
   have h1:=Nat.eq_of_beq_eq_true hb
   rw [hL,List.length_append] at h1
   exact List.eq_nil_of_length_eq_zero (by omega)
  subst this
  obtain rfl:=hc.same hL
  exact YC h hk
 ·omega
theorem abG {s0 s s1:XS}{J J':FJ}{k:Nat}(h:dZ s0 s1) (hc:jm P w0 s0 s1 J J') (em:s.m=s0.m) (ey:s.yk=s0.yk) (el:s.lg=s0.lg) (hw:He s s1=He s0 s1) (hk:Jl (He s s1,Vx s s1) k=true):(den J' s1).get k=(den J s0).get k:=by
 unfold Jl at hk
 split at hk
 ·rename_i hb
  exact abF h hc (by rw [<-hw];exact dC hb)
 ·have akt:∀ {l:List Nat},KM l k=true->k ∈ l:=by
   intro l
   induction l with
   |nil=>intro h;cases h
   |cons a l ih =>
    intro h
    unfold KM at h
    split at h
    ·rename_i e;rw [Nat.eq_of_beq_eq_true e];simp
    ·exact List.mem_cons_of_mem _ (ih h)
  have hk:=akt hk
  simp only at hk
  unfold Vx at hk
  split at hk
  ·rename_i hb
   obtain⟨L,hL⟩:=h.lg
   have:L=[]:=by
    have h1:=Nat.eq_of_beq_eq_true hb
    rw [hL,List.length_append,el] at h1
    exact List.eq_nil_of_length_eq_zero (by omega)
   subst this
   obtain rfl:=hc.same hL
   have h2:=(List.mem_filter.1 hk).2
   split at h2
   ·cases h2
   ·rename_i hy
    have h3:=Yz h2
    have h4:eM s k=eM s0 k:=by unfold eM;rw [em]
    show (match dY s1.yk k with|true=>some (Ob.fo J')|false=>eM s1 k)=(match dY s0.yk k with|true=>some (Ob.fo J')|false=>eM s0 k)
    rw [h.yk,<-ey,hy,<-h4,h3]
  ·cases hk
theorem YD (hE:fR P w0 E) (hs:qH P w0 rc) (rd:Bool) (n:Nat):Hm P w0 rd n (lL E rc rd n):=by
 have tg:∀ {c c':QF}{t:Fr}{s:XS},(∀ (Q:Exit->AA->ad->Prop) α S,b_ P w0 rd n Q c' α S->b_ P w0 rd n Q c α S)->∀ {c2:QF}{t':Fr}{s':XS},XR.mr c' t s=.mr c2 t' s'->dZ s s'/\∀ J J',jm P w0 s s' J J'->∀ Q,b_ P w0 rd n Q c2 (cy t') (den J' s')->b_ P w0 rd n Q c (cy t) (den J s):=by
  intro c c' t s hm c2 t' s' e
  injection e with e1 e2 e3
  subst e1 e2 e3
  refine⟨.refl _,fun J J' hc Q hQ=>?_⟩
  obtain rfl:=hc.same rfl
  exact hm _ _ _ hQ
 refine⟨fun c t s c' t' s' e=>?_,fun c t s ex t' s' e=>?_⟩
 ·cases c with
  |run c K =>
   cases c with
   |skip=>exact tg (fun _ _ _=>b_.skip) e
   |aU dr l =>
    cases dr with
    |true=>cases e
    |false=>exact tg (fun _ _ _=>b_.aU) e
   |dB V l =>
    simp only [lL] at e
    split at e
    ·rename_i s1 h1
     injection e with e1 e2 e3
     subst e1 e2 e3
     obtain⟨p1,p2,p3,p4⟩:=Cb h1
     refine⟨⟨p2.lw,Nat.le_add_right _ _,p2.yk,p2.lg,p2.aB⟩,fun J J' hc Q hQ=>?_⟩
     obtain rfl:=hc.same p3
     have:den J' ⟨s1.m,s.nx+(iA l s.nx).length,s1.lw,s1.yk,s1.an,s1.lg⟩=uT (den J' s) l:=by
      have:=congrArg ad.get (p1 J')
      unfold den uT
      simp only [ad.mk.injEq,and_true]
      exact this
     rw [this] at hQ
     exact b_.dB hQ
    ·cases e
   |seq a c=>exact tg (fun _ _ _=>b_.seq) e
   |cond x a c =>
    simp only [lL] at e
    split at e
    ·rename_i hx
     injection e with e1 e2 e3
     subst e1 e2 e3
     refine⟨.refl _,fun J J' hc Q hQ=>?_⟩
     obtain rfl:=hc.same rfl
     exact b_.cond (t:=true) hx hQ
    ·rename_i hx
     injection e with e1 e2 e3
     subst e1 e2 e3
     refine⟨.refl _,fun J J' hc Q hQ=>?_⟩
     obtain rfl:=hc.same rfl
     exact b_.cond (t:=false) hx hQ
    ·cases e
   |block id c=>exact tg (fun _ _ _=>b_.block) e
   |scope c=>exact tg (fun _ _ _=>b_.scope) e
   |loop c =>
    simp only [lL] at e
    split at e
    ·rename_i zM t1 s1 h1
     injection e with e1 e2 e3
     subst e1 e2 e3
     obtain⟨q1,q2⟩:=Ca (P:=P) (w0:=w0) (rd:=rd) (n:=n) (c:=c) (fun t s ex t' s' h=>by
      obtain⟨p1,p2⟩:=hs _ _ _ _ _ _ _ _ h
      refine⟨p1,fun J J' hc c1 fW hd=>?_⟩
      obtain⟨e2,mW,S2,k1,rfl,rfl,rfl⟩:=p2 J J' hc (fun e α S=>e=ex/\α=cy t'/\S=den J' s') ⟨rfl,rfl,rfl⟩ c1 fW hd
      exact k1) h1
     refine⟨q1,fun J J' hc Q hQ=>?_⟩
     intro c0 uv hd0
     obtain⟨c1,rfl,fW⟩:=KP uv
     exact⟨_,_,_,cu.loop (q2 J J' hc c1 fW hd0),hQ⟩
    ·cases e
   |exit id=>exact tg (fun _ _ _=>b_.exit_) e
   |ret=>exact tg (fun _ _ _=>b_.akq) e
   |uP x ps a c =>
    simp only [lL] at e
    split at e
    ·rename_i F1 s1 hp
     injection e with e1 e2 e3
     subst e1 e2 e3
     obtain⟨p1,p2,p3⟩:=K2 (w0:=w0) (n:=n) hp
     refine⟨p1,fun J J' hc Q hQ=>?_⟩
     obtain rfl:=hc.same p2
     exact b_.cv (p3 J') hQ
    ·split at e
     ·rename_i zM F1 s1 hr
      injection e with e1 e2 e3
      subst e1 e2 e3
      obtain⟨p1,p2⟩:=K1 hE hs hr
      exact⟨p1,fun J J' hc Q hQ=>p2 J J' hc Q K hQ⟩
     ·cases e
   |raw c=>cases e
  |out ex K =>
   cases K with
   |nil=>cases e
   |cons it K =>
    cases it with
    |seq c=>cases ex<;>(simp only [lL] at e;exact tg (by exact fun _ _ _ h=>h) e)
    |oS id =>
     cases ex with
     |exit j =>
      simp only [lL] at e
      split at e
      ·rename_i hj
       refine tg (fun Q α S h=>?_) e
       show (match Nat.beq j id with|true=>jo P w0 rd n Q K .normal α S|false=>jo P w0 rd n Q K (.exit j) α S)
       rw [hj]
       exact h
      ·rename_i hj
       refine tg (fun Q α S h=>?_) e
       show (match Nat.beq j id with|true=>jo P w0 rd n Q K .normal α S|false=>jo P w0 rd n Q K (.exit j) α S)
       rw [hj]
       exact h
     |_=>simp only [lL] at e;exact tg (by exact fun _ _ _ h=>h) e
    |wj =>
     cases ex with
     |goto l=>cases e
     |_=>simp only [lL] at e;exact tg (by exact fun _ _ _ h=>h) e
  |aU dr l K =>
   cases dr with
   |true=>cases l<;>cases e
   |false =>
    cases l with
    |nil=>exact tg (fun _ _ _=>b_.fin) e
    |cons i l =>
     simp only [lL] at e
     split at e
     ·rename_i hw
      split at e
      ·rename_i r1 s1 ho
       injection e with e1 e2 e3
       subst e1 e2 e3
       obtain⟨p1,p2⟩:=EC hE hs (df:=t.ds) ho
       refine⟨p2,fun J J' hc Q hQ=>?_⟩
       refine b_.op (α:=cy t) hw (p1 J J' hc) ?_
       unfold cy
       rw [rY]
       exact hQ
      ·cases e
     ·rename_i hw
      injection e with e1 e2 e3
      subst e1 e2 e3
      refine⟨.refl _,fun J J' hc Q hQ=>?_⟩
      obtain rfl:=hc.same rfl
      refine b_.no (α:=cy t) hw ?_
      unfold cy
      rw [rY]
      exact hQ
     ·cases e
  |dB B V lg rs l K =>
   cases l with
   |nil =>
    simp only [lL] at e
    split at e
    ·rename_i hc
     exact tg (fun _ _ _=>b_.aks hc) e
    ·cases e
   |cons i l =>
    simp only [lL] at e
    split at e
    ·rename_i hw
     split at e
     ·rename_i r1 ns Vy s1 ho
      split at e
      ·rename_i hx
       injection e with e1 e2 e3
       subst e1 e2 e3
       have ho:Vw E rc (Di i.d l) i.q (eL t.t) s rs=some (r1,ns,Vy,s1):=by
        split at ho
        ·exact ho
        ·cases ho
       obtain⟨p1,p2,p3,p4⟩:=PE hE hs (df:=t.ds) ho
       refine⟨p3,fun J J' hc Q hQ=>?_⟩
       obtain rfl:=hc.same p4
       intro jb hB
       obtain⟨d,rfl,k2,k3⟩:=p1 J' B jb
       have e5:cy ⟨vt i.d t.t r1,t.ds⟩=bS i.d (cy t) r1:=by
        unfold cy
        rw [rY]
       rw [k3,e5] at hQ
       exact b_.lP (α:=cy t) hw hx k2 (fun _ Vr=>hQ (fun k hk=>jb k (p2 k hk)) Vr) jb hB
      ·cases e
     ·split at e
      ·cases e
      ·rename_i hx
       split at e
       ·rename_i r1 s1 ho
        injection e with e1 e2 e3
        subst e1 e2 e3
        obtain⟨p1,p2⟩:=EC hE hs (df:=t.ds) ho
        have p3:dZ s ⟨s1.m,s1.nx,Nat.min s.lw s1.lw,s1.yk,s1.an,s1.lg⟩:=⟨Nat.min_le_left _ _,p2.nx,p2.yk,p2.lg,fun k hk=>p2.aB k (Nat.lt_of_lt_of_le hk (Nat.min_le_right _ _))⟩
        refine⟨p3,fun J J' hc Q hQ=>?_⟩
        have e5:cy ⟨vt i.d t.t r1,t.ds⟩=bS i.d (cy t) r1:=by
         unfold cy
         rw [rY]
        rw [e5] at hQ
        exact b_.xop (α:=cy t) (S':=den J' s1) (lw:=(He s s1,Vx s s1)) hw hx p2.nx (fun k hk=>abG (s0:=⟨s.m,s.nx,s.nx,s.yk,s.an,s.lg⟩) (s:=s) p2 hc rfl rfl rfl rfl hk) (p1 J J' hc) hQ
       ·cases e
    ·rename_i hw
     injection e with e1 e2 e3
     subst e1 e2 e3
     refine⟨.refl _,fun J J' hc Q hQ=>?_⟩
     obtain rfl:=hc.same rfl
     have e5:cy ⟨vt i.d t.t (.v undef),t.ds⟩=bS i.d (cy t) (.v undef):=by
      unfold cy
      rw [rY]
     rw [e5] at hQ
     exact b_.dno (α:=cy t) hw hQ
    ·cases e
 ·cases c with
  |out zM K =>
   cases K with
   |nil =>
    injection e with e1 e2 e3
    subst e1 e2 e3
    refine⟨.refl _,fun J J' hc Q hQ=>?_⟩
    obtain rfl:=hc.same rfl
    exact hQ
   |cons it K =>
    cases it<;>cases zM<;>simp only [lL] at e<;>(repeat' split at e)<;>cases e
  |run c K =>
   cases c with
   |aU dr l=>cases dr<;>cases e
   |_ =>
    simp only [lL] at e
    repeat' split at e
    all_goals cases e
  |aU dr l K =>
   cases dr with
   |true=>cases l<;>cases e
   |false =>
    cases l with
    |nil=>cases e
    |cons i l =>
     simp only [lL] at e
     repeat' split at e
     all_goals cases e
  |dB B V lg rs l K =>
   cases l with
   |nil =>
    simp only [lL] at e
    repeat' split at e
    all_goals cases e
   |cons i l =>
    simp only [lL] at e
    repeat' split at e
    all_goals cases e
theorem qY (hE:fR P w0 E):∀ m,qH P w0 (Hf E m)
 |0=>fun rd n c t s ex t' s' h=>by cases h
 |m+1=>fun rd n c t s ex t' s' h=>((YD hE (qY hE m) rd n).it 14).2 c t s ex t' s' h
theorem ah.emp {g:Nat}{ex:Bool}{r:AV}(h:∀ A c,ah P w0 g [.v (.slice A 0 c)] r):ah P w0 g [.sl ex []] r:=by
 have hp:∀ A c,∀ a ∈ [AV.v (.slice A 0 c)],Pure a:=fun A c a ha=>by
  simp only [List.mem_singleton] at ha
  subst ha
  exact .v
 refine⟨(h none 0).1,ad.none_,((h none 0).A3 (hp _ _) ad.none_).1,fun F m A g aQ w hF hS hA=>?_⟩
 have bh:aQ.size=1:=hA.1
 obtain⟨v,rfl⟩:∃ v,aQ=#[v]:=by
  obtain⟨l⟩:=aQ
  match l,bh with
  |[x],_=>exact⟨x,rfl⟩
 have hr:=hA.2 0 _ v rfl rfl
 obtain⟨B,c,e,_,_⟩:=oM hr
 subst e
 refine ((h B c).A3 (hp _ _) ad.none_).2 F m A g _ w hF hS ⟨rfl,fun i a x ha hx=>?_⟩
 match i,ha,hx with
 |0,ha,hx =>
  obtain rfl:=oJ_ ha
  obtain rfl:=oJ_ hx
  exact .v
theorem Env.bu (hE:fR P w0 E) (m:Nat) {g:Nat}{aZ9:List AV}(h:Jq E (Hf E m) g aZ9=some r):ah P w0 g aZ9 r:=(tf hE (qY hE m) h).1
end
end Go.Proofs.YtgjfgekaclobaaaGreat
