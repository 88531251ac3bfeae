import Derived.Test.YtbpabjmnhggajaaGreatOs43
namespace Go.Proofs.YtbpabjmnhggajaaGreat
set_option linter.unusedVariables false
set_option linter.unusedSimpArgs false
open Go.RowKit
structure jj (P:Program) (w0:World) (E:Env):Prop where
 seq:∀ t a b e,E.seq t a b=some e->Pu P t a b e
 key:∀ kt v es,E.L6 kt v=true->(∀ p ∈ es,E.L6 kt p.1=true)->zg P kt v es (E.keq v)
 JD:∀ g v,E.JD g=some v->∀ h first cap,dK (first++cap)->ah P w0 h (first++cap) (.aG [])->ah P w0 g [.fn (.func h) first cap] v
 z7:∀ g c n,E.z7 g=some (c,n)->wu P g c n
 ext:∀ g aZ9 r,E.ext g aZ9=some r->ah P w0 g aZ9 r/\dK aZ9
 nat:∀ g aZ9 v,E.nat g aZ9=some v->∃ xs:List Value,aZ9=xs.map .v/\∀ w:World,(callFunc g xs.toArray).run P w=.ok (.value v) w
def sj (P:Program) (w0:World) (rc:Rec):Prop:=∀ rd n c F s ex F' s',rc rd n c F s=.dn ex F' s'->eC s s'/\∀ J J',jL P w0 s s' J J'->∀ Q,Q ex (cI F') (den J' s')->cu P w0 rd n Q c (cI F) (den J s)
section
variable {P:Program}{w0:World}{E:Env}{rc:Rec}{s s':XS}{r:AV}{J J':FJ}
theorem jL.N6 (h:s'.lg=s.lg):jL P w0 s s' J J:=⟨[],h,.nil J⟩
theorem Fg {k sz fz:Nat}{rows:List (List AV)}{ex:Bool}(h:(eW s).get k=some (.arr sz rows fz ex)):(den J s).get k=some (.arr sz rows fz ex):=(dB h).1
theorem z_ {f:Nat->AV}:∀ {qs:List QR}{l:List AV},mJ f (eW s) qs=some l->mJ f (den J s) qs=some l
 |[],l,h=>h
 |.t n::qs,l,h=>by
  simp only[mJ] at h ⊢;split at h
  ·rename_i l' hl;rw[z_ hl];exact h
  ·grind
 |.cell k n::qs,l,h=>by
  simp only[mJ] at h ⊢;split at h
  ·rename_i a l' ha hl;rw[z_ hl,DI ha];exact h
  ·grind
theorem JI:∀ {ds:List DE}{s s':XS},Hm s ds=some s'->(∀ J,yx (den J s) ds=true/\jS (den J s) ds=den J s')/\eC s s'/\s'.lg=s.lg
 |[],s,s',h=>by obtain rfl:=oJ_ h;exact⟨fun J=>⟨rfl,rfl⟩,.refl _,rfl⟩
 |.del _ _ _::ds,s,s',h=>by cases h
 |.ob k::ds,s,s',h=>by
  simp only[Hm] at h;split at h
  ·rename_i hk;obtain⟨h1,h2,h3⟩:=JI h;refine⟨fun J=>?_,eC.wr.trans h2,h3⟩;obtain⟨k1,k2⟩:=dB (J:=J) hk;simp only[yx,jS,DE.k,k1];have:=h1 J
   rwa [jJ k2] at this
  ·grind
theorem JJ {qs:List QR}{ex:Exit}{F:Fr}(h:za qs ex F s=some (r,s')):(∀ J,yw qs ex (cI F) (den J s)=some (r,den J s'))/\eC s s'/\s'.lg=s.lg:=by grind[za,JI,yw,cI,z_]
theorem Aa {aZ9:List AV}:cI ⟨sK aZ9 0 .nil,[]⟩=⟨kG aZ9,[]⟩:=by
 unfold cI;rw[SL]
theorem DZ (hE:jj P w0 E) (hs:sj P w0 rc) {g:Nat}{aZ9:List AV}(h:NT E rc g aZ9=some r):ah P w0 g aZ9 r/\dK aZ9:=by
 unfold NT at h
 ·split at h
  ·grind
  ·rename_i c n ht;split at h
   ·rename_i hn hp;split at h
    ·rename_i ex F s' hr;split at h
     ·rename_i r0 s2 hl hf;obtain⟨h1,h2⟩:=hs _ _ _ _ _ _ _ _ hr;obtain⟨h3,h4⟩:aR (eW s2) r0 r/\Pure r:=by
       split at h
       ·rename_i hp;obtain rfl:=oJ_ h;exact⟨.refl _,fy hp⟩
       ·exact sL h
      have h5:=h2 (fun _ _ _ _=>True) (fun _ _ _ _=>True) (.N6 hl) (nS c.2 fun r' S=>aR S r' r) ⟨r0,_,(JJ hf).1 _,h3.mono fun _ _ _ _ _ h=>Fg h⟩;rw[Aa] at h5;exact⟨(hE.z7 _ _ _ ht).Ep (Nat.le_of_ble_eq_true hn) h4 h5,xg hp⟩
     ·grind
    ·grind
   ·grind
theorem Qw (hE:jj P w0 E) (hs:sj P w0 rc) {g:Nat}{aZ9:List AV}{sz len fz:Nat}{rows:List (List AV)}{ex:Bool}(h:fcX E rc g aZ9=some (sz,len,rows,fz,ex)) :
  dK aZ9/\(∀ r ∈ rows,∀ a ∈ r,Pure a)/\∃ k S',aC P w0 g aZ9 ae.none_ (.ob k sz 0 len none) S'/\S'.get k=some (.arr sz rows fz ex):=by
 unfold fcX at h;split at h
 ·grind
 ·rename_i c n ht;split at h
  ·rename_i hn hp;split at h
   ·rename_i D0 F s' hr;split at h
    ·rename_i k sz1 aaM s2 hl hf;split at h
     ·rename_i sz' al8 Yj ex2 hk;split at h
      ·rename_i hc;simp only[Bool.and_eq_true] at hc;have iw:=Nat.eq_of_beq_eq_true hc.1;subst iw;simp only[oI_,pI_] at h;obtain⟨rfl,rfl,rfl,rfl,rfl⟩:=h;obtain⟨h1,h2⟩:=hs _ _ _ _ _ _ _ _ hr;obtain⟨J,hJ⟩:∃ J:FJ,J=fun _ _ _ _=>True:=⟨_,rfl⟩;have h5:=h2 J J (.N6 hl) (nS c.2 fun r1 S1=>r1=.ob k sz' 0 aaM none/\S1=den J s2) ⟨_,_,(JJ hf).1 _,rfl,rfl⟩;rw[Aa] at h5;obtain⟨r1,S1,k1,rfl,rfl⟩:=(hE.z7 _ _ _ ht).CL (R:=fun r1 S1=>r1=.ob k sz' 0 aaM none/\S1=den J s2) (S:=den J s0X) (Nat.le_of_ble_eq_true hn) h5;exact⟨xg hp,fun r hr a ha=>fy (l5 hc.2 r hr a ha),k,_,k1,Fg hk⟩
      ·grind
     ·grind
    ·grind
   ·grind
  ·grind
theorem vF:∀ {l m:List AV},dK (l++m)->dK l/\dK m
 |[],m,h=>⟨trivial,h⟩
 |a::l,m,h=>⟨⟨h.1,(vF h.2).1⟩,(vF h.2).2⟩
theorem vd (hE:jj P w0 E) (hs:sj P w0 rc) {g:Nat}{aZ9:List AV}(h:JE E rc g aZ9=some r):ah P w0 g aZ9 r/\dK aZ9:=by
 unfold JE at h;split at h
 ·rename_i r' he;obtain rfl:=oJ_ h;exact hE.ext _ _ _ he
 ·split at h
  ·rename_i v hv;split at h
   ·rename_i hh first cap
    split at h
    ·rename_i h1;obtain rfl:=oJ_ h;obtain⟨k1,k2⟩:=DZ hE hs h1;obtain⟨k3,k4⟩:=vF k2;exact⟨hE.JD _ _ hv _ _ _ k2 k1,.fn (dK.all k3) (dK.all k4),trivial⟩
    ·grind
   ·grind
  ·exact DZ hE hs h
theorem xz:∀ {m:Nat}{a:AV},NU m a=true->s_ a
 |0,a,h=>by cases h
 |m+1,a,h=>by
  cases a with
  |v x=>exact .v
  |agg l=>exact .agg fun a ha=>xz (eu h a ha)
  |aG l=>exact .aG fun a ha=>xz (eu h a ha)
  |_=>cases h
theorem GF (hE:jj P w0 E) (hs:sj P w0 rc) {g:Nat}{aZ9:List AV}(h:VQ E rc g aZ9 s=some (r,s')):(∀ J J',jL P w0 s s' J J'->aC P w0 g aZ9 (den J s) r (den J' s'))/\eC ⟨s.m,s.nx,s.nx,s.yk,s.an,s.lg⟩ s':=by
 unfold VQ at h;split at h
 ·grind
 ·rename_i c n ht;split at h
  ·rename_i hn;split at h
   ·rename_i ex F s1 hr;obtain⟨h1,h2⟩:=hs _ _ _ _ _ _ _ _ hr;obtain⟨f1,f2,f3⟩:=JJ h;refine⟨fun J J' hc=>?_,h1.trans f2⟩;have iw:jL P w0 ⟨s.m,s.nx,s.nx,s.yk,s.an,s.lg⟩ s1 J J':=by
     obtain⟨L,hL,hJ⟩:=hc;exact⟨L,by grind,hJ⟩
    have h5:=h2 J J' iw (nS c.2 fun r1 S1=>r1=r/\S1=den J' s') ⟨r,_,f1 J',rfl,rfl⟩;rw[Aa] at h5;obtain⟨r1,S1,k1,rfl,rfl⟩:=(hE.z7 _ _ _ ht).CL (R:=fun r1 S1=>r1=r/\S1=den J' s') (S:=den J s) (Nat.le_of_ble_eq_true hn) h5;exact k1
   ·grind
  ·grind
theorem Xr {k:Nat}(h:eC s s') (hk:k < s'.lw):(den J s').get k=(den J s).get k:=by
 show (match eB s'.yk k with|true=>some (Ob.fo J)|false=>fb s' k)=(match eB s.yk k with|true=>some (Ob.fo J)|false=>fb s k);rw[h.yk,h.ao k hk]
theorem aaN {kb:Nat}:eC s (Qt s kb)/\(Qt s kb).lg=s.lg/\∀ (J:FJ) {g:FuncId}{aZ9:List AV}{r:AV}{S':ae},aC P w0 g aZ9 (den J (Qt s kb)) r S'->aC P w0 g aZ9 (den J s) r S':=by
 unfold Qt;split
 ·rename_i sz k sz' m cs fz ex hy hb;split
  ·rename_i gw rows Gy ex' px bU hk;split
   ·rename_i hc;simp only[Bool.and_eq_true] at hc;obtain rfl:=Nat.eq_of_beq_eq_true hc.1;have hm:=Nat.eq_of_beq_eq_true hc.2;have RZ:kb ≠ k:=fun e=>by rw[e,Nat.beq_refl] at bU;cases bU
    refine⟨eC.wr.trans .wr,rfl,fun J {g aZ9 r S'} h=>?_⟩;rw[jJ (s:=lP s k _) hy,jJ px] at h;exact aC.share (dB (J:=J) hb).1 (dB (J:=J) hk).1 RZ hm h
   ·exact⟨.refl _,rfl,fun J {g aZ9 r S'} h=>h⟩
  ·exact⟨.refl _,rfl,fun J {g aZ9 r S'} h=>h⟩
 ·exact⟨.refl _,rfl,fun J {g aZ9 r S'} h=>h⟩
theorem aaO {k:Nat}:eC s (L7 E k s)/\(L7 E k s).lg=s.lg/\∀ (J:FJ) {g:FuncId}{aZ9:List AV}{r:AV}{S':ae},aC P w0 g aZ9 (den J (L7 E k s)) r S'->aC P w0 g aZ9 (den J s) r S':=by
 unfold L7;split
 ·exact aaN
 ·exact⟨.refl _,rfl,fun J {g aZ9 r S'} h=>h⟩
theorem KT (hE:jj P w0 E) (hs:sj P w0 rc) {fw:Bool}{gq:QO}{fM:List QO}{f:Nat->AV}{df:List DE}(h:AP E rc fw (gq.ev f) (fM.map (·.ev f)) s=some (r,s')) :
  (∀ J J',jL P w0 s s' J J'->af P w0 false (.call gq fM) ⟨f,df⟩ (den J s) r (den J' s'))/\eC s s':=by
 unfold AP at h;split at h
 ·rename_i k hk;split at h
  ·rename_i hy;have hy:=Vg hy;split at h
   ·rename_i qi s1 hf;obtain⟨N,n1,n2,n3,n4,n5,n6,n7,n8,n9⟩:=xq hf;simp only[oI_] at h;have key:∀ (bt:Bool) (a':Nat),(.v (.bool bt),⟨s1.m,s1.nx,s1.lw,s1.yk,a',(qi,bt)::s1.lg⟩)=(r,s')->(∀ J J',jL P w0 s s' J J'->af P w0 false (.call gq fM) ⟨f,df⟩ (den J s) r (den J' s'))/\eC s s':=by
     intro bt a' e;simp only[pI_] at e;obtain⟨rfl,rfl⟩:=e;refine⟨fun J J' hc=>?_,n5.trans ⟨Nat.le_refl _,Nat.le_refl _,rfl,⟨[(qi,bt)],rfl⟩,fun _ _=>rfl⟩⟩;obtain⟨L,hL,hJ⟩:=hc;have hL:(qi,bt)::s1.lg=L++s.lg:=hL;rw[n6] at hL;have OT:[(qi,bt)]=L:=List.append_cancel_right (bs:=s.lg) hL;subst OT;cases hJ with
     |cons h1 t =>
      cases t;have hg:(den J s1).get k=some (.fo J):=by
       show (match eB s1.yk k with|true=>some (Ob.fo J)|false=>fb s1 k)=_;rw[n8,hy];simp only[eB,Nat.beq_refl]
      have hd:∀ J':FJ,den J' ⟨s1.m,s1.nx,s1.lw,s1.yk,a',(qi,bt)::s1.lg⟩=(den J s1).set k (some (.fo J')):=by
       intro J';unfold den ae.set;simp only[ae.mk.injEq,and_true];funext j;by_cases e:j=k
       ·grind[az,eB]
       ·rw[aD _ _ e,n8,hy];have:eB (some k) j=false:=by
         cases hb:eB (some k) j with
         |false=>rfl
         |true=>exact absurd (oJ_ (Vg hb)).symm e
        rw[this]
        rfl
      rw[hd];have hR:=qU.BJ (S:=den J s) (N:=N) (n1 J) (Nat.le_of_eq (by show s.nx=s1.nx;rw[n7])) (n2 J) n3 (h1 _ _ hg);intro n o f_;obtain⟨c,u,ho,hu,rfl,rfl⟩:=kF f_;rw[iF (α:=⟨f,df⟩)] at hR;rw[aI (α:=⟨f,df⟩)] at hk;exact Ey ho hu hk hR
    unfold ylX at h;split at h
    ·grind
    ·grind
   ·grind
  ·grind
 ·split at h
  ·grind
  ·rename_i g aZ9 bH;split at h
   ·rename_i v hv;split at h
    ·rename_i x hfv;simp only[oI_,pI_] at h;obtain⟨rfl,rfl⟩:=h;obtain⟨xs,yj,bZ⟩:=hE.nat _ _ _ hv;refine⟨fun J J' hc=>?_,.refl _⟩;obtain rfl:=hc.same rfl;have CW:x=.func (.func g) #[] #[]/\aZ9=fM.map (·.ev f):=by
      rw[hfv] at bH;unfold dW at bH;split at bH
      ·rename_i g' a b he;split at bH
       ·rename_i e1 e2;simp only[oI_,pI_] at bH;obtain⟨rfl,rfl⟩:=bH;injection he with he;obtain⟨a⟩:=a;obtain⟨b⟩:=b;simp only at e1 e2;subst e1 e2;exact⟨he,rfl⟩
       ·grind
      ·grind
      ·grind
     rw[CW.1] at hfv;exact af.ext (α:=⟨f,df⟩) hfv (by grind) bZ
    ·grind
   ·split at h
    ·rename_i r' hp;simp only[oI_,pI_] at h;obtain⟨rfl,rfl⟩:=h;split at hp
     ·refine⟨fun J J' hc=>?_,.refl _⟩;obtain rfl:=hc.same rfl;obtain⟨h1,h2⟩:=hE.ext _ _ _ hp;exact af.aw bH h1 h2
     ·refine⟨fun J J' hc=>?_,.refl _⟩;obtain rfl:=hc.same rfl;unfold zcX at hp;split at hp
      ·obtain⟨h1,h2⟩:=vd hE hs hp;exact af.aw bH h1 h2
      ·split at hp
       ·rename_i qi hf;split at hp
        ·rename_i r2 fU;split at hp
         ·rename_i hsc;obtain rfl:=oJ_ hp;obtain⟨h1,h2⟩:=vd hE hs fU;have h3:=(zI hf).1;refine af.Az bH h1 h2 (xz hsc) ?_;have mono:∀ {l l':List AV},eY (eW s) l l'->eY (den J' s) l l':=by
           intro l
           induction l with
           |nil=>intro l' h;cases l' with|nil=>trivial|cons=>exact h.elim
           |cons a l ih=>intro l' h;cases l' with|nil=>exact h.elim|cons b l'=>exact⟨h.1.mono fun _ _ _ _ _ h=>Fg h,ih h.2⟩
          exact mono h3
         ·grind
        ·grind
       ·grind
    ·split at h
     ·rename_i q hq;obtain rfl:=oJ_ h;unfold fxX at hq;split at hq
      ·split at hq
       ·rename_i qi s1 hf;split at hq
        ·rename_i r1 he;simp only[oI_,pI_] at hq;obtain⟨rfl,rfl⟩:=hq;obtain⟨N,n1,n2,n3,n4,n5,n6,n7,n8,n9⟩:=xq hf;refine⟨fun J J' hc=>?_,n5⟩;obtain rfl:=hc.same n6;obtain⟨h1,h2⟩:=hE.ext _ _ _ he;exact af.call bH (aC.BJ (S:=den J' s) (N:=N) (n1 J') (Nat.le_of_eq (by show s.nx=s1.nx;rw[n7])) (n2 J') n3 (h1.BX n4 (den J' s1))) (fun e=>by grind)
        ·grind
       ·grind
      ·grind
     ·split at h
      ·rename_i r1 s1 hw;obtain⟨h1,h2⟩:=GF hE hs hw;simp only[oI_,pI_] at h;obtain⟨rfl,rfl⟩:=h;obtain⟨q1,q2,q3⟩:=aaO (P:=P) (w0:=w0) (E:=E) (s:=s) (k:=g);refine⟨fun J J' hc=>af.call bH (q3 J (h1 J J' ?_)) (fun e=>by grind),⟨Nat.le_trans (Nat.min_le_left _ _) q1.lw,Nat.le_trans q1.nx h2.nx,h2.yk.trans q1.yk,by obtain⟨L,hL⟩:=h2.lg;exact⟨L,by grind⟩,fun k hk=>(h2.ao k (Nat.lt_of_lt_of_le hk (Nat.min_le_right _ _))).trans (q1.ao k (Nat.lt_of_lt_of_le hk (Nat.min_le_left _ _)))⟩⟩;obtain⟨L,hL,hJ⟩:=hc;exact⟨L,by grind,hJ⟩
      ·grind
theorem GH (hE:jj P w0 E) {dr:Bool}{q:ee}{f:Nat->AV}{df:List DE}{S:ae}(h:Qu E q f=some r):af P w0 dr q ⟨f,df⟩ S r S:=by
 unfold Qu at h;split at h
 ·split at h
  ·rename_i a b ha hb;split at h
   ·rename_i e he;obtain rfl:=oJ_ h;exact af.eqs ha hb (hE.seq _ _ _ _ he)
   ·grind
  ·grind
 ·grind
theorem Cu {kt:Nat}:∀ {l:List (Value × AV)},JF E kt l=true->∀ p ∈ l,E.L6 kt p.1=true
 |[],_,a,h=>by grind
 |b::l,hp,a,h=>by
  simp only[JF] at hp;split at hp
  ·rename_i hb;rcases List.mem_cons.1 h with rfl|h
   ·grind
   ·exact Cu hp a h
  ·grind
theorem N7 (hE:jj P w0 E) (hs:sj P w0 rc) {fw:Bool}{q:ee}{f:Nat->AV}{df:List DE}(h:JG E rc fw q f s=some (r,s')):(∀ J J',jL P w0 s s' J J'->af P w0 false q ⟨f,df⟩ (den J s) r (den J' s'))/\eC s s':=by
 have other:(match Qu E q f with|some r=>some (r,s)|none=>tW false q f s)=some (r,s')->(∀ J J',jL P w0 s s' J J'->af P w0 false q ⟨f,df⟩ (den J s) r (den J' s'))/\eC s s':=fun h=>by
  split at h
  ·rename_i r1 he;simp only[oI_,pI_] at h;obtain⟨rfl,rfl⟩:=h;refine⟨fun J J' hc=>?_,.refl _⟩;obtain rfl:=hc.same rfl;exact GH hE he
  obtain⟨h1,h2,h3⟩:=P_ (P:=P) (w0:=w0) (df:=df) h;refine⟨fun J J' hc=>?_,h2⟩;obtain rfl:=hc.same h3;exact h1 J'
 cases q with
 |call g aZ9=>exact KT hE hs h
 |append sz by_ a b =>
  simp only[JG] at h;split at h
  ·rename_i r1 ha;obtain rfl:=oJ_ h;obtain⟨h1,h2,h3⟩:=DJ (P:=P) (w0:=w0) (df:=df) (dr:=false) ha;refine⟨fun J J' hc=>?_,h2⟩;obtain rfl:=hc.same h3;exact h1 J'
  ·split at h
   ·rename_i ex rows ha hm;simp only[oI_,pI_] at h;obtain⟨rfl,rfl⟩:=h;refine⟨fun J J' hc=>?_,.refl _⟩;obtain rfl:=hc.same rfl;exact af.Nz ha (jh hm)
   ·rename_i ex rows ha hm;split at h
    ·rename_i hb;simp only[oI_,pI_] at h;obtain⟨rfl,rfl⟩:=h;refine⟨fun J J' hc=>?_,.refl _⟩;obtain rfl:=hc.same rfl;exact af.DR ha hb
    ·grind
   ·grind
 |fP kt z c x i =>
  simp only[JG] at h;split at h
  ·rename_i k v hx hi;split at h
   ·rename_i es hk;split at h
    ·rename_i hc;simp only[Bool.and_eq_true] at hc;simp only[oI_,pI_] at h;obtain⟨rfl,rfl⟩:=h;refine⟨fun J J' c_=>?_,.refl _⟩;obtain rfl:=c_.same rfl;exact af.fP hx (dB (J:=J') hk).1 hi (hE.key _ _ _ hc.1 (Cu hc.2))
    ·grind
   ·grind
  ·grind
 |oD kt x i b =>
  simp only[JG] at h;split at h
  ·rename_i k v hx hi;split at h
   ·rename_i es hk;split at h
    ·rename_i hc hn;simp only[Bool.and_eq_true] at hc;simp only[oI_,pI_] at h;obtain⟨rfl,rfl⟩:=h;refine⟨fun J J' c_=>?_,.wr⟩;obtain rfl:=c_.same rfl;obtain⟨dV,dP⟩:=dB (J:=J') hk;rw[jJ dP];exact af.oD hx dV hi (hE.key _ _ _ hc.1 (Cu hc.2)) hn rfl
    ·grind
   ·grind
  ·grind
 |_=>exact other h
theorem GJ (hE:jj P w0 E) (hs:sj P w0 rc) {fw:Bool}{q:ee}{f:Nat->AV}{df:List DE}(h:VR E rc fw q f s=some (r,s')):(∀ J J',jL P w0 s s' J J'->af P w0 false q ⟨f,df⟩ (den J s) r (den J' s'))/\eC s s':=by
 unfold VR at h;split at h
 ·rename_i r1 h1;obtain rfl:=oJ_ h;obtain⟨k1,k2,k3⟩:=NL (P:=P) (w0:=w0) (df:=df) h1;refine⟨fun J J' hc=>?_,k2⟩;obtain rfl:=hc.same k3;exact k1 J'
 ·exact N7 hE hs h
theorem D1 {rd:Bool}{n:Nat}{c:QC}{body:Fr->XS->XR}
  (hb:∀ F s ex F' s',body F s=.dn ex F' s'->eC s s'/\∀ J J',jL P w0 s s' J J'->∀ c1,cB P.toTables n c1=some c->cU P c1=true->cC P w0 rd n c1 (cI F) (den J s) ex (cI F') (den J' s')) :
  ∀ {k:Nat}{F F':Fr}{s s':XS}{ex:Exit},NV body k F s=some (ex,F',s')->eC s s'/\∀ J J',jL P w0 s s' J J'->∀ c1,cB P.toTables n c1=some c->cU P c1=true->vn P w0 rd n c1 (cI F) (den J s) ex (cI F') (den J' s')
 |0,t,t',s,s',ex,h=>by cases h
 |k+1,t,t',s,s',ex,h=>by
  simp only[NV] at h;split at h
  ·rename_i e1 t1 s1 h1;obtain⟨p1,p2⟩:=hb _ _ _ _ _ h1;split at h
   ·obtain⟨q1,q2⟩:=D1 hb h;refine⟨p1.trans q1,fun J J' hc c1 iw hd=>?_⟩;obtain⟨J1,k1,k2⟩:=jL.split p1 q1 hc;exact vn.step (p2 _ _ k1 c1 iw hd) (q2 _ _ k2 c1 iw hd)
   ·grind[vn.done]
  ·grind
theorem D2:∀ {ks:List Nat}{s s':XS},NW s ks=some s'->(∀ J,den J s'=⟨L8 (den J s).get ks,s.nx⟩)/\eC s s'/\s'.lg=s.lg/\s'.nx=s.nx
 |[],s,s',h=>by obtain rfl:=oJ_ h;exact⟨fun J=>rfl,.refl _,rfl,rfl⟩
 |k::ks,s,s',h=>by
  simp only[NW] at h;split at h
  ·rename_i s1 h1;obtain⟨p1,p2,p3,p4⟩:=D2 h1;split at h
   ·rename_i hy;obtain rfl:=oJ_ h;refine⟨fun J=>?_,p2.trans .wr,p3,p4⟩;rw[jJ hy,p1]
    rfl
   ·grind
  ·grind
theorem JK {W:List (Nat × Option Ob)}{m:Bool}(h:aW s W m=some s'):(∀ J,den J s'=dm (den J s) W m)/\eC s s'/\s'.lg=s.lg:=by
 unfold aW at h;split at h
 ·obtain rfl:=oJ_ h;exact⟨fun J=>cQ.symm,.refl _,rfl⟩
 ·split at h
  ·rename_i hy;obtain rfl:=oJ_ h;exact⟨fun J=>by rw[jJ hy,dT];rfl,.wr,rfl⟩
  ·grind
 ·split at h
  ·rename_i hb;simp only[Bool.and_eq_true,Bool.not_eq_true'] at hb;have h1:=Nat.eq_of_beq_eq_true hb.1;subst h1;obtain rfl:=oJ_ h;exact⟨fun J=>by rw[jK hb.2,dT];rfl,.nw,rfl⟩
  ·grind
 ·split at h
  ·rename_i o j _ hb;simp only[Bool.and_eq_true,Bool.not_eq_true'] at hb;have h1:=Nat.eq_of_beq_eq_true hb.1.1;subst h1;obtain rfl:=oJ_ h;exact⟨fun J=>by rw[jK (s:=lP s _ none) hb.1.2,jJ hb.2,dT];rfl,eC.wr.trans .nw,rfl⟩
  ·grind
 ·grind
theorem Qx (hE:jj P w0 E) (hs:sj P w0 rc) {fr:Bool}{q:ee}{f:Nat->AV}{df:List DE}{rs o8:List Nat}{ns:List Nat × List Nat × Bool}(h:VS E rc fr q f s rs=some (r,ns,o8,s')) :
  (∀ (J:FJ) (B:Nat),(∀ k ∈ rs,k < B)->∃ d:Dt,d.ns=ns/\a6 P w0 B q ⟨f,df⟩ (den J s) r d/\den J s'=dm (den J s) d.W d.m)/\(∀ k ∈ o8,k ∈ rs)/\eC s s'/\s'.lg=s.lg:=by
 have quiet:∀ {q:ee},(match dq q f (eW s) rs with
   |some (r,d,o8)=>(match aW s d.W d.m with|some s'=>some (r,d.ns,o8,s')|none=>none)
   |none=>none)=some (r,ns,o8,s')->(∀ (J:FJ) (B:Nat),(∀ k ∈ rs,k < B)->∃ d:Dt,d.ns=ns/\a6 P w0 B q ⟨f,df⟩ (den J s) r d/\den J s'=dm (den J s) d.W d.m)/\(∀ k ∈ o8,k ∈ rs)/\eC s s'/\s'.lg=s.lg:=fun {q} h=>by
  split at h
  ·rename_i r1 d VU hq;split at h
   ·rename_i s1 ha;simp only[oI_,pI_] at h;obtain⟨rfl,rfl,rfl,rfl⟩:=h;obtain⟨p1,p2,p3⟩:=JK ha;have iH:∀ k ∈ VU,k ∈ rs:=(Cw (P:=P) (w0:=w0) (df:=df) (B:=rs.foldr (fun a b=>a+b) 0+1) (fun k hk=>by
     have:∀ l:List Nat,k ∈ l->k<=l.foldr (fun a b=>a+b) 0:=by
      intro l
      induction l with
      |nil=>intro h;cases h
      |cons a l ih =>
       intro h;rw[List.foldr_cons];rcases List.mem_cons.1 h with rfl|h
       ·omega
       ·grind
     have:=this rs hk;omega) hq).2
    refine⟨fun J B mL=>⟨d,rfl,fun n o hr=>?_,p1 J⟩,iH,p2,p3⟩;obtain⟨k1,k2,k3⟩:=(Cw (P:=P) (w0:=w0) (df:=df) mL hq).1 n o hr;exact⟨k1,fun p hp=>(dB (k2 p hp)).1,fun T hb hT hm=>k3 T hb hT hm⟩
   ·grind
  ·grind
 unfold VS at h;split at h
 ·rename_i r1 hp;simp only[oI_,pI_] at h;obtain⟨rfl,rfl,rfl,rfl⟩:=h;exact⟨fun J B mL=>⟨⟨[],[],false⟩,rfl,a6.pure fun T=>Ga hp,cQ.symm⟩,fun _ h=>h,.refl _,rfl⟩
 split at h
 ·rename_i r1 hp;simp only[oI_,pI_] at h;obtain⟨rfl,rfl,rfl,rfl⟩:=h;exact⟨fun J B mL=>⟨⟨[],[],false⟩,rfl,a6.pure fun T=>GH hE hp,cQ.symm⟩,fun _ h=>h,.refl _,rfl⟩
 ·cases q with
  |call g aZ9 =>
   simp only at h;split at h
   ·rename_i hh qi bH;split at h
    ·rename_i sz len rows fz ex hfc;simp only[oI_,pI_] at h;obtain⟨rfl,rfl,rfl,rfl⟩:=h;split at hfc
     ·rename_i hy;obtain⟨k1,k2,k,S1,k3,k4⟩:=Qw hE hs hfc;refine⟨fun J B mL=>⟨⟨[],[(s.nx,some (.arr sz rows fz ex))],true⟩,rfl,a6.adq (S:=den J s) bH k1 k3 k4 k2,?_⟩,fun _ h=>h,.nw,rfl⟩;rw[jK hy,dT]
      rfl
     ·grind
    ·split at h
     ·rename_i r1 hp;simp only[oI_,pI_] at h;obtain⟨rfl,rfl,rfl,rfl⟩:=h;obtain⟨k1,k2⟩:=vd hE hs hp;exact⟨fun J B mL=>⟨⟨[],[],false⟩,rfl,a6.pure fun T=>af.aw bH k1 k2,cQ.symm⟩,fun _ h=>h,.refl _,rfl⟩
     ·grind
   ·grind
  |append sz by_ a b =>
   simp only at h;split at h
   ·grind[JK,NC]
   ·grind
  |_=>exact quiet h
theorem Fh {n:Nat}{c1:Code}{l:List QI}(iw:cB P.toTables n c1=some (.aN false l)) {R:AA->ae->Prop}{E:List PanicEntry->AA->ae->Prop}{β:AA}{T:ae}(hE:∀ ch α S,¬ E ch α S) (h:eX P w0 n false l R E β T) :
  ∃ bF bW,cC P w0 true n c1 β T .normal bF bW/\R bF bW:=by
 obtain⟨id,ops,rfl,_,h3⟩:=GC iw;obtain⟨au,S',h5,h6⟩:=(h _ _ h3 0 rfl).resolve_right fun ⟨ch,au,S',_,h6⟩=>hE _ _ _ h6;rw[Array.length_toList,<-List.range_eq_range'] at h5;exact⟨au,S',cC.region h5,h6⟩
theorem D3 (hs:sj P w0 rc) {n:Nat}{c1 c2:Code}{qa qb:QC}{F F':Fr}{ex:Exit}(h:NY rc n qa qb F s=.dn ex F' s') :
  eC s s'/\(cB P.toTables n c1=some qa->cB P.toTables n c2=some qb->cU P c2=true->(∀ ch,ex ≠ .panic ch)->∀ J J',jL P w0 s s' J J'->∃ bF bW,cC P w0 true n c1 (cI F) (den J s) .normal bF bW/\Wp P w0 true n c2 (fun e α S=>e=ex/\α=cI F'/\S=den J' s') bF bW):=by
 unfold NY at h;split at h
 ·rename_i l ha;obtain⟨p1,p2⟩:=hs _ _ _ _ _ _ _ _ h;refine⟨p1,fun iw c_ jq L9 J J' hc=>?_⟩;have hq:=p2 J J' hc (fun e α S=>e=ex/\α=cI F'/\S=den J' s') ⟨rfl,rfl,rfl⟩;unfold TJ at ha;split at ha
  ·injection ha with ha;injection ha with _ h2;subst h2;obtain⟨bF,bW,h3,h4⟩:=(hq [] [] rfl 0 rfl).resolve_right fun ⟨ch,au,S',_,h6⟩=>L9 ch h6.1.symm;refine⟨bF,bW,?_,h4 c2 c_ jq⟩;intro F m A g a w hF hR hS hA;exact (qS.1 iw).wp (h3 F m A g a w (nv w0 n A g w .normal bF bW) hF hS hA fun a' w' g' h1 h2 h3=>⟨rfl,g',h1,h2,h3⟩)
  ·injection ha with ha;injection ha with _ h2;subst h2;obtain⟨bF,bW,h3,h4⟩:=Fh iw (fun ch α S he=>L9 ch he.1.symm) hq;exact⟨bF,bW,h3,h4 c2 c_ jq⟩
  ·grind
  ·grind
 ·rename_i a l ha;split at h
  ·rename_i F1 s1 h1;split at h
   ·rename_i hl;obtain⟨p1,p2⟩:=hs _ _ _ _ _ _ _ _ h1;obtain⟨p3,p4⟩:=hs _ _ _ _ _ _ _ _ h;have hl:s1.lg=s.lg:=by
     obtain⟨L,hL⟩:=p1.lg;have:=Nat.eq_of_beq_eq_true hl;rw[hL,List.length_append] at this;rw[hL,List.length_eq_zero_iff.1 (show L.length=0 by omega)]
     rfl
    refine⟨p1.trans p3,fun iw c_ jq L9 J J' hc=>?_⟩;have x9:=p2 J J (.N6 hl) (fun e α S=>e=.normal/\α=cI F1/\S=den J s1) ⟨rfl,rfl,rfl⟩;have CU:jL P w0 s1 s' J J':=by obtain⟨X,hX,hJ⟩:=hc;exact⟨X,by grind,hJ⟩
    have sd:=p4 J J' CU (fun e α S=>e=ex/\α=cI F'/\S=den J' s') ⟨rfl,rfl,rfl⟩;unfold TJ at ha;split at ha
    ·grind
    ·grind
    ·simp only[oI_,pI_] at ha;obtain⟨rfl,rfl⟩:=ha;obtain⟨r1,r2,rfl,k1,k2⟩:=GD iw;obtain⟨bF,bW,h3,h4⟩:=Fh k1 (fun ch α S he=>by cases he.1) x9;obtain⟨_,rfl,rfl⟩:_/\bF=cI F1/\bW=den J s1:=h4;obtain⟨AG,Ev,h5,h6⟩:=Fh k2 (fun ch α S he=>L9 ch he.1.symm) sd;exact⟨AG,Ev,cC.seq h3 h5,h6 c2 c_ jq⟩
    ·grind
   ·grind
  ·grind
 ·grind
theorem D4 (hs:sj P w0 rc) {n B N:Nat}{c1 c2:Code}{pt:Array Tmp}{qa qb:QC}{t:Tr AV}{st0:List (Nat × AV)}(iw:cB P.toTables n c1=some qa) (c_:cB P.toTables n c2=some qb) (eQ:cU P c1=true) (jq:cU P c2=true)
  (CR:∀ t ∈ pt,t < n) (mj:e_ t=kW (fun _=>.u) st0) (hk:∀ p ∈ st0,dz B p.2):∀ {lg:List (List AV × Bool)}{s s':XS}{ex:Exit},s.nx=N->z8 rc n B N qa qb pt.toList t lg s=some (ex,s') ->
  s'.nx=N/\s'.yk=s.yk/\(∃ L,s'.lg=L++s.lg)/\(s.lw=0->s'.lw=0)/\∀ J J',jL P w0 s s' J J'->∃ j,vL ex=some j/\∀ A gs T0,(∀ k,gs.al k->k < B) ->
   zl P w0 (LJ w0.heap.size A gs n T0 .ready none pt c1 c2 (eJ st0 []).tm (aq (oe J s) N)) lg (LJ w0.heap.size A gs n T0 (mB j) j pt c1 c2 (eJ st0 []).tm (aq (oe J' s') N))
 |[],s,s',ex,hN,h=>by
  simp only[z8,oI_,pI_] at h;obtain⟨rfl,rfl⟩:=h;refine⟨hN,rfl,⟨[],rfl⟩,id,fun J J' hc=>⟨none,rfl,fun A gs T0 _=>?_⟩⟩;obtain rfl:=hc.same rfl;exact .nil _
 |(x,b)::rest,s,s',ex,hN,h=>by
  simp only[z8] at h;split at h
  case h_2=>cases h
  rename_i hx;simp only[Bool.and_eq_true] at hx;have lQ:=Nat.eq_of_beq_eq_true hx.1;have bK:∀ a ∈ x,Pure a:=fun a ha=>fy (eu hx.2 a ha);split at h
  case h_2=>cases h
  rename_i D0 F1 s2 hr;split at h
  case h_2=>cases h
  rename_i s3 Yq K8;obtain⟨p1,p2⟩:=D3 (c1:=c1) (c2:=c2) hs hr;obtain⟨g1,g2,g3,g4,g5,g6⟩:=Gg (F:=e_ F1.t) K8;have yH:∀ t,dz B ((eJ st0 []).tm t):=fun t=>B4 hk t
  have rn:∀ {j:Option Code},vL D0=some j->∀ J J1,jL P w0 s s2 J J1->∀ A gs T0,(∀ k,gs.al k->k < B)->∀ (T:ae) (k:Nat),T.get k=some (.fo (LJ w0.heap.size A gs n T0 .ready none pt c1 c2 (eJ st0 []).tm (aq (oe J s) N))) ->
    qU P w0 k x T (.v (.bool j.isNone)) (T.set k (some (.fo (LJ w0.heap.size A gs n T0 (mB j) j pt c1 c2 (eJ st0 []).tm (aq (oe J1 s3) N))))):=by
   intro j hj J J1 hc A gs T0 hB T k hT;have L9:∀ ch,D0 ≠ .panic ch:=fun ch e=>by grind
   obtain⟨bF,bW,h2,ex2,nO,S2,h4,rfl,rfl,rfl⟩:=p2 iw c_ jq L9 J J1 hc;have e1:cI ⟨AT t (pt.toList.zip x),[]⟩=⟨uu (eJ st0 []).tm (pt.toList.zip x),[]⟩:=by
    unfold cI;rw[F0,mj]
    rfl
   have e2:den J s=aq (oe J s) N:=by rw[<-hN,I6]
   rw[e1,e2] at h2;obtain⟨m,hC⟩:=g6 J1;have e3:cI F1=⟨e_ F1.t,[]⟩:=by grind[cI]
   rw[<-e3] at hC;exact qU.rnd h2 h4 hC hj (by grind) bK CR yH hB hT
  split at h
  ·obtain⟨q1,q2,⟨L2,q3⟩,q4,q5⟩:=D4 hs iw c_ eQ jq CR mj hk g1 h;obtain⟨L1,CS⟩:=p1.lg;refine⟨q1,by rw[q2,g2];exact p1.yk,⟨L2++L1,by grind⟩,fun _=>q4 g5,fun J J' hc=>?_⟩;obtain⟨X,hX,hJ⟩:=hc;rw[q3,g4,CS,<-List.append_assoc] at hX;obtain rfl:=List.append_cancel_right hX;rw[List.reverse_append] at hJ;obtain⟨J1,k1,k2⟩:=hJ.app;obtain⟨j,hj,hq5⟩:=q5 J1 J' ⟨L2,q3,k2⟩;exact⟨j,hj,fun A gs T0 hB=>.cons (rn (j:=none) rfl J J1 ⟨L1,CS,k1⟩ A gs T0 hB) (hq5 A gs T0 hB)⟩
  ·simp only[oI_,pI_] at h;obtain⟨rfl,rfl⟩:=h;obtain⟨L1,CS⟩:=p1.lg;refine⟨g1,by rw[g2];exact p1.yk,⟨L1,by grind⟩,fun _=>g5,fun J J' hc=>⟨_,rfl,fun A gs T0 hB=>?_⟩⟩;obtain⟨X,hX,hJ⟩:=hc;rw[g4] at hX;exact .cons (rn rfl J J' ⟨X,hX,hJ⟩ A gs T0 hB) (.nil _)
  ·simp only[oI_,pI_] at h;obtain⟨rfl,rfl⟩:=h;obtain⟨L1,CS⟩:=p1.lg;refine⟨g1,by rw[g2];exact p1.yk,⟨L1,by grind⟩,fun _=>g5,fun J J' hc=>⟨_,rfl,fun A gs T0 hB=>?_⟩⟩;obtain⟨X,hX,hJ⟩:=hc;rw[g4] at hX;exact .cons (rn rfl J J' ⟨X,hX,hJ⟩ A gs T0 hB) (.nil _)
  ·grind
theorem JL (hs:sj P w0 rc) {n B N:Nat}{qa:QC}{qb:QC}{ps:List Nat}{t:Tr AV}:∀ {lg:List (List AV × Bool)}{s s':XS}{ex:Exit},s.nx=N->z8 rc n B N qa qb ps t lg s=some (ex,s') ->
  s'.nx=N/\s'.yk=s.yk/\(∃ L,s'.lg=L++s.lg)/\(s.lw=0->s'.lw=0)
 |[],s,s',ex,hN,h=>by
  simp only[z8,oI_,pI_] at h;obtain⟨rfl,rfl⟩:=h;exact⟨hN,rfl,⟨[],rfl⟩,id⟩
 |(x,b)::rest,s,s',ex,hN,h=>by
  simp only[z8] at h;split at h
  case h_2=>cases h
  split at h
  case h_2=>cases h
  rename_i D0 F1 s2 hr;split at h
  case h_2=>cases h
  rename_i s3 Yq K8;have p1:=(D3 (P:=P) (w0:=w0) (c1:=.skip) (c2:=.skip) hs hr).1;obtain⟨g1,g2,g3,g4,g5,g6⟩:=Gg (F:=e_ F1.t) K8;obtain⟨L1,CS⟩:=p1.lg;have fin:s3.nx=N/\s3.yk=s.yk/\(∃ L,s3.lg=L++s.lg)/\(s.lw=0->s3.lw=0):=⟨g1,by rw[g2];exact p1.yk,⟨L1,by grind⟩,fun _=>g5⟩;split at h
  ·obtain⟨q1,q2,⟨L2,q3⟩,q4⟩:=JL hs g1 h;exact⟨q1,by grind,⟨L2++L1,by grind⟩,fun _=>q4 g5⟩
  ·grind
  ·grind
  ·grind
theorem Ac {s s':XS}(h:s.yk=s'.yk):∀ {l:List (Nat × Option Ob)},zJ s l=zJ s' l
 |[]=>rfl
 |p::l=>by
  simp only[zJ,h];split
  ·rw[Ac h]
  ·exact Ac h
theorem Qy {s s':XS}(hm:s.m=s'.m) (h:s.yk=s'.yk):oe J s=oe J s':=by grind[oe,Ac]
theorem GK {B N:Nat}{m:List (Nat × Nat)}{f:Nat->AV}:∀ {l:List (Nat × AV)},(∀ p ∈ l,f p.1=p.2/\dz B p.2)->CM B m N f l
 |[],_=>trivial
 |p::l,h=>⟨.ao (h p (by simp)).1 (h p (by simp)).2,GK fun q hq=>h q (by grind)⟩
theorem JM {B N:Nat}{m:List (Nat × Nat)}{S:ae}:∀ {l:List (Nat × Ob)},(∀ p ∈ l,∃ bY,S.get (dE B (aJ m) p.1)=some bY/\yB B m N bY p.2)->fY B m N S l
 |[],_=>trivial
 |p::l,h=>⟨.inl (h p (by simp)),JM fun q hq=>h q (by grind)⟩
theorem D5 (hE:jj P w0 E) (hs:sj P w0 rc) {g:Nat}{aZ9:List AV}{an:Nat}{lg:List (List AV × Bool)}(h:NZ E rc g aZ9 an=some lg):∀ J J',zl P w0 J lg J'->∃ r S1,aC P w0 g aZ9 (aq [(0,.fo J)] 1) r S1/\S1.get 0=some (.fo J'):=by
 unfold NZ at h;split at h
 ·rename_i r s' hw;obtain rfl:=oJ_ h;obtain⟨h1,h2⟩:=GF hE hs hw;intro J J' hJ;obtain⟨L,hL⟩:=h2.lg;have hc:=h1 J J' ⟨s'.lg,by simp,hJ⟩;have e:den J ⟨.nil,1,1,some 0,an,[]⟩=aq [(0,.fo J)] 1:=by
   unfold den aq;simp only[ae.mk.injEq,and_true];funext k;simp only[eB,dL];cases Nat.beq 0 k<;>rfl
  rw[e] at hc;refine⟨r,_,hc,?_⟩;show (match eB s'.yk 0 with|true=>some (Ob.fo J')|false=>fb s' 0)=_;have:s'.yk=some 0:=h2.yk;rw[this]
  rfl
 ·grind
theorem N8 (hE:jj P w0 E) (hs:sj P w0 rc) {g:Nat}{aZ9:List AV}{R:List (List AV × Bool)->Option (Exit × XS)}{C:List (List AV × Bool)->Option Nat}{q:Exit × XS}(h:TK rc E g aZ9 R C=some q) :
  ∃ lg,R lg=some q/\∀ J J',zl P w0 J lg J'->∃ r S1,aC P w0 g aZ9 (aq [(0,.fo J)] 1) r S1/\S1.get 0=some (.fo J'):=by
 unfold TK at h;split at h
 ·rename_i lg h1;split at h
  ·rename_i q' h2;obtain rfl:=oJ_ h;exact⟨lg,h2,D5 hE hs h1⟩
  ·grind[D5]
 ·grind
theorem Cx {B:Nat}:∀ {l:List (Nat × AV)},N0 B l=true->∀ p ∈ l,dz B p.2
 |[],_,a,h=>by grind
 |b::l,hp,a,h=>by
  simp only[N0] at hp;split at hp
  ·rename_i hb;rcases List.mem_cons.1 h with rfl|h
   ·exact kI hb
   ·exact Cx hp a h
  ·grind
theorem JN {B:Nat}:∀ {l:List (Nat × Option Ob)},N4 B s l=true->∀ p ∈ l,p.1 < B/\∀ o,p.2=some o->fR B o
 |[],_,a,h=>by grind
 |b::l,hp,a,h=>by
  simp only[N4] at hp;split at hp
  ·rename_i hb;simp only[Bool.and_eq_true] at hb;rcases List.mem_cons.1 h with rfl|h
   ·refine⟨dM hb.1,fun o ho=>?_⟩;have h2:=hb.2;rw[ho] at h2;exact I1 h2
   ·exact JN hp a h
  ·grind
theorem GM {t:Tr AV}:e_ t=kW (fun _=>.u) (toLk t):=by
 have key:∀ (l:List (Nat × AV)) (g:Nat->Option AV),(∀ k a,(k,a) ∈ l ↔ g k=some a)->∀ k,kW (fun _=>.u) l k=match g k with|some a=>a|none=>.u:=by
  intro l g h k;have h1:∀ (l:List (Nat × AV)),(∃ a,(k,a) ∈ l/\kW (fun _=>.u) l k=a)\/((∀ a,(k,a) ∉ l)/\kW (fun _=>.u) l k=.u):=by
   intro l
   induction l with
   |nil=>exact .inr ⟨fun a h=>(by grind),rfl⟩
   |cons p l ih =>
    obtain⟨j,b⟩:=p;by_cases e:k=j
    ·subst e;exact .inl ⟨b,by simp,az _ _ _⟩
    ·have e2:kW (fun _=>.u) ((j,b)::l) k=kW (fun _=>.u) l k:=aD _ _ e;rw[e2];rcases ih with ⟨a,h1,h2⟩|⟨h1,h2⟩
     ·grind
     ·grind
  rcases h1 l with ⟨a,h2,h3⟩|⟨h2,h3⟩
  ·grind
  ·rw[h3];cases e:g k with
   |none=>rfl
   |some a=>exact absurd ((h k a).2 e) (h2 a)
 funext k;rw[key (toLk t) (gz t) (fun k a=>toLk_mem) k]
 rfl
theorem N9 (hE:jj P w0 E) (hs:sj P w0 rc) {n:Nat}{x:QO}{ps:List Nat}{qa qb:QC}{F F':Fr}{ex:Exit}(h:TL E rc n (x.ev (e_ F.t)) ps qa qb F s=some (ex,F',s')) :
  eC s s'/\∀ J J',jL P w0 s s' J J'->∀ Q K,cu P w0 false n Q (.out ex K) (cI F') (den J' s')->cu P w0 false n Q (.run (.wM x ps qa qb) K) (cI F) (den J s):=by
 unfold TL at h;split at h
 case h_2=>cases h
 rename_i gid first cap hx
 split at h
 case h_2=>cases h
 rename_i Bg;simp only[Bool.and_eq_true,Bool.not_eq_true'] at Bg;obtain⟨⟨⟨⟨⟨⟨⟨⟨c1,c2⟩,c3⟩,c4⟩,c5⟩,c6⟩,c7⟩,c8⟩,c9⟩:=Bg;split at h
 case h_2=>cases h
 rename_i D0 s1 jd;simp only[oI_,pI_] at h;obtain⟨rfl,rfl,rfl⟩:=h;obtain⟨lg,hR,yL⟩:=N8 hE hs jd;obtain⟨r0,DN⟩:∃ r0:XS,r0=⟨(mo s .df).m,s.nx+41,0,s.yk,s.an,s.lg⟩:=⟨_,rfl⟩;rw[<-DN] at hR;have r1:r0.nx=s.nx+41:=by grind
 have r2:r0.lg=s.lg:=by grind
 have r3:r0.yk=s.yk:=by grind
 have r4:∀ J,oe J r0=oe J (mo s .df):=fun J=>Qy (by grind) (by rw[DN];rfl);obtain⟨q1,q2,⟨L,q3⟩,q4⟩:=JL hs r1 hR;have q4:=q4 (by grind);refine⟨⟨by omega,by omega,q2.trans r3,⟨L,by grind⟩,fun k hk=>by omega⟩,fun J J' hc Q K hQ=>?_⟩;intro c u0 hd;obtain⟨y,pt,a1,a2,rfl,rfl,rfl,iw,c_⟩:=NR u0;simp only[cU,Bool.and_eq_true] at hd;obtain⟨_,_,_,_,q5⟩:=D4 (P:=P) (w0:=w0) (pt:=pt) (st0:=toLk F.t) hs iw c_ hd.1 hd.2 (fun t ht=>by
  have:=List.all_eq_true.1 c3 t (by grind);exact dM this) GM (Cx c6) r1 hR
 obtain⟨j,hj,hch⟩:=q5 J J' (by obtain⟨X,hX,hJ⟩:=hc;exact⟨X,by grind,hJ⟩);have YA:(cI F).ev y=.fn (.func gid) first cap:=by rw[<-aI];exact hx
 have hC:Canon (s.nx+1) (s.nx+41) [] ⟨(cI F).tm,(den J s).nx::(cI F).df⟩ ((den J s).new .df) (toLk F.t) ((den J s).nx::(cI F).df) (oe J r0):=by
  refine⟨GK fun p hp=>⟨?_,Cx c6 p hp⟩,rfl,JM fun p hp=>?_,?_,Nat.ble_eq_true_of_le (by omega),?_⟩
  ·have:=toLk_mem.1 (show (p.1,p.2) ∈ toLk F.t from hp);show e_ F.t p.1=p.2;unfold e_;rw[this]
  ·obtain⟨k,o⟩:=p;rw[r4] at hp;have hg:=LR.1 hp;rw[jK c4] at hg;have IL:k < s.nx+1/\fR (s.nx+1) o:=by
    unfold oe at hp;rcases List.mem_append.1 hp with hp|hp
    ·have hy:(mo s .df).yk=s.yk:=rfl;rw[hy] at hp;cases hyy:s.yk with
     |none=>rw[hyy] at hp;cases hp
     |some y2 =>
      rw[hyy] at hp c9;simp only[Qb,List.mem_singleton,pI_] at hp;obtain⟨rfl,rfl⟩:=hp;exact⟨dM c9,trivial⟩
    ·obtain⟨h1,h2⟩:=wh.1 hp;obtain⟨h3,h4⟩:=JN c7 _ h2;exact⟨h3,h4 o rfl⟩
   exact⟨o,by grind[lh],.same IL.2⟩
  ·grind[I5]
  ·show (Nat.blt s.nx (s.nx+1) && F.ds.all fun d=>Nat.blt d.k (s.nx+1))=true;rw[c5,show Nat.blt s.nx (s.nx+1)=true from Nat.ble_eq_true_of_le (Nat.le_refl _)]
   rfl
 refine⟨D0,_,_,cC.range (n:=n) (st0:=toLk F.t) (so0:=oe J r0) (so1:=oe J' s1) (j:=j) YA (fun a ha=>fy (eu c1 a ha)) (fun a ha=>fy (eu c2 a ha)) hC (Nat.le_refl _) hj (fun A gs T0 hB=>yL _ _ (hch A gs T0 hB)),?_⟩;have e1:eJ (toLk F.t) ((den J s).nx::(cI F).df)=cI ⟨F.t,s.nx::F.ds⟩:=by
  unfold eJ cI;rw[GM]
  rfl
 rw[e1,<-q1,I6];exact hQ
theorem N_ {x:QO}{F F':Fr}{n:Nat}(h:TM x F s=some (F',s')):eC s s'/\s'.lg=s.lg/\∀ J,Cv w0 n (cI F) (den J s) (cI F') (den J s'):=by
 unfold TM at h;split at h
 case h_2=>cases h
 rename_i t;split at h
 case h_2=>cases h
 rename_i f first cap hx
 split at h
 ·grind
 ·split at h
  ·rename_i a s1 hf;simp only[oI_,pI_] at h;obtain⟨rfl,rfl⟩:=h;obtain⟨N,n1,n2,n3,n4,n5,n6,n7,n8,n9⟩:=xq hf;refine⟨n5,n6,fun J=>?_⟩;have:=Cv.aad (w0:=w0) (n:=n) (α:=cI F) (t:=t) (a':=a) (S:=den J s) (S':=den J s1) (N:=N) (n1 J) (Nat.le_of_eq (by show s.nx=s1.nx;rw[n7])) (n2 J) (by show e_ F.t t ≠ .u;rw[hx];intro h;cases h) (by show aR N (e_ F.t t) a;rw[hx];exact n3.1);have e:cI ⟨put F.t t a,F.ds⟩=⟨a7 (cI F).tm t a,(cI F).df⟩:=by grind[cI,xe]
   rw[e];exact this
  ·grind
def JO (P:Program) (w0:World) (rd:Bool) (n:Nat) (f:QF->Fr->XS->XR):Prop :=
 (∀ c F s c' F' s',f c F s=.mr c' F' s'->eC s s'/\∀ J J',jL P w0 s s' J J'->∀ Q,cu P w0 rd n Q c' (cI F') (den J' s')->cu P w0 rd n Q c (cI F) (den J s)) /\
 (∀ c F s ex F' s',f c F s=.dn ex F' s'->eC s s'/\∀ J J',jL P w0 s s' J J'->∀ Q,Q ex (cI F') (den J' s')->cu P w0 rd n Q c (cI F) (den J s))
theorem JO.it {rd:Bool}{n:Nat}{f:QF->Fr->XS->XR}(h:JO P w0 rd n f):∀ k,JO P w0 rd n (Qv f k)
 |0=>h
 |k+1=>by
  have ih:=JO.it h k;refine⟨fun c t s c' t' s' e=>?_,fun c t s ex t' s' e=>?_⟩
  all_goals
   simp only[Qv] at e;split at e
   ·rename_i c1 t1 s1 h1;obtain⟨p1,p2⟩:=ih.1 _ _ _ _ _ _ h1
    first
     |(obtain⟨q1,q2⟩:=ih.1 _ _ _ _ _ _ e
       refine⟨p1.trans q1,fun J J' hc Q hQ=>?_⟩;obtain⟨J1,k1,k2⟩:=jL.split p1 q1 hc;exact p2 _ _ k1 Q (q2 _ _ k2 Q hQ))
     |(obtain⟨q1,q2⟩:=ih.2 _ _ _ _ _ _ e
       refine⟨p1.trans q1,fun J J' hc Q hQ=>?_⟩;obtain⟨J1,k1,k2⟩:=jL.split p1 q1 hc;exact p2 _ _ k1 Q (q2 _ _ k2 Q hQ))
   ·first
     |exact ih.1 _ _ _ _ _ _ e
     |exact ih.2 _ _ _ _ _ _ e
theorem aaQ {s0 s1:XS}{J J':FJ}{k:Nat}(h:eC s0 s1) (hc:jL P w0 s0 s1 J J') (hk:k < JH s0 s1):(den J' s1).get k=(den J s0).get k:=by
 unfold JH at hk;split at hk
 ·rename_i hb;obtain⟨L,hL⟩:=h.lg;have:L=[]:=by
   have h1:=Nat.eq_of_beq_eq_true hb;rw[hL,List.length_append] at h1;exact List.eq_nil_of_length_eq_zero (by omega)
  subst this;obtain rfl:=hc.same hL;exact Xr h hk
 ·omega
theorem aaR {s0 s s1:XS}{J J':FJ}{k:Nat}(h:eC s0 s1) (hc:jL P w0 s0 s1 J J') (em:s.m=s0.m) (ey:s.yk=s0.yk) (el:s.lg=s0.lg) (hw:JH s s1=JH s0 s1) (hk:L4 (JH s s1,VT s s1) k=true):(den J' s1).get k=(den J s0).get k:=by
 unfold L4 at hk;split at hk
 ·grind[aaQ,dM]
 ·have ahY:∀ {l:List Nat},NM l k=true->k ∈ l:=by
   intro l
   induction l with
   |nil=>intro h;cases h
   |cons a l ih =>
    intro h;unfold NM at h;split at h
    ·rename_i e;rw[Nat.eq_of_beq_eq_true e];simp
    ·grind
  have hk:=ahY hk;simp only at hk;unfold VT at hk;split at hk
  ·rename_i hb;obtain⟨L,hL⟩:=h.lg;have:L=[]:=by
    have h1:=Nat.eq_of_beq_eq_true hb;rw[hL,List.length_append,el] at h1;exact List.eq_nil_of_length_eq_zero (by omega)
   subst this;obtain rfl:=hc.same hL;have h2:=(List.mem_filter.1 hk).2;split at h2
   ·grind
   ·rename_i hy;have h3:=Xo h2;have h4:fb s k=fb s0 k:=by grind[fb]
    show (match eB s1.yk k with|true=>some (Ob.fo J')|false=>fb s1 k)=(match eB s0.yk k with|true=>some (Ob.fo J')|false=>fb s0 k);rw[h.yk,<-ey,hy,<-h4,h3]
  ·grind
theorem Xs (hE:jj P w0 E) (hs:sj P w0 rc) (rd:Bool) (n:Nat):JO P w0 rd n (mI E rc rd n):=by
 have ve:∀ {c c':QF}{t:Fr}{s:XS},(∀ (Q:Exit->AA->ae->Prop) α S,cu P w0 rd n Q c' α S->cu P w0 rd n Q c α S)->∀ {c2:QF}{t':Fr}{s':XS},XR.mr c' t s=.mr c2 t' s'->eC s s'/\∀ J J',jL P w0 s s' J J'->∀ Q,cu P w0 rd n Q c2 (cI t') (den J' s')->cu P w0 rd n Q c (cI t) (den J s):=by
  intro c c' t s hm c2 t' s' e;injection e with e1 e2 e3;subst e1 e2 e3;refine⟨.refl _,fun J J' hc Q hQ=>?_⟩;obtain rfl:=hc.same rfl;exact hm _ _ _ hQ
 refine⟨fun c t s c' t' s' e=>?_,fun c t s ex t' s' e=>?_⟩
 ·cases c with
  |run c K =>
   cases c with
   |skip=>exact ve (fun _ _ _=>cu.skip) e
   |aN dr l =>
    cases dr with
    |true=>cases e
    |false=>exact ve (fun _ _ _=>cu.aN) e
   |dN V l =>
    simp only[mI] at e;split at e
    ·rename_i s1 h1;injection e with e1 e2 e3;subst e1 e2 e3;obtain⟨p1,p2,p3,p4⟩:=D2 h1;refine⟨⟨p2.lw,Nat.le_add_right _ _,p2.yk,p2.lg,p2.ao⟩,fun J J' hc Q hQ=>?_⟩;obtain rfl:=hc.same p3;have:den J' ⟨s1.m,s.nx+(iX l s.nx).length,s1.lw,s1.yk,s1.an,s1.lg⟩=xy (den J' s) l:=by
      have:=congrArg ae.get (p1 J');unfold den xy;simp only[ae.mk.injEq,and_true];exact this
     rw[this] at hQ;exact cu.dN hQ
    ·grind
   |seq a c=>exact ve (fun _ _ _=>cu.seq) e
   |cond x a c =>
    simp only[mI] at e;split at e
    ·rename_i hx;injection e with e1 e2 e3;subst e1 e2 e3;refine⟨.refl _,fun J J' hc Q hQ=>?_⟩;obtain rfl:=hc.same rfl;exact cu.cond (t:=true) hx hQ
    ·rename_i hx;injection e with e1 e2 e3;subst e1 e2 e3;refine⟨.refl _,fun J J' hc Q hQ=>?_⟩;obtain rfl:=hc.same rfl;exact cu.cond (t:=false) hx hQ
    ·grind
   |block id c=>exact ve (fun _ _ _=>cu.block) e
   |scope c=>exact ve (fun _ _ _=>cu.scope) e
   |loop c =>
    simp only[mI] at e;split at e
    ·rename_i D0 t1 s1 h1;injection e with e1 e2 e3;subst e1 e2 e3;obtain⟨q1,q2⟩:=D1 (P:=P) (w0:=w0) (rd:=rd) (n:=n) (c:=c) (fun t s ex t' s' h=>by
      obtain⟨p1,p2⟩:=hs _ _ _ _ _ _ _ _ h;refine⟨p1,fun J J' hc c1 iw hd=>?_⟩;obtain⟨e2,nO,S2,k1,rfl,rfl,rfl⟩:=p2 J J' hc (fun e α S=>e=ex/\α=cI t'/\S=den J' s') ⟨rfl,rfl,rfl⟩ c1 iw hd;exact k1) h1
     refine⟨q1,fun J J' hc Q hQ=>?_⟩;intro c0 u0 hd0;obtain⟨c1,rfl,iw⟩:=NQ u0;exact⟨_,_,_,cC.loop (q2 J J' hc c1 iw hd0),hQ⟩
    ·grind
   |exit id=>exact ve (fun _ _ _=>cu.exit_) e
   |ret=>exact ve (fun _ _ _=>cu.ahV) e
   |wM x ps a c =>
    simp only[mI] at e;split at e
    ·rename_i F1 s1 hp;injection e with e1 e2 e3;subst e1 e2 e3;obtain⟨p1,p2,p3⟩:=N_ (w0:=w0) (n:=n) hp;refine⟨p1,fun J J' hc Q hQ=>?_⟩;obtain rfl:=hc.same p2;exact cu.cv (p3 J') hQ
    ·grind[N9]
   |raw c=>cases e
  |out ex K =>
   cases K with
   |nil=>cases e
   |cons it K =>
    cases it with
    |seq c=>cases ex<;>(simp only[mI] at e;exact ve (by exact fun _ _ _ h=>h) e)
    |qe id =>
     cases ex with
     |exit j =>
      simp only[mI] at e;split at e
      ·rename_i hj;refine ve (fun Q α S h=>?_) e;show (match Nat.beq j id with|true=>jO P w0 rd n Q K .normal α S|false=>jO P w0 rd n Q K (.exit j) α S);rw[hj];exact h
      ·rename_i hj;refine ve (fun Q α S h=>?_) e;show (match Nat.beq j id with|true=>jO P w0 rd n Q K .normal α S|false=>jO P w0 rd n Q K (.exit j) α S);rw[hj];exact h
     |_=>simp only[mI] at e;exact ve (by exact fun _ _ _ h=>h) e
    |yN =>
     cases ex with
     |goto l=>cases e
     |_=>simp only[mI] at e;exact ve (by exact fun _ _ _ h=>h) e
  |aN dr l K =>
   cases dr with
   |true=>cases l<;>cases e
   |false =>
    cases l with
    |nil=>exact ve (fun _ _ _=>cu.fin) e
    |cons i l =>
     simp only[mI] at e;split at e
     ·rename_i hw;split at e
      ·rename_i r1 s1 ho;injection e with e1 e2 e3;subst e1 e2 e3;obtain⟨p1,p2⟩:=GJ hE hs (df:=t.ds) ho;refine⟨p2,fun J J' hc Q hQ=>?_⟩;refine cu.op (α:=cI t) hw (p1 J J' hc) ?_;unfold cI;rw[tK];exact hQ
      ·grind
     ·rename_i hw;injection e with e1 e2 e3;subst e1 e2 e3;refine⟨.refl _,fun J J' hc Q hQ=>?_⟩;obtain rfl:=hc.same rfl;refine cu.no (α:=cI t) hw ?_;unfold cI;rw[tK];exact hQ
     ·grind
  |dN B V lg rs l K =>
   cases l with
   |nil =>
    simp only[mI] at e;split at e
    ·rename_i hc;exact ve (fun _ _ _=>cu.ahX hc) e
    ·grind
   |cons i l =>
    simp only[mI] at e;split at e
    ·rename_i hw;split at e
     ·rename_i r1 ns VU s1 ho;split at e
      ·rename_i hx;injection e with e1 e2 e3;subst e1 e2 e3;have ho:VS E rc (Ff i.d l) i.q (e_ t.t) s rs=some (r1,ns,VU,s1):=by grind
       obtain⟨p1,p2,p3,p4⟩:=Qx hE hs (df:=t.ds) ho;refine⟨p3,fun J J' hc Q hQ=>?_⟩;obtain rfl:=hc.same p4;intro mL hB;obtain⟨d,rfl,k2,k3⟩:=p1 J' B mL;have e5:cI ⟨xf i.d t.t r1,t.ds⟩=bC i.d (cI t) r1:=by grind[cI,tK]
       rw[k3,e5] at hQ;exact cu.iJ (α:=cI t) hw hx k2 (fun _ VK=>hQ (fun k hk=>mL k (p2 k hk)) VK) mL hB
      ·grind
     ·split at e
      ·grind
      ·rename_i hx;split at e
       ·rename_i r1 s1 ho;injection e with e1 e2 e3;subst e1 e2 e3;obtain⟨p1,p2⟩:=GJ hE hs (df:=t.ds) ho;have p3:eC s ⟨s1.m,s1.nx,Nat.min s.lw s1.lw,s1.yk,s1.an,s1.lg⟩:=⟨Nat.min_le_left _ _,p2.nx,p2.yk,p2.lg,fun k hk=>p2.ao k (Nat.lt_of_lt_of_le hk (Nat.min_le_right _ _))⟩;refine⟨p3,fun J J' hc Q hQ=>?_⟩;have e5:cI ⟨xf i.d t.t r1,t.ds⟩=bC i.d (cI t) r1:=by grind[cI,tK]
        rw[e5] at hQ;exact cu.xop (α:=cI t) (S':=den J' s1) (lw:=(JH s s1,VT s s1)) hw hx p2.nx (fun k hk=>aaR (s0:=⟨s.m,s.nx,s.nx,s.yk,s.an,s.lg⟩) (s:=s) p2 hc rfl rfl rfl rfl hk) (p1 J J' hc) hQ
       ·grind
    ·rename_i hw;injection e with e1 e2 e3;subst e1 e2 e3;refine⟨.refl _,fun J J' hc Q hQ=>?_⟩;obtain rfl:=hc.same rfl;have e5:cI ⟨xf i.d t.t (.v undef),t.ds⟩=bC i.d (cI t) (.v undef):=by grind[cI,tK]
     rw[e5] at hQ;exact cu.dno (α:=cI t) hw hQ
    ·grind
 ·cases c with
  |out D0 K =>
   cases K with
   |nil =>
    injection e with e1 e2 e3;subst e1 e2 e3;refine⟨.refl _,fun J J' hc Q hQ=>?_⟩;obtain rfl:=hc.same rfl;exact hQ
   |cons it K =>
    cases it<;>cases D0<;>simp only[mI] at e<;>(repeat' split at e)<;>cases e
  |run c K =>
   cases c with
   |aN dr l=>cases dr<;>cases e
   |_ =>
    simp only[mI] at e
    repeat' split at e
    all_goals cases e
  |aN dr l K =>
   cases dr with
   |true=>cases l<;>cases e
   |false =>
    cases l with
    |nil=>cases e
    |cons i l =>
     simp only[mI] at e
     repeat' split at e
     all_goals cases e
  |dN B V lg rs l K =>
   cases l with
   |nil =>
    simp only[mI] at e
    repeat' split at e
    all_goals cases e
   |cons i l =>
    simp only[mI] at e
    repeat' split at e
    all_goals cases e
theorem D6 (hE:jj P w0 E):∀ m,sj P w0 (N5 E m)
 |0=>fun rd n c t s ex t' s' h=>by cases h
 |m+1=>fun rd n c t s ex t' s' h=>((Xs hE (D6 hE m) rd n).it 14).2 c t s ex t' s' h
theorem ah.emp {g:Nat}{ex:Bool}{r:AV}(h:∀ A c,ah P w0 g [.v (.slice A 0 c)] r):ah P w0 g [.sl ex []] r:=by
 have hp:∀ A c,∀ a ∈ [AV.v (.slice A 0 c)],Pure a:=fun A c a ha=>by
  simp only[List.mem_singleton] at ha;subst ha;exact .v
 refine⟨(h none 0).1,ae.none_,((h none 0).CL (hp _ _) ae.none_).1,fun F m A g args' w hF hS hA=>?_⟩;have bS:args'.size=1:=hA.1;obtain⟨v,rfl⟩:∃ v,args'=#[v]:=by
  obtain⟨l⟩:=args'
  match l,bS with
  |[x],_=>exact⟨x,rfl⟩
 have hr:=hA.2 0 _ v rfl rfl;obtain⟨B,c,e,_,_⟩:=om hr;subst e;refine ((h B c).CL (hp _ _) ae.none_).2 F m A g _ w hF hS ⟨rfl,fun i a x ha hx=>?_⟩
 match i,ha,hx with
 |0,ha,hx =>
  obtain rfl:=oJ_ ha;obtain rfl:=oJ_ hx;exact .v
theorem Env.Ep (hE:jj P w0 E) (m:Nat) {g:Nat}{aZ9:List AV}(h:JE E (N5 E m) g aZ9=some r):ah P w0 g aZ9 r:=(vd hE (D6 hE m) h).1
end
end Go.Proofs.YtbpabjmnhggajaaGreat
