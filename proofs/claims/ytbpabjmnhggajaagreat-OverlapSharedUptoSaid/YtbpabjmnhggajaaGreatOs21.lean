import Derived.Test.YtbpabjmnhggajaaGreatOs20
namespace Go.Proofs.YtbpabjmnhggajaaGreat
set_option linter.unusedVariables false
set_option linter.unusedSimpArgs false
open Go.RowKit
section
set_option maxRecDepth 100000
attribute [local irreducible] ah aC af ad
def He:FQ 188 Tryz.f188:=a_ Tryz.func188 Tryz.call188
def jf:List Nat:=[4,0,24,2,6,1,22,25,46,67,77,93]
def acC:FQ 128 Tryz.f128:=a_ Tryz.func128 Tryz.call128
def tA:List Nat:=[10,1,6,9,11,0,7,2,20]
mutual
def bh:Tm->Int->Int->Bool × Int
 |⟨k,i,n,a⟩,d,c=>if c - 1 < 0\/d < 1 then (false,c - 1) else if k=0 then (decide (-2147483648<=i) && decide (i<=2147483648) && vu n a,c - 1) else if k=1 then (decide (0<=i) && decide (i<=1048576) && vu n a,c - 1)
  else if k=2 then (if i ≠ 0\/(a.length:Int) > 6 then (false,c - 1) else if qO n || (eL n && a.length == 2) then cD a (d - 1) (c - 1) else (false,c - 1)) else (false,c - 1)
def cD:List Tm->Int->Int->Bool × Int
 |[],d,c=>(true,c)
 |x::l,d,c=>if (bh x d c).1 then cD l d (bh x d c).2 else (false,(bh x d c).2)
end
theorem m8 {N:Nat}{l:List (Nat × Ob)}(h:l.all (fun p=>Nat.blt p.1 N)=true):∀ k o,dL l k=some o->k < N:=fun k o hk=>by
 have:=List.all_eq_true.1 h _ (fg hk);exact dM this
theorem qw {N d:Nat}{f:Nat->Option Ob}{a:Option Ob}(h:∀ k o,f k=some o->k < N) (hd:Nat.blt d N=true):∀ k o,a7 f d a k=some o->k < N:=fun k o hk=>by grind[dM,aD]
def fT (c:Int):Ob:=.arr 1 [[iv c]] 0 true
theorem iS (c:Int):∀ row ∈ [[iv c]],∀ a ∈ row,Pure a:=fun row hr a ha=>by
 obtain rfl:=List.mem_singleton.1 hr;obtain rfl:=List.mem_singleton.1 ha;exact .v
theorem kf {B:Nat}(c:Int):fR B (fT c):=eG (row:=[iv c]) (by intro a ha;obtain rfl:=List.mem_singleton.1 ha;exact .v)
section
variable {w0:World}{ρ:Hd}
theorem vW {a:List Tm}(d:Int) (ih:∀ x ∈ a,∀ c,0<=c->c<=200->(0<=(bh x d c).2\/(bh x d c).1=false)/\(bh x d c).2<=c/\aC Tryz.prog w0 188 [.pt 0 1 0 0,tm ρ x,iv d] (aq [(0,fT c)] 1) (.v (.bool (bh x d c).1)) (aq [(0,fT (bh x d c).2)] 1))
  (hl:a.length<=1099511627776) (c:Int) (hc:0<=c) (c_:c<=200) :
  aC Tryz.prog w0 128 [.pt 0 1 0 0,tl ρ a,iv d] (aq [(0,fT c)] 1) (.v (.bool (cD a d c).1)) (aq [(0,fT (cD a d c).2)] 1):=by
 obtain⟨R,hR⟩:∃ R,R=cD a d c:=⟨_,rfl⟩;rw[<-hR];refine sc 1 1 acC ?_;refine gq tA ?_
 repeat' (first
  |refine lg tA fun m hm=>?_
  )
 refine ad.bu (σ:=Int × Int) 1 1 [] (fun p=>[(0,.pt 0 1 0 0),(1,tl ρ a),(2,iv d),(9,.v (.int .i64 m)),(10,.v (.int .i64 p.1))]) [] (fun p=>[(0,fT p.2)])
  (fun p=>∃ k:Nat,p.1=k/\k<=a.length/\0<=p.2/\p.2<=200/\R=cD (a.drop k) d p.2) (fun p=>a.length - p.1.toNat) (0,c) ⟨0,rfl,by simp,hc,c_,hR⟩ rfl
  ⟨⟨.ao rfl (.pt (by decide)),.ao rfl (Pure.aV (aS _)),.ao rfl .v,.ao rfl .v,.ao rfl .v,trivial⟩,rfl,⟨.inl ⟨_,rfl,.same (kf _)⟩,trivial⟩,rfl,rfl,rfl⟩ ?_
 rintro⟨i,c⟩ ⟨k,hi,hk,h0,h1,hp⟩;simp only at hi h0 h1 hp;refine gq tA ?_;by_cases aA:k < a.length
 ·obtain⟨y,hy,px⟩:=bf aA;rw[px,cD] at hp;obtain⟨e1,e2,bH⟩:=ih y (eU hy) c h0 h1;obtain⟨⟨b,c1⟩,nK⟩:∃ p,p=bh y d c:=⟨_,rfl⟩;rw[<-nK] at e1 e2 bH hp;simp only at e1 e2 bH hp
  repeat' (first
   |refine og tA (af.ind rfl rfl (fm (l:=a) hi hy) fp) ?_
   |(refine bg tA (af.po (m:=[(0,0)]) (to:=[(0,some (fT c1))]) bH rfl ⟨Rn.pt rfl rfl,Rn.pure (aT _),Rn.pure .v,trivial⟩ (Rb.pure .v) rfl rfl ⟨⟨_,rfl,kP.pure (iS _)⟩,trivial⟩ ⟨⟨0,_,rfl,rfl,lK.pure (iS _)⟩,trivial⟩ rfl (m8 rfl) (.inr rfl)) (fun hb=>?_) fun hb=>?_)
   |refine cg tA (fun hb=>?_) fun hb=>?_
   |refine ag tA fun _ _=>?_
   |refine ad.aH ?_;refine gq tA ?_
   |refine ad.cP ?_;refine gq tA ?_
   |(refine fq ?_))
  all_goals first
   |(have e:R=(false,c1):=by rw[hp,hb];rfl
     rw[e];exact⟨[],.ao .v,⟨.inl ⟨_,rfl,.same (kf _)⟩,trivial⟩,rfl⟩)
   |(have e:R=cD (a.drop (k+1)) d c1:=by rw[hp,if_pos hb]
     have e3:0<=c1:=e1.resolve_right (by rw[hb];simp);refine ad.aO (σ:=Int × Int) (_,c1) [] ?_ ?_ ⟨⟨.ao rfl (.pt (by decide)),.ao rfl (Pure.aV (aS _)),.ao rfl .v,.ao rfl .v,.ao rfl .v,trivial⟩,rfl,⟨.inl ⟨_,rfl,.same (kf _)⟩,trivial⟩,rfl,rfl,rfl⟩
     ·exact⟨k+1,by simp only;omega,by omega,e3,by simp only;omega,e⟩
     ·simp only;omega)
   |exfalso;omega
 ·skip
  repeat' (first
   |refine cg tA (fun hb=>?_) fun hb=>?_
   |refine ad.aH ?_;refine gq tA ?_
   |(refine fq ?_))
  all_goals first
   |exfalso;omega
   |(rw[List.drop_eq_nil_of_le (by omega),cD] at hp
     rw[hp];exact⟨[],.ao .v,⟨.inl ⟨_,rfl,.same (kf _)⟩,trivial⟩,rfl⟩)
theorem Da:∀ (l:List Tm) (d:Int) (h:∀ x ∈ l,∀ c,0<=c->(0<=(bh x d c).2\/(bh x d c).1=false)/\(bh x d c).2<=c) (c:Int),0<=c->(0<=(cD l d c).2\/(cD l d c).1=false)/\(cD l d c).2<=c
 |[],d,h,c,hc=>by grind[cD]
 |x::l,d,h,c,hc=>by
  obtain⟨h1,h2⟩:=h x (by simp) c hc;rw[cD];split
  ·rename_i hv;have h3:=h1.resolve_right (by grind);obtain⟨h4,h5⟩:=Da l d (fun y hy=>h y (by grind)) _ h3;exact⟨h4,by omega⟩
  ·grind
theorem gI (x:Tm):∀ (d c:Int),0<=c->(0<=(bh x d c).2\/(bh x d c).1=false)/\(bh x d c).2<=c:=by
 refine Tm.ind (p:=fun x=>∀ (d c:Int),0<=c->(0<=(bh x d c).2\/(bh x d c).1=false)/\(bh x d c).2<=c) ?_ x;intro k i n a ih d c hc;rw[bh];have hs:=Da a (d - 1) (fun y hy c hc=>ih y hy (d - 1) c hc) (c - 1)
 (repeat' split)<;>first
  |exact⟨.inr rfl,by grind⟩
  |exact⟨.inl (by grind),by grind⟩
  |obtain⟨h1,h2⟩:=hs (by omega);exact⟨h1,by omega⟩
theorem WL (oY:∀ s:ByteArray,ah Tryz.prog w0 230 [.v (.string s)] (.v (.bool (eL s)))) (k i:Int) (n:ByteArray) (a:List Tm) (ih:∀ x ∈ a,∀ (d c:Int),x.ok->0<=c->c<=200->-1000<=d->d<=1000->aC Tryz.prog w0 188 [.pt 0 1 0 0,tm ρ x,iv d] (aq [(0,fT c)] 1) (.v (.bool (bh x d c).1)) (aq [(0,fT (bh x d c).2)] 1))
  (d c:Int) (hx:(Tm.mk k i n a).ok) (hc:0<=c) (c_:c<=200) (eQ:-1000<=d) (jq:d<=1000) (hk:k=0):aC Tryz.prog w0 188 [.pt 0 1 0 0,tm ρ ⟨k,i,n,a⟩,iv d] (aq [(0,fT c)] 1) (.v (.bool (bh ⟨k,i,n,a⟩ d c).1)) (aq [(0,fT (bh ⟨k,i,n,a⟩ d c).2)] 1):=by
 subst hk;obtain⟨ia,kN,mY⟩:=hx.out;dsimp only at ia kN mY;have hE:a.isEmpty=decide ((a.length:Int)=0):=by
  cases a with
  |nil=>rfl
  |cons x l=>simp;omega
 have hL:(a.length == 2)=decide ((a.length:Int)=2):=by rw[Bool.eq_iff_iff];simp;omega
 obtain⟨R,hR⟩:∃ R,R=bh ⟨0,i,n,a⟩ d c:=⟨_,rfl⟩;rw[<-hR];rw[bh,vu,hE,hL] at hR;have hA:∀ dd,dd=d - 1->0<=c - 1->1<=d->aC Tryz.prog w0 128 [.pt 0 1 0 0,tl ρ a,iv dd] (aq [(0,fT (c - 1))] 1) (.v (.bool (cD a (d - 1) (c - 1)).1)) (aq [(0,fT (cD a (d - 1) (c - 1)).2)] 1):=fun dd H7 h1 h2=>by
  subst H7;exact vW (d - 1) (fun y hy c' h0 h1=>⟨(gI y _ _ h0).1,(gI y _ _ h0).2,ih y hy _ _ (mY.mem y hy) h0 h1 (by omega) (by omega)⟩) ia (c - 1) h1 (by omega)
 obtain⟨⟨b1,c1⟩,nK⟩:∃ p,p=cD a (d - 1) (c - 1):=⟨_,rfl⟩;rw[<-nK] at hA hR;simp only at hA;obtain⟨ce,zb⟩:∃ ce,ce=c - 1:=⟨_,rfl⟩;rw[<-zb] at hA hR;clear ih nK;refine sc 1 1 He ?_;refine gq jf ?_;refine ad.int rfl (af.wJ (c:=c - 1) rfl rfl rfl (by omega) (by omega)) fun e he=>?_;rw[<-zb] at he;subst he;refine gq jf ?_
 repeat' (first
  |exact absurd hb (by decide)
  |refine cg jf (fun hb=>?_) fun hb=>?_
  |refine lg jf fun m hm=>?_
  |(refine fq ?_))
 all_goals (clear oY hA hx ia kN mY hE hL)
 all_goals first
  |(have e':R=(false,e):=by
      rw[hR]
      first
       |rw[if_pos (by omega)]
       |rw[if_neg (by omega),if_pos rfl];refine Prod.ext ?_ rfl;simp_all<;>(intros;omega)
    rw[e'];exact⟨[],.ao .v,⟨.inl ⟨_,rfl,.same (kf _)⟩,trivial⟩,rfl⟩)
  |(have e':R=(true,e):=by
      rw[hR,if_neg (by omega),if_pos rfl];refine Prod.ext ?_ rfl;simp_all<;>(intros;omega)
    rw[e'];exact⟨[],.ao .v,⟨.inl ⟨_,rfl,.same (kf _)⟩,trivial⟩,rfl⟩)
theorem WM (oY:∀ s:ByteArray,ah Tryz.prog w0 230 [.v (.string s)] (.v (.bool (eL s)))) (k i:Int) (n:ByteArray) (a:List Tm) (ih:∀ x ∈ a,∀ (d c:Int),x.ok->0<=c->c<=200->-1000<=d->d<=1000->aC Tryz.prog w0 188 [.pt 0 1 0 0,tm ρ x,iv d] (aq [(0,fT c)] 1) (.v (.bool (bh x d c).1)) (aq [(0,fT (bh x d c).2)] 1))
  (d c:Int) (hx:(Tm.mk k i n a).ok) (hc:0<=c) (c_:c<=200) (eQ:-1000<=d) (jq:d<=1000) (hk:k=1):aC Tryz.prog w0 188 [.pt 0 1 0 0,tm ρ ⟨k,i,n,a⟩,iv d] (aq [(0,fT c)] 1) (.v (.bool (bh ⟨k,i,n,a⟩ d c).1)) (aq [(0,fT (bh ⟨k,i,n,a⟩ d c).2)] 1):=by
 subst hk;obtain⟨ia,kN,mY⟩:=hx.out;dsimp only at ia kN mY;have hE:a.isEmpty=decide ((a.length:Int)=0):=by
  cases a with
  |nil=>rfl
  |cons x l=>simp;omega
 have hL:(a.length == 2)=decide ((a.length:Int)=2):=by rw[Bool.eq_iff_iff];simp;omega
 obtain⟨R,hR⟩:∃ R,R=bh ⟨1,i,n,a⟩ d c:=⟨_,rfl⟩;rw[<-hR];rw[bh,vu,hE,hL] at hR;have hA:∀ dd,dd=d - 1->0<=c - 1->1<=d->aC Tryz.prog w0 128 [.pt 0 1 0 0,tl ρ a,iv dd] (aq [(0,fT (c - 1))] 1) (.v (.bool (cD a (d - 1) (c - 1)).1)) (aq [(0,fT (cD a (d - 1) (c - 1)).2)] 1):=fun dd H7 h1 h2=>by
  subst H7;exact vW (d - 1) (fun y hy c' h0 h1=>⟨(gI y _ _ h0).1,(gI y _ _ h0).2,ih y hy _ _ (mY.mem y hy) h0 h1 (by omega) (by omega)⟩) ia (c - 1) h1 (by omega)
 obtain⟨⟨b1,c1⟩,nK⟩:∃ p,p=cD a (d - 1) (c - 1):=⟨_,rfl⟩;rw[<-nK] at hA hR;simp only at hA;obtain⟨ce,zb⟩:∃ ce,ce=c - 1:=⟨_,rfl⟩;rw[<-zb] at hA hR;clear ih nK;refine sc 1 1 He ?_;refine gq jf ?_;refine ad.int rfl (af.wJ (c:=c - 1) rfl rfl rfl (by omega) (by omega)) fun e he=>?_;rw[<-zb] at he;subst he;refine gq jf ?_
 repeat' (first
  |exact absurd hb (by decide)
  |refine cg jf (fun hb=>?_) fun hb=>?_
  |refine lg jf fun m hm=>?_
  |(refine fq ?_))
 all_goals (clear oY hA hx ia kN mY hE hL)
 all_goals first
  |(have e':R=(false,e):=by
      rw[hR]
      first
       |rw[if_pos (by omega)]
       |rw[if_neg (by omega),if_neg (by decide),if_pos rfl];refine Prod.ext ?_ rfl;simp_all<;>(intros;omega)
    rw[e'];exact⟨[],.ao .v,⟨.inl ⟨_,rfl,.same (kf _)⟩,trivial⟩,rfl⟩)
  |(have e':R=(true,e):=by
      rw[hR,if_neg (by omega),if_neg (by decide),if_pos rfl];refine Prod.ext ?_ rfl;simp_all<;>(intros;omega)
    rw[e'];exact⟨[],.ao .v,⟨.inl ⟨_,rfl,.same (kf _)⟩,trivial⟩,rfl⟩)
theorem WN (oY:∀ s:ByteArray,ah Tryz.prog w0 230 [.v (.string s)] (.v (.bool (eL s)))) (k i:Int) (n:ByteArray) (a:List Tm) (ih:∀ x ∈ a,∀ (d c:Int),x.ok->0<=c->c<=200->-1000<=d->d<=1000->aC Tryz.prog w0 188 [.pt 0 1 0 0,tm ρ x,iv d] (aq [(0,fT c)] 1) (.v (.bool (bh x d c).1)) (aq [(0,fT (bh x d c).2)] 1))
  (d c:Int) (hx:(Tm.mk k i n a).ok) (hc:0<=c) (c_:c<=200) (eQ:-1000<=d) (jq:d<=1000) (hk:k=2):aC Tryz.prog w0 188 [.pt 0 1 0 0,tm ρ ⟨k,i,n,a⟩,iv d] (aq [(0,fT c)] 1) (.v (.bool (bh ⟨k,i,n,a⟩ d c).1)) (aq [(0,fT (bh ⟨k,i,n,a⟩ d c).2)] 1):=by
 subst hk;obtain⟨ia,kN,mY⟩:=hx.out;dsimp only at ia kN mY;have hE:a.isEmpty=decide ((a.length:Int)=0):=by
  cases a with
  |nil=>rfl
  |cons x l=>simp;omega
 have hL:(a.length == 2)=decide ((a.length:Int)=2):=by rw[Bool.eq_iff_iff];simp;omega
 obtain⟨R,hR⟩:∃ R,R=bh ⟨2,i,n,a⟩ d c:=⟨_,rfl⟩;rw[<-hR];rw[bh,vu,hE,hL] at hR;have hA:∀ dd,dd=d - 1->0<=c - 1->1<=d->aC Tryz.prog w0 128 [.pt 0 1 0 0,tl ρ a,iv dd] (aq [(0,fT (c - 1))] 1) (.v (.bool (cD a (d - 1) (c - 1)).1)) (aq [(0,fT (cD a (d - 1) (c - 1)).2)] 1):=fun dd H7 h1 h2=>by
  subst H7;exact vW (d - 1) (fun y hy c' h0 h1=>⟨(gI y _ _ h0).1,(gI y _ _ h0).2,ih y hy _ _ (mY.mem y hy) h0 h1 (by omega) (by omega)⟩) ia (c - 1) h1 (by omega)
 obtain⟨⟨b1,c1⟩,nK⟩:∃ p,p=cD a (d - 1) (c - 1):=⟨_,rfl⟩;rw[<-nK] at hA hR;simp only at hA;obtain⟨ce,zb⟩:∃ ce,ce=c - 1:=⟨_,rfl⟩;rw[<-zb] at hA hR;clear ih nK;refine sc 1 1 He ?_;refine gq jf ?_;refine ad.int rfl (af.wJ (c:=c - 1) rfl rfl rfl (by omega) (by omega)) fun e he=>?_;rw[<-zb] at he;subst he;refine gq jf ?_
 repeat' (first
  |refine bg jf (af.aw rfl (vS _ kN) ⟨.v,trivial⟩) (fun _=>?_) fun _=>?_
  |refine bg jf (af.aw rfl (oY _) ⟨.v,trivial⟩) (fun _=>?_) fun _=>?_
  |(refine bg jf (af.po (m:=[(0,0)]) (to:=[(0,some (fT c1))]) (hA _ (by assumption) (by omega) (by omega)) rfl ⟨Rn.pt rfl rfl,Rn.pure (aS _),Rn.pure .v,trivial⟩ (Rb.pure .v) rfl rfl ⟨⟨_,rfl,kP.pure (iS _)⟩,trivial⟩ ⟨⟨0,_,rfl,rfl,lK.pure (iS _)⟩,trivial⟩ rfl (by repeat (first|exact m8 rfl|refine qw ?_ rfl)) (.inr rfl)) (fun hb=>?_) fun hb=>?_)
  |exact absurd hb (by decide)
  |refine cg jf (fun hb=>?_) fun hb=>?_
  |refine lg jf fun m hm=>?_
  |refine ag jf fun _ _=>?_
  |(refine fq ?_))
 all_goals (clear oY hA hx ia kN mY hE hL)
 all_goals rw[if_neg (by decide:¬ (2:Int)=0),if_neg (by decide:¬ (2:Int)=1),if_pos rfl] at hR
 all_goals first
  |(have e':R=(false,e):=by
      rw[hR]
      first
       |rw[if_pos (by omega)]
       |rw[if_neg (by omega),if_pos (by omega)]
       |rw[if_neg (by omega),if_neg (by omega),if_neg (by grind)]
    rw[e'];exact⟨[],.ao .v,⟨.inl ⟨_,rfl,.same (kf _)⟩,trivial⟩,rfl⟩)
  |(have e':R=(true,c1):=by
      rw[hR,if_neg (by omega),if_neg (by omega),if_pos (by grind),hb]
    rw[e'];exact⟨[],.ao .v,⟨.inl ⟨_,rfl,.same (kf _)⟩,trivial⟩,rfl⟩)
  |(have e':R=(false,c1):=by
      rw[hR,if_neg (by omega),if_neg (by omega),if_pos (by clear hR;simp_all),hb]
    rw[e'];exact⟨[],.ao .v,⟨.inl ⟨_,rfl,.same (kf _)⟩,trivial⟩,rfl⟩)
theorem WO (oY:∀ s:ByteArray,ah Tryz.prog w0 230 [.v (.string s)] (.v (.bool (eL s)))) (k i:Int) (n:ByteArray) (a:List Tm) (ih:∀ x ∈ a,∀ (d c:Int),x.ok->0<=c->c<=200->-1000<=d->d<=1000->aC Tryz.prog w0 188 [.pt 0 1 0 0,tm ρ x,iv d] (aq [(0,fT c)] 1) (.v (.bool (bh x d c).1)) (aq [(0,fT (bh x d c).2)] 1))
  (d c:Int) (hx:(Tm.mk k i n a).ok) (hc:0<=c) (c_:c<=200) (eQ:-1000<=d) (jq:d<=1000) (hk:¬ k=0/\¬ k=1/\¬ k=2):aC Tryz.prog w0 188 [.pt 0 1 0 0,tm ρ ⟨k,i,n,a⟩,iv d] (aq [(0,fT c)] 1) (.v (.bool (bh ⟨k,i,n,a⟩ d c).1)) (aq [(0,fT (bh ⟨k,i,n,a⟩ d c).2)] 1):=by
 obtain⟨hk0,dV,dP⟩:=hk;obtain⟨ia,kN,mY⟩:=hx.out;dsimp only at ia kN mY;have hE:a.isEmpty=decide ((a.length:Int)=0):=by
  cases a with
  |nil=>rfl
  |cons x l=>simp;omega
 have hL:(a.length == 2)=decide ((a.length:Int)=2):=by rw[Bool.eq_iff_iff];simp;omega
 obtain⟨R,hR⟩:∃ R,R=bh ⟨k,i,n,a⟩ d c:=⟨_,rfl⟩;rw[<-hR];rw[bh,vu,hE,hL] at hR;have hA:∀ dd,dd=d - 1->0<=c - 1->1<=d->aC Tryz.prog w0 128 [.pt 0 1 0 0,tl ρ a,iv dd] (aq [(0,fT (c - 1))] 1) (.v (.bool (cD a (d - 1) (c - 1)).1)) (aq [(0,fT (cD a (d - 1) (c - 1)).2)] 1):=fun dd H7 h1 h2=>by
  subst H7;exact vW (d - 1) (fun y hy c' h0 h1=>⟨(gI y _ _ h0).1,(gI y _ _ h0).2,ih y hy _ _ (mY.mem y hy) h0 h1 (by omega) (by omega)⟩) ia (c - 1) h1 (by omega)
 obtain⟨⟨b1,c1⟩,nK⟩:∃ p,p=cD a (d - 1) (c - 1):=⟨_,rfl⟩;rw[<-nK] at hA hR;simp only at hA;obtain⟨ce,zb⟩:∃ ce,ce=c - 1:=⟨_,rfl⟩;rw[<-zb] at hA hR;clear ih nK;refine sc 1 1 He ?_;refine gq jf ?_;refine ad.int rfl (af.wJ (c:=c - 1) rfl rfl rfl (by omega) (by omega)) fun e he=>?_;rw[<-zb] at he;subst he;refine gq jf ?_
 repeat' (first
  |refine bg jf (af.aw rfl (vS _ kN) ⟨.v,trivial⟩) (fun _=>?_) fun _=>?_
  |refine bg jf (af.aw rfl (oY _) ⟨.v,trivial⟩) (fun _=>?_) fun _=>?_
  |(refine bg jf (af.po (m:=[(0,0)]) (to:=[(0,some (fT c1))]) (hA _ (by assumption) (by omega) (by omega)) rfl ⟨Rn.pt rfl rfl,Rn.pure (aS _),Rn.pure .v,trivial⟩ (Rb.pure .v) rfl rfl ⟨⟨_,rfl,kP.pure (iS _)⟩,trivial⟩ ⟨⟨0,_,rfl,rfl,lK.pure (iS _)⟩,trivial⟩ rfl (by repeat (first|exact m8 rfl|refine qw ?_ rfl)) (.inr rfl)) (fun hb=>?_) fun hb=>?_)
  |refine cg jf (fun hb=>?_) fun hb=>?_
  |refine lg jf fun m hm=>?_
  |refine ag jf fun _ _=>?_
  |(refine fq ?_))
 all_goals (clear oY hA hx ia kN mY hE hL)
 all_goals first
  |exfalso;omega
  |(have e':R=(false,e):=by
      rw[hR,if_neg hk0,if_neg dV,if_neg dP,ite_self]
    rw[e'];exact⟨[],.ao .v,⟨.inl ⟨_,rfl,.same (kf _)⟩,trivial⟩,rfl⟩)
theorem EL (oY:∀ s:ByteArray,ah Tryz.prog w0 230 [.v (.string s)] (.v (.bool (eL s)))) (x:Tm):∀ (d c:Int),x.ok->0<=c->c<=200->-1000<=d->d<=1000 ->
  aC Tryz.prog w0 188 [.pt 0 1 0 0,tm ρ x,iv d] (aq [(0,fT c)] 1) (.v (.bool (bh x d c).1)) (aq [(0,fT (bh x d c).2)] 1):=by
 refine Tm.ind (p:=fun x=>∀ (d c:Int),x.ok->0<=c->c<=200->-1000<=d->d<=1000 ->
  aC Tryz.prog w0 188 [.pt 0 1 0 0,tm ρ x,iv d] (aq [(0,fT c)] 1) (.v (.bool (bh x d c).1)) (aq [(0,fT (bh x d c).2)] 1)) ?_ x
 intro k i n a ih d c hx hc c_ eQ jq;by_cases h0:k=0
 ·exact WL oY k i n a ih d c hx hc c_ eQ jq h0
 by_cases h1:k=1
 ·exact WM oY k i n a ih d c hx hc c_ eQ jq h1
 by_cases h2:k=2
 ·exact WN oY k i n a ih d c hx hc c_ eQ jq h2
 ·exact WO oY k i n a ih d c hx hc c_ eQ jq ⟨h0,h1,h2⟩
end
end
end Go.Proofs.YtbpabjmnhggajaaGreat
