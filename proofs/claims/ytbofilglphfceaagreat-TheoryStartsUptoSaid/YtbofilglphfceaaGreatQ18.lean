import Derived.Test.YtbofilglphfceaaGreatQ17
namespace Go.Proofs.YtbofilglphfceaaGreat
set_option linter.unusedVariables false
set_option linter.unusedSimpArgs false
open Go.RowKit
section
set_option maxRecDepth 100000
attribute [local irreducible] ah bc ad ab
def N8:CF Tryz.f193:=⟨_,by conv=>lhs;cbv⟩
theorem Bq:aH Tryz.prog 193 N8.1 Tryz.f193.ntmps:=aQ Tryz.func193 N8.2 Tryz.call193
def gI:List Nat:=[4,0,24,2,6,1,22,25,46,67,77,93]
def N9:CF Tryz.f192:=⟨_,by conv=>lhs;cbv⟩
theorem W5:aH Tryz.prog 192 N9.1 Tryz.f192.ntmps:=aQ Tryz.func192 N9.2 Tryz.call192
def pX:List Nat:=[10,1,6,9,11,0,7,2,20]
mutual
def bp:Tm->Int->Int->Bool × Int
 |⟨k,i,n,a⟩,d,c=>if c - 1 < 0\/d < 1 then (false,c - 1) else if k=0 then (decide (-2147483648<=i) && decide (i<=2147483648) && rS n a,c - 1) else if k=1 then (decide (0<=i) && decide (i<=1048576) && rS n a,c - 1)
  else if k=2 then (if i ≠ 0\/(a.length:Int) > 6 then (false,c - 1) else if gk n || (gm n && a.length == 2) then cw a (d - 1) (c - 1) else (false,c - 1)) else (false,c - 1)
def cw:List Tm->Int->Int->Bool × Int
 |[],d,c=>(true,c)
 |x::l,d,c=>if (bp x d c).1 then cw l d (bp x d c).2 else (false,(bp x d c).2)
end
theorem ep {N:Nat}{l:List (Nat × Ob)}(h:l.all (fun p=>Nat.blt p.1 N)=true):∀ k o,ix l k=some o->k < N:=fun k o hk=>by
 have:=List.all_eq_true.1 h _ (iR hk)
 exact dR this
theorem jt {N d:Nat}{f:Nat->Option Ob}{a:Option Ob}(h:∀ k o,f k=some o->k < N) (hd:Nat.blt d N=true):∀ k o,bO f d a k=some o->k < N:=fun k o hk=>by
 by_cases e:k=d
 ·subst e;exact dR hd
 ·rw [aK _ _ e] at hk;exact h k o hk
def eQ (c:Int):Ob:=.arr 1 [[iv c]] 0 true
theorem gz (c:Int):∀ row ∈ [[iv c]],∀ a ∈ row,Pure a:=fun row hr a ha=>by
 obtain rfl:=List.mem_singleton.1 hr
 obtain rfl:=List.mem_singleton.1 ha
 exact .v
theorem iL {B:Nat}(c:Int):oy B (eQ c):=zy (row:=[iv c]) (by intro a ha;obtain rfl:=List.mem_singleton.1 ha;exact .v)
section
variable {w0:World}{ρ:Hd}
theorem sj {a:List Tm}(d:Int) (ih:∀ x ∈ a,∀ c,0<=c->c<=200->(0<=(bp x d c).2\/(bp x d c).1=false)/\(bp x d c).2<=c/\bc Tryz.prog w0 193 [.pt 0 1 0 0,tm ρ x,iv d] (aM [(0,eQ c)] 1) (.v (.bool (bp x d c).1)) (aM [(0,eQ (bp x d c).2)] 1))
  (hl:a.length<=1099511627776) (c:Int) (hc:0<=c) (ga:c<=200) :
  bc Tryz.prog w0 192 [.pt 0 1 0 0,tl ρ a,iv d] (aM [(0,eQ c)] 1) (.v (.bool (cw a d c).1)) (aM [(0,eQ (cw a d c).2)] 1):=by
 obtain⟨R,hR⟩:∃ R,R=cw a d c:=⟨_,rfl⟩
 rw [<-hR]
 refine aH.jM 1 1 _ W5 (by simp [Tryz.ntmps192]) rfl rfl ?_
 refine gq pX ?_
 repeat' (first
  |(refine aB fun m hm=>?_;(try rw [af] at hm);refine gq pX ?_)
  )
 refine ab.aP (σ:=Int × Int) 1 1 [] (fun p=>[(0,.pt 0 1 0 0),(1,tl ρ a),(2,iv d),(9,.v (.int .i64 m)),(10,.v (.int .i64 p.1))]) [] (fun p=>[(0,eQ p.2)])
  (fun p=>∃ k:Nat,p.1=k/\k<=a.length/\0<=p.2/\p.2<=200/\R=cw (a.drop k) d p.2) (fun p=>a.length - p.1.toNat) (0,c) ⟨0,rfl,by simp,hc,ga,hR⟩ rfl
  ⟨⟨.aD rfl (.pt (by decide)),.aD rfl (Pure.b_ (bC _)),.aD rfl .v,.aD rfl .v,.aD rfl .v,trivial⟩,rfl,⟨.inl ⟨_,rfl,.same (iL _)⟩,trivial⟩,rfl,rfl,rfl⟩ ?_
 rintro⟨i,c⟩ ⟨k,hi,hk,h0,h1,hp⟩
 simp only at hi h0 h1 hp
 refine gq pX ?_
 by_cases au:k < a.length
 ·obtain⟨y,hy,cP⟩:=az au
  rw [cP,cw] at hp
  obtain⟨e1,e2,bI⟩:=ih y (aY hy) c h0 h1
  obtain⟨⟨b,c1⟩,lB⟩:∃ p,p=bp y d c:=⟨_,rfl⟩
  rw [<-lB] at e1 e2 bI hp
  simp only at e1 e2 bI hp
  repeat' (first
   |(refine ab.op rfl (ad.ind rfl rfl (ft (l:=a) hi hy) fu) ?_;refine gq pX ?_)
   |((refine ab.a_ rfl (ad.iS (m:=[(0,0)]) (to:=[(0,some (eQ c1))]) bI rfl ⟨Rn.pt rfl rfl,Rn.pure (ba _),Rn.pure .v,trivial⟩ (Rb.pure .v) rfl rfl ⟨⟨_,rfl,hO.pure (gz _)⟩,trivial⟩ ⟨⟨0,_,rfl,rfl,iD.pure (gz _)⟩,trivial⟩ rfl (ep rfl) (.inr rfl)) (fun hb=>?_) (fun hb=>?_)<;>refine gq pX ?_))
   |(refine bq (fun hb=>?_) (fun hb=>?_)<;>(try simp only [aq] at hb)<;>(first|refine gq pX ?_))
   |(refine aS fun _ _=>?_;refine gq pX ?_)
   |(refine ab.ao ?_;refine gq pX ?_)
   |(refine ab.bJ ?_;refine gq pX ?_)
   |(refine fq ?_))
  all_goals first
   |(have e:R=(false,c1):=by rw [hp,hb];rfl
     rw [e]
     exact⟨[],.aD .v,⟨.inl ⟨_,rfl,.same (iL _)⟩,trivial⟩,rfl⟩)
   |(have e:R=cw (a.drop (k+1)) d c1:=by rw [hp,if_pos hb]
     have e3:0<=c1:=e1.resolve_right (by rw [hb];simp)
     refine ab.aL (σ:=Int × Int) (_,c1) [] ?_ ?_ ⟨⟨.aD rfl (.pt (by decide)),.aD rfl (Pure.b_ (bC _)),.aD rfl .v,.aD rfl .v,.aD rfl .v,trivial⟩,rfl,⟨.inl ⟨_,rfl,.same (iL _)⟩,trivial⟩,rfl,rfl,rfl⟩
     ·exact⟨k+1,by simp only;omega,by omega,e3,by simp only;omega,e⟩
     ·simp only;omega)
   |(exfalso;omega)
 ·skip
  repeat' (first
   |(refine bq (fun hb=>?_) (fun hb=>?_)<;>(try simp only [aq] at hb)<;>(first|refine gq pX ?_))
   |(refine ab.ao ?_;refine gq pX ?_)
   |(refine fq ?_))
  all_goals first
   |(exfalso;omega)
   |(rw [List.drop_eq_nil_of_le (by omega),cw] at hp
     rw [hp]
     exact⟨[],.aD .v,⟨.inl ⟨_,rfl,.same (iL _)⟩,trivial⟩,rfl⟩)
theorem xX:∀ (l:List Tm) (d:Int) (h:∀ x ∈ l,∀ c,0<=c->(0<=(bp x d c).2\/(bp x d c).1=false)/\(bp x d c).2<=c) (c:Int),0<=c->(0<=(cw l d c).2\/(cw l d c).1=false)/\(cw l d c).2<=c
 |[],d,h,c,hc=>by rw [cw];exact⟨.inl hc,Int.le_refl _⟩
 |x::l,d,h,c,hc=>by
  obtain⟨h1,h2⟩:=h x (by simp) c hc
  rw [cw]
  split
  ·rename_i hv
   have h3:=h1.resolve_right (by rw [hv];simp)
   obtain⟨h4,h5⟩:=xX l d (fun y hy=>h y (by simp [hy])) _ h3
   exact⟨h4,by omega⟩
  ·exact⟨.inr rfl,h2⟩
theorem fc (x:Tm):∀ (d c:Int),0<=c->(0<=(bp x d c).2\/(bp x d c).1=false)/\(bp x d c).2<=c:=by
 refine Tm.ind (p:=fun x=>∀ (d c:Int),0<=c->(0<=(bp x d c).2\/(bp x d c).1=false)/\(bp x d c).2<=c) ?_ x
 intro k i n a ih d c hc
 rw [bp]
 have hs:=xX a (d - 1) (fun y hy c hc=>ih y hy (d - 1) c hc) (c - 1)
 (repeat' split)<;>first
  |exact⟨.inr rfl,by show c - 1<=c;omega⟩
  |exact⟨.inl (by show 0<=c - 1;omega),by show c - 1<=c;omega⟩
  |(obtain⟨h1,h2⟩:=hs (by omega);exact⟨h1,by omega⟩)
theorem QT (mq:∀ s:ByteArray,ah Tryz.prog w0 272 [.v (.string s)] (.v (.bool (gm s)))) (k i:Int) (n:ByteArray) (a:List Tm) (ih:∀ x ∈ a,∀ (d c:Int),x.ok->0<=c->c<=200->-1000<=d->d<=1000->bc Tryz.prog w0 193 [.pt 0 1 0 0,tm ρ x,iv d] (aM [(0,eQ c)] 1) (.v (.bool (bp x d c).1)) (aM [(0,eQ (bp x d c).2)] 1))
  (d c:Int) (hx:(Tm.mk k i n a).ok) (hc:0<=c) (ga:c<=200) (d_:-1000<=d) (eK:d<=1000) (hk:k=0):bc Tryz.prog w0 193 [.pt 0 1 0 0,tm ρ ⟨k,i,n,a⟩,iv d] (aM [(0,eQ c)] 1) (.v (.bool (bp ⟨k,i,n,a⟩ d c).1)) (aM [(0,eQ (bp ⟨k,i,n,a⟩ d c).2)] 1):=by
 subst hk
 obtain⟨cX,ey,eD⟩:=hx.out
 dsimp only at cX ey eD
 have hE:a.isEmpty=decide ((a.length:Int)=0):=by
  cases a with
  |nil=>rfl
  |cons x l=>simp;omega
 have hL:(a.length == 2)=decide ((a.length:Int)=2):=by rw [Bool.eq_iff_iff];simp;omega
 obtain⟨R,hR⟩:∃ R,R=bp ⟨0,i,n,a⟩ d c:=⟨_,rfl⟩
 rw [<-hR]
 rw [bp,rS,hE,hL] at hR
 have hA:∀ dd,dd=d - 1->0<=c - 1->1<=d->bc Tryz.prog w0 192 [.pt 0 1 0 0,tl ρ a,iv dd] (aM [(0,eQ (c - 1))] 1) (.v (.bool (cw a (d - 1) (c - 1)).1)) (aM [(0,eQ (cw a (d - 1) (c - 1)).2)] 1):=fun dd Cm h1 h2=>by
  subst Cm
  exact sj (d - 1) (fun y hy c' h0 h1=>⟨(fc y _ _ h0).1,(fc y _ _ h0).2,ih y hy _ _ (eD.mem y hy) h0 h1 (by omega) (by omega)⟩) cX (c - 1) h1 (by omega)
 obtain⟨⟨b1,c1⟩,lB⟩:∃ p,p=cw a (d - 1) (c - 1):=⟨_,rfl⟩
 rw [<-lB] at hA hR
 simp only at hA
 obtain⟨ce,uu⟩:∃ ce,ce=c - 1:=⟨_,rfl⟩
 rw [<-uu] at hA hR
 clear ih lB
 refine aH.jM 1 1 _ Bq (by simp [Tryz.ntmps193]) rfl rfl ?_
 refine gq gI ?_
 refine ab.int rfl (ad.xS (c:=c - 1) rfl rfl rfl (by omega) (by omega)) fun e he=>?_
 rw [<-uu] at he
 subst he
 refine gq gI ?_
 repeat' (first
  |(refine bq (fun hb=>?_) (fun hb=>?_)<;>(try simp only [aq] at hb)<;>(first|exact absurd hb (by decide)|refine gq gI ?_))
  |(refine aB fun m hm=>?_;(try rw [af] at hm);refine gq gI ?_)
  |(refine fq ?_))
 all_goals (clear mq hA hx cX ey eD hE hL)
 all_goals first
  |(have e':R=(false,e):=by
      rw [hR]
      first
       |rw [if_pos (by omega)]
       |(rw [if_neg (by omega),if_pos rfl];refine Prod.ext ?_ rfl;simp_all<;>(intros;omega))
    rw [e']
    exact⟨[],.aD .v,⟨.inl ⟨_,rfl,.same (iL _)⟩,trivial⟩,rfl⟩)
  |(have e':R=(true,e):=by
      rw [hR,if_neg (by omega),if_pos rfl]
      refine Prod.ext ?_ rfl
      simp_all<;>(intros;omega)
    rw [e']
    exact⟨[],.aD .v,⟨.inl ⟨_,rfl,.same (iL _)⟩,trivial⟩,rfl⟩)
theorem QU (mq:∀ s:ByteArray,ah Tryz.prog w0 272 [.v (.string s)] (.v (.bool (gm s)))) (k i:Int) (n:ByteArray) (a:List Tm) (ih:∀ x ∈ a,∀ (d c:Int),x.ok->0<=c->c<=200->-1000<=d->d<=1000->bc Tryz.prog w0 193 [.pt 0 1 0 0,tm ρ x,iv d] (aM [(0,eQ c)] 1) (.v (.bool (bp x d c).1)) (aM [(0,eQ (bp x d c).2)] 1))
  (d c:Int) (hx:(Tm.mk k i n a).ok) (hc:0<=c) (ga:c<=200) (d_:-1000<=d) (eK:d<=1000) (hk:k=1):bc Tryz.prog w0 193 [.pt 0 1 0 0,tm ρ ⟨k,i,n,a⟩,iv d] (aM [(0,eQ c)] 1) (.v (.bool (bp ⟨k,i,n,a⟩ d c).1)) (aM [(0,eQ (bp ⟨k,i,n,a⟩ d c).2)] 1):=by
 subst hk
 obtain⟨cX,ey,eD⟩:=hx.out
 dsimp only at cX ey eD
 have hE:a.isEmpty=decide ((a.length:Int)=0):=by
  cases a with
  |nil=>rfl
  |cons x l=>simp;omega
 have hL:(a.length == 2)=decide ((a.length:Int)=2):=by rw [Bool.eq_iff_iff];simp;omega
 obtain⟨R,hR⟩:∃ R,R=bp ⟨1,i,n,a⟩ d c:=⟨_,rfl⟩
 rw [<-hR]
 rw [bp,rS,hE,hL] at hR
 have hA:∀ dd,dd=d - 1->0<=c - 1->1<=d->bc Tryz.prog w0 192 [.pt 0 1 0 0,tl ρ a,iv dd] (aM [(0,eQ (c - 1))] 1) (.v (.bool (cw a (d - 1) (c - 1)).1)) (aM [(0,eQ (cw a (d - 1) (c - 1)).2)] 1):=fun dd Cm h1 h2=>by
  subst Cm
  exact sj (d - 1) (fun y hy c' h0 h1=>⟨(fc y _ _ h0).1,(fc y _ _ h0).2,ih y hy _ _ (eD.mem y hy) h0 h1 (by omega) (by omega)⟩) cX (c - 1) h1 (by omega)
 obtain⟨⟨b1,c1⟩,lB⟩:∃ p,p=cw a (d - 1) (c - 1):=⟨_,rfl⟩
 rw [<-lB] at hA hR
 simp only at hA
 obtain⟨ce,uu⟩:∃ ce,ce=c - 1:=⟨_,rfl⟩
 rw [<-uu] at hA hR
 clear ih lB
 refine aH.jM 1 1 _ Bq (by simp [Tryz.ntmps193]) rfl rfl ?_
 refine gq gI ?_
 refine ab.int rfl (ad.xS (c:=c - 1) rfl rfl rfl (by omega) (by omega)) fun e he=>?_
 rw [<-uu] at he
 subst he
 refine gq gI ?_
 repeat' (first
  |(refine bq (fun hb=>?_) (fun hb=>?_)<;>(try simp only [aq] at hb)<;>(first|exact absurd hb (by decide)|refine gq gI ?_))
  |(refine aB fun m hm=>?_;(try rw [af] at hm);refine gq gI ?_)
  |(refine fq ?_))
 all_goals (clear mq hA hx cX ey eD hE hL)
 all_goals first
  |(have e':R=(false,e):=by
      rw [hR]
      first
       |rw [if_pos (by omega)]
       |(rw [if_neg (by omega),if_neg (by decide),if_pos rfl];refine Prod.ext ?_ rfl;simp_all<;>(intros;omega))
    rw [e']
    exact⟨[],.aD .v,⟨.inl ⟨_,rfl,.same (iL _)⟩,trivial⟩,rfl⟩)
  |(have e':R=(true,e):=by
      rw [hR,if_neg (by omega),if_neg (by decide),if_pos rfl]
      refine Prod.ext ?_ rfl
      simp_all<;>(intros;omega)
    rw [e']
    exact⟨[],.aD .v,⟨.inl ⟨_,rfl,.same (iL _)⟩,trivial⟩,rfl⟩)
theorem QV (mq:∀ s:ByteArray,ah Tryz.prog w0 272 [.v (.string s)] (.v (.bool (gm s)))) (k i:Int) (n:ByteArray) (a:List Tm) (ih:∀ x ∈ a,∀ (d c:Int),x.ok->0<=c->c<=200->-1000<=d->d<=1000->bc Tryz.prog w0 193 [.pt 0 1 0 0,tm ρ x,iv d] (aM [(0,eQ c)] 1) (.v (.bool (bp x d c).1)) (aM [(0,eQ (bp x d c).2)] 1))
  (d c:Int) (hx:(Tm.mk k i n a).ok) (hc:0<=c) (ga:c<=200) (d_:-1000<=d) (eK:d<=1000) (hk:k=2):bc Tryz.prog w0 193 [.pt 0 1 0 0,tm ρ ⟨k,i,n,a⟩,iv d] (aM [(0,eQ c)] 1) (.v (.bool (bp ⟨k,i,n,a⟩ d c).1)) (aM [(0,eQ (bp ⟨k,i,n,a⟩ d c).2)] 1):=by
 subst hk
 obtain⟨cX,ey,eD⟩:=hx.out
 dsimp only at cX ey eD
 have hE:a.isEmpty=decide ((a.length:Int)=0):=by
  cases a with
  |nil=>rfl
  |cons x l=>simp;omega
 have hL:(a.length == 2)=decide ((a.length:Int)=2):=by rw [Bool.eq_iff_iff];simp;omega
 obtain⟨R,hR⟩:∃ R,R=bp ⟨2,i,n,a⟩ d c:=⟨_,rfl⟩
 rw [<-hR]
 rw [bp,rS,hE,hL] at hR
 have hA:∀ dd,dd=d - 1->0<=c - 1->1<=d->bc Tryz.prog w0 192 [.pt 0 1 0 0,tl ρ a,iv dd] (aM [(0,eQ (c - 1))] 1) (.v (.bool (cw a (d - 1) (c - 1)).1)) (aM [(0,eQ (cw a (d - 1) (c - 1)).2)] 1):=fun dd Cm h1 h2=>by
  subst Cm
  exact sj (d - 1) (fun y hy c' h0 h1=>⟨(fc y _ _ h0).1,(fc y _ _ h0).2,ih y hy _ _ (eD.mem y hy) h0 h1 (by omega) (by omega)⟩) cX (c - 1) h1 (by omega)
 obtain⟨⟨b1,c1⟩,lB⟩:∃ p,p=cw a (d - 1) (c - 1):=⟨_,rfl⟩
 rw [<-lB] at hA hR
 simp only at hA
 obtain⟨ce,uu⟩:∃ ce,ce=c - 1:=⟨_,rfl⟩
 rw [<-uu] at hA hR
 clear ih lB
 refine aH.jM 1 1 _ Bq (by simp [Tryz.ntmps193]) rfl rfl ?_
 refine gq gI ?_
 refine ab.int rfl (ad.xS (c:=c - 1) rfl rfl rfl (by omega) (by omega)) fun e he=>?_
 rw [<-uu] at he
 subst he
 refine gq gI ?_
 repeat' (first
  |(refine ab.a_ rfl (ad.ag rfl (sh _ ey) ⟨.v,trivial⟩) (fun _=>?_) (fun _=>?_)<;>refine gq gI ?_)
  |(refine ab.a_ rfl (ad.ag rfl (mq _) ⟨.v,trivial⟩) (fun _=>?_) (fun _=>?_)<;>refine gq gI ?_)
  |((refine ab.a_ rfl (ad.iS (m:=[(0,0)]) (to:=[(0,some (eQ c1))]) (hA _ (by assumption) (by omega) (by omega)) rfl ⟨Rn.pt rfl rfl,Rn.pure (bC _),Rn.pure .v,trivial⟩ (Rb.pure .v) rfl rfl ⟨⟨_,rfl,hO.pure (gz _)⟩,trivial⟩ ⟨⟨0,_,rfl,rfl,iD.pure (gz _)⟩,trivial⟩ rfl (by repeat (first|exact ep rfl|refine jt ?_ rfl)) (.inr rfl)) (fun hb=>?_) (fun hb=>?_)<;>refine gq gI ?_))
  |(refine bq (fun hb=>?_) (fun hb=>?_)<;>(try simp only [aq] at hb)<;>(first|exact absurd hb (by decide)|refine gq gI ?_))
  |(refine aB fun m hm=>?_;(try rw [af] at hm);refine gq gI ?_)
  |(refine aS fun _ _=>?_;refine gq gI ?_)
  |(refine fq ?_))
 all_goals (clear mq hA hx cX ey eD hE hL)
 all_goals rw [if_neg (by decide:¬ (2:Int)=0),if_neg (by decide:¬ (2:Int)=1),if_pos rfl] at hR
 all_goals first
  |(have e':R=(false,e):=by
      rw [hR]
      first
       |rw [if_pos (by omega)]
       |rw [if_neg (by omega),if_pos (by omega)]
       |(rw [if_neg (by omega),if_neg (by omega),if_neg (by clear hR;simp_all)])
    rw [e']
    exact⟨[],.aD .v,⟨.inl ⟨_,rfl,.same (iL _)⟩,trivial⟩,rfl⟩)
  |(have e':R=(true,c1):=by
      rw [hR,if_neg (by omega),if_neg (by omega),if_pos (by clear hR;simp_all),hb]
    rw [e']
    exact⟨[],.aD .v,⟨.inl ⟨_,rfl,.same (iL _)⟩,trivial⟩,rfl⟩)
  |(have e':R=(false,c1):=by
      rw [hR,if_neg (by omega),if_neg (by omega),if_pos (by clear hR;simp_all),hb]
    rw [e']
    exact⟨[],.aD .v,⟨.inl ⟨_,rfl,.same (iL _)⟩,trivial⟩,rfl⟩)
theorem QW (mq:∀ s:ByteArray,ah Tryz.prog w0 272 [.v (.string s)] (.v (.bool (gm s)))) (k i:Int) (n:ByteArray) (a:List Tm) (ih:∀ x ∈ a,∀ (d c:Int),x.ok->0<=c->c<=200->-1000<=d->d<=1000->bc Tryz.prog w0 193 [.pt 0 1 0 0,tm ρ x,iv d] (aM [(0,eQ c)] 1) (.v (.bool (bp x d c).1)) (aM [(0,eQ (bp x d c).2)] 1))
  (d c:Int) (hx:(Tm.mk k i n a).ok) (hc:0<=c) (ga:c<=200) (d_:-1000<=d) (eK:d<=1000) (hk:¬ k=0/\¬ k=1/\¬ k=2):bc Tryz.prog w0 193 [.pt 0 1 0 0,tm ρ ⟨k,i,n,a⟩,iv d] (aM [(0,eQ c)] 1) (.v (.bool (bp ⟨k,i,n,a⟩ d c).1)) (aM [(0,eQ (bp ⟨k,i,n,a⟩ d c).2)] 1):=by
 obtain⟨mu,iV,dS⟩:=hk
 obtain⟨cX,ey,eD⟩:=hx.out
 dsimp only at cX ey eD
 have hE:a.isEmpty=decide ((a.length:Int)=0):=by
  cases a with
  |nil=>rfl
  |cons x l=>simp;omega
 have hL:(a.length == 2)=decide ((a.length:Int)=2):=by rw [Bool.eq_iff_iff];simp;omega
 obtain⟨R,hR⟩:∃ R,R=bp ⟨k,i,n,a⟩ d c:=⟨_,rfl⟩
 rw [<-hR]
 rw [bp,rS,hE,hL] at hR
 have hA:∀ dd,dd=d - 1->0<=c - 1->1<=d->bc Tryz.prog w0 192 [.pt 0 1 0 0,tl ρ a,iv dd] (aM [(0,eQ (c - 1))] 1) (.v (.bool (cw a (d - 1) (c - 1)).1)) (aM [(0,eQ (cw a (d - 1) (c - 1)).2)] 1):=fun dd Cm h1 h2=>by
  subst Cm
  exact sj (d - 1) (fun y hy c' h0 h1=>⟨(fc y _ _ h0).1,(fc y _ _ h0).2,ih y hy _ _ (eD.mem y hy) h0 h1 (by omega) (by omega)⟩) cX (c - 1) h1 (by omega)
 obtain⟨⟨b1,c1⟩,lB⟩:∃ p,p=cw a (d - 1) (c - 1):=⟨_,rfl⟩
 rw [<-lB] at hA hR
 simp only at hA
 obtain⟨ce,uu⟩:∃ ce,ce=c - 1:=⟨_,rfl⟩
 rw [<-uu] at hA hR
 clear ih lB
 refine aH.jM 1 1 _ Bq (by simp [Tryz.ntmps193]) rfl rfl ?_
 refine gq gI ?_
 refine ab.int rfl (ad.xS (c:=c - 1) rfl rfl rfl (by omega) (by omega)) fun e he=>?_
 rw [<-uu] at he
 subst he
 refine gq gI ?_
 repeat' (first
  |(refine ab.a_ rfl (ad.ag rfl (sh _ ey) ⟨.v,trivial⟩) (fun _=>?_) (fun _=>?_)<;>refine gq gI ?_)
  |(refine ab.a_ rfl (ad.ag rfl (mq _) ⟨.v,trivial⟩) (fun _=>?_) (fun _=>?_)<;>refine gq gI ?_)
  |((refine ab.a_ rfl (ad.iS (m:=[(0,0)]) (to:=[(0,some (eQ c1))]) (hA _ (by assumption) (by omega) (by omega)) rfl ⟨Rn.pt rfl rfl,Rn.pure (bC _),Rn.pure .v,trivial⟩ (Rb.pure .v) rfl rfl ⟨⟨_,rfl,hO.pure (gz _)⟩,trivial⟩ ⟨⟨0,_,rfl,rfl,iD.pure (gz _)⟩,trivial⟩ rfl (by repeat (first|exact ep rfl|refine jt ?_ rfl)) (.inr rfl)) (fun hb=>?_) (fun hb=>?_)<;>refine gq gI ?_))
  |(refine bq (fun hb=>?_) (fun hb=>?_)<;>(try simp only [aq] at hb)<;>(first|refine gq gI ?_))
  |(refine aB fun m hm=>?_;(try rw [af] at hm);refine gq gI ?_)
  |(refine aS fun _ _=>?_;refine gq gI ?_)
  |(refine fq ?_))
 all_goals (clear mq hA hx cX ey eD hE hL)
 all_goals first
  |(exfalso;omega)
  |(have e':R=(false,e):=by
      rw [hR,if_neg mu,if_neg iV,if_neg dS,ite_self]
    rw [e']
    exact⟨[],.aD .v,⟨.inl ⟨_,rfl,.same (iL _)⟩,trivial⟩,rfl⟩)
theorem zz (mq:∀ s:ByteArray,ah Tryz.prog w0 272 [.v (.string s)] (.v (.bool (gm s)))) (x:Tm):∀ (d c:Int),x.ok->0<=c->c<=200->-1000<=d->d<=1000 ->
  bc Tryz.prog w0 193 [.pt 0 1 0 0,tm ρ x,iv d] (aM [(0,eQ c)] 1) (.v (.bool (bp x d c).1)) (aM [(0,eQ (bp x d c).2)] 1):=by
 refine Tm.ind (p:=fun x=>∀ (d c:Int),x.ok->0<=c->c<=200->-1000<=d->d<=1000 ->
  bc Tryz.prog w0 193 [.pt 0 1 0 0,tm ρ x,iv d] (aM [(0,eQ c)] 1) (.v (.bool (bp x d c).1)) (aM [(0,eQ (bp x d c).2)] 1)) ?_ x
 intro k i n a ih d c hx hc ga d_ eK
 by_cases h0:k=0
 ·exact QT mq k i n a ih d c hx hc ga d_ eK h0
 by_cases h1:k=1
 ·exact QU mq k i n a ih d c hx hc ga d_ eK h1
 by_cases h2:k=2
 ·exact QV mq k i n a ih d c hx hc ga d_ eK h2
 ·exact QW mq k i n a ih d c hx hc ga d_ eK ⟨h0,h1,h2⟩
end
end
end Go.Proofs.YtbofilglphfceaaGreat
