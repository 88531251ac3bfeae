import Derived.Test.YtgjfgekaclobaaaGreatCm25
namespace Go.Proofs.YtgjfgekaclobaaaGreat
set_option linter.unusedVariables false
set_option linter.unusedSimpArgs false
open Go.RowKit
section
set_option maxRecDepth 100000
attribute [local irreducible] av aE ad ab
def N4:CF Tryz.f210:=⟨_,by conv=>lhs;cbv⟩
theorem AK:bQ Tryz.prog 210 N4.1 Tryz.f210.ntmps:=fh Tryz.func210 N4.2 Tryz.call210
def cn:List Nat:=[4,0,24,2,6,1,22,25,46,67,77,93]
def N5:CF Tryz.f153:=⟨_,by conv=>lhs;cbv⟩
theorem UP:bQ Tryz.prog 153 N5.1 Tryz.f153.ntmps:=fh Tryz.func153 N5.2 Tryz.call153
def fM:List Nat:=[10,1,6,9,11,0,7,2,20]
mutual
def aO:Tm->Int->Int->Bool × Int
 |⟨k,i,n,a⟩,d,c=>if c - 1 < 0\/d < 1 then (false,c - 1) else if k=0 then (decide (-2147483648<=i) && decide (i<=2147483648) && qe n a,c - 1) else if k=1 then (decide (0<=i) && decide (i<=1048576) && qe n a,c - 1)
  else if k=2 then (if i ≠ 0\/(a.length:Int) > 6 then (false,c - 1) else if pG n || (ir n && a.length == 2) then bN a (d - 1) (c - 1) else (false,c - 1)) else (false,c - 1)
def bN:List Tm->Int->Int->Bool × Int
 |[],d,c=>(true,c)
 |x::l,d,c=>if (aO x d c).1 then bN l d (aO x d c).2 else (false,(aO x d c).2)
end
theorem lU {N:Nat}{l:List (Nat × Ob)}(h:l.all (fun p=>Nat.blt p.1 N)=true):∀ k o,cM l k=some o->k < N:=fun k o hk=>by
 have:=List.all_eq_true.1 h _ (dY hk)
 exact c_ this
theorem qI {N d:Nat}{f:Nat->Option Ob}{a:Option Ob}(h:∀ k o,f k=some o->k < N) (hd:Nat.blt d N=true):∀ k o,aX f d a k=some o->k < N:=fun k o hk=>by
 by_cases e:k=d
 ·subst e;exact c_ hd
 ·rw [aq _ _ e] at hk;exact h k o hk
def en (c:Int):Ob:=.arr 1 [[iv c]] 0 true
theorem fN (c:Int):∀ row ∈ [[iv c]],∀ a ∈ row,Pure a:=fun row hr a ha=>by
 obtain rfl:=List.mem_singleton.1 hr
 obtain rfl:=List.mem_singleton.1 ha
 exact .v
theorem hY {B:Nat}(c:Int):kH B (en c):=QK (row:=[iv c]) (by intro a ha;obtain rfl:=List.mem_singleton.1 ha;exact .v)
section
variable {w0:World}{ρ:Hd}
theorem xI {a:List Tm}(d:Int) (ih:∀ x ∈ a,∀ c,0<=c->c<=200->(0<=(aO x d c).2\/(aO x d c).1=false)/\(aO x d c).2<=c/\aE Tryz.prog w0 210 [.pt 0 1 0 0,tm ρ x,iv d] (au [(0,en c)] 1) (.v (.bool (aO x d c).1)) (au [(0,en (aO x d c).2)] 1))
  (hl:a.length<=1099511627776) (c:Int) (hc:0<=c) (fS:c<=200) :
  aE Tryz.prog w0 153 [.pt 0 1 0 0,tl ρ a,iv d] (au [(0,en c)] 1) (.v (.bool (bN a d c).1)) (au [(0,en (bN a d c).2)] 1):=by
 obtain⟨R,hR⟩:∃ R,R=bN a d c:=⟨_,rfl⟩
 rw [<-hR]
 refine bQ.jl 1 1 _ UP (by simp [Tryz.ntmps153]) rfl rfl ?_
 refine gq fM ?_
 repeat' (first
  |(refine bq (fun hb=>?_) (fun hb=>?_)<;>(try simp only [bS] at hb)<;>(first|exact absurd hb (by decide)|refine gq fM ?_))
  |(refine bK fun m hm=>?_;(try rw [aF] at hm);refine gq fM ?_)
  |(refine bH fun _ _=>?_;refine gq fM ?_)
  |(refine dx fun _ _=>?_;refine gq fM ?_)
  |(refine ab.str rfl (ad.cat rfl rfl (by assumption)) fun _ _=>?_;refine gq fM ?_)
  |(refine ab.bh ?_;refine gq fM ?_)
  |(refine ab.bO ?_;refine gq fM ?_)
  |(refine fq ?_))
 refine ab.iK (σ:=Int × Int) 1 1 [] (fun p=>[(0,.pt 0 1 0 0),(1,tl ρ a),(2,iv d),(9,.v (.int .i64 m)),(10,.v (.int .i64 p.1))]) [] (fun p=>[(0,en p.2)])
  (fun p=>∃ k:Nat,p.1=k/\k<=a.length/\0<=p.2/\p.2<=200/\R=bN (a.drop k) d p.2) (fun p=>a.length - p.1.toNat) (0,c) ⟨0,rfl,by simp,hc,fS,hR⟩ rfl
  ⟨⟨.aJ rfl (.pt (by decide)),.aJ rfl (Pure.bT (cy _)),.aJ rfl .v,.aJ rfl .v,.aJ rfl .v,trivial⟩,rfl,⟨.inl ⟨_,rfl,.same (hY _)⟩,trivial⟩,rfl,rfl,rfl⟩ ?_
 rintro⟨i,c⟩ ⟨k,hi,hk,h0,h1,hp⟩
 simp only at hi h0 h1 hp
 refine gq fM ?_
 by_cases aB:k < a.length
 ·obtain⟨y,hy,Sz⟩:=oA aB
  rw [Sz,bN] at hp
  obtain⟨e1,e2,cA⟩:=ih y (BF hy) c h0 h1
  obtain⟨⟨b,c1⟩,n0⟩:∃ p,p=aO y d c:=⟨_,rfl⟩
  rw [<-n0] at e1 e2 cA hp
  simp only at e1 e2 cA hp
  repeat' (first
   |(refine ab.op rfl (ad.ind rfl rfl (qA (l:=a) hi hy) qB) ?_;refine gq fM ?_)
   |((refine ab.bif rfl (ad.rF (m:=[(0,0)]) (to:=[(0,some (en c1))]) cA rfl ⟨Rn.pt rfl rfl,Rn.pure (dN _),Rn.pure .v,trivial⟩ (Rb.pure .v) rfl rfl ⟨⟨_,rfl,kJ.pure (fN _)⟩,trivial⟩ ⟨⟨0,_,rfl,rfl,l_.pure (fN _)⟩,trivial⟩ rfl (lU rfl) (.inr rfl)) (fun hb=>?_) (fun hb=>?_)<;>refine gq fM ?_))
   |(refine bq (fun hb=>?_) (fun hb=>?_)<;>(try simp only [bS] at hb)<;>(first|exact absurd hb (by decide)|refine gq fM ?_))
   |(refine bK fun m hm=>?_;(try rw [aF] at hm);refine gq fM ?_)
   |(refine bH fun _ _=>?_;refine gq fM ?_)
   |(refine dx fun _ _=>?_;refine gq fM ?_)
   |(refine ab.str rfl (ad.cat rfl rfl (by assumption)) fun _ _=>?_;refine gq fM ?_)
   |(refine ab.bh ?_;refine gq fM ?_)
   |(refine ab.bO ?_;refine gq fM ?_)
   |(refine fq ?_))
  all_goals first
   |(have e:R=(false,c1):=by rw [hp,hb];rfl
     rw [e]
     exact⟨[],.aJ .v,⟨.inl ⟨_,rfl,.same (hY _)⟩,trivial⟩,rfl⟩)
   |(have e:R=bN (a.drop (k+1)) d c1:=by rw [hp,if_pos hb]
     have e3:0<=c1:=e1.resolve_right (by rw [hb];simp)
     refine ab.d_ (σ:=Int × Int) (_,c1) [] ?_ ?_ ⟨⟨.aJ rfl (.pt (by decide)),.aJ rfl (Pure.bT (cy _)),.aJ rfl .v,.aJ rfl .v,.aJ rfl .v,trivial⟩,rfl,⟨.inl ⟨_,rfl,.same (hY _)⟩,trivial⟩,rfl,rfl,rfl⟩
     ·exact⟨k+1,by simp only;omega,by omega,e3,by simp only;omega,e⟩
     ·simp only;omega)
   |(exfalso;omega)
 ·skip
  repeat' (first
   |(refine bq (fun hb=>?_) (fun hb=>?_)<;>(try simp only [bS] at hb)<;>(first|exact absurd hb (by decide)|refine gq fM ?_))
   |(refine bK fun m hm=>?_;(try rw [aF] at hm);refine gq fM ?_)
   |(refine bH fun _ _=>?_;refine gq fM ?_)
   |(refine dx fun _ _=>?_;refine gq fM ?_)
   |(refine ab.str rfl (ad.cat rfl rfl (by assumption)) fun _ _=>?_;refine gq fM ?_)
   |(refine ab.bh ?_;refine gq fM ?_)
   |(refine ab.bO ?_;refine gq fM ?_)
   |(refine fq ?_))
  all_goals first
   |(exfalso;omega)
   |(rw [List.drop_eq_nil_of_le (by omega),bN] at hp
     rw [hp]
     exact⟨[],.aJ .v,⟨.inl ⟨_,rfl,.same (hY _)⟩,trivial⟩,rfl⟩)
theorem xJ:∀ (l:List Tm) (d:Int) (h:∀ x ∈ l,∀ c,0<=c->(0<=(aO x d c).2\/(aO x d c).1=false)/\(aO x d c).2<=c) (c:Int),0<=c->(0<=(bN l d c).2\/(bN l d c).1=false)/\(bN l d c).2<=c
 |[],d,h,c,hc=>by rw [bN];exact⟨.inl hc,Int.le_refl _⟩
 |x::l,d,h,c,hc=>by
  obtain⟨h1,h2⟩:=h x (by simp) c hc
  rw [bN]
  split
  ·rename_i hv
   have h3:=h1.resolve_right (by rw [hv];simp)
   obtain⟨h4,h5⟩:=xJ l d (fun y hy=>h y (by simp [hy])) _ h3
   exact⟨h4,by omega⟩
  ·exact⟨.inr rfl,h2⟩
theorem i_ (x:Tm):∀ (d c:Int),0<=c->(0<=(aO x d c).2\/(aO x d c).1=false)/\(aO x d c).2<=c:=by
 refine Tm.ind (p:=fun x=>∀ (d c:Int),0<=c->(0<=(aO x d c).2\/(aO x d c).1=false)/\(aO x d c).2<=c) ?_ x
 intro k i n a ih d c hc
 rw [aO]
 have hs:=xJ a (d - 1) (fun y hy c hc=>ih y hy (d - 1) c hc) (c - 1)
 (repeat' split)<;>first
  |exact⟨.inr rfl,by show c - 1<=c;omega⟩
  |exact⟨.inl (by show 0<=c - 1;omega),by show c - 1<=c;omega⟩
  |(obtain⟨h1,h2⟩:=hs (by omega);exact⟨h1,by omega⟩)
theorem QP (mn:∀ s:ByteArray,av Tryz.prog w0 280 [.v (.string s)] (.v (.bool (ir s)))) (k i:Int) (n:ByteArray) (a:List Tm) (ih:∀ x ∈ a,∀ (d c:Int),x.ok->0<=c->c<=200->-1000<=d->d<=1000->aE Tryz.prog w0 210 [.pt 0 1 0 0,tm ρ x,iv d] (au [(0,en c)] 1) (.v (.bool (aO x d c).1)) (au [(0,en (aO x d c).2)] 1))
  (d c:Int) (hx:(Tm.mk k i n a).ok) (hc:0<=c) (fS:c<=200) (dG:-1000<=d) (fC:d<=1000) (hk:k=0):aE Tryz.prog w0 210 [.pt 0 1 0 0,tm ρ ⟨k,i,n,a⟩,iv d] (au [(0,en c)] 1) (.v (.bool (aO ⟨k,i,n,a⟩ d c).1)) (au [(0,en (aO ⟨k,i,n,a⟩ d c).2)] 1):=by
 subst hk
 obtain⟨fU,k_,n_⟩:=hx.out
 dsimp only at fU k_ n_
 have hE:a.isEmpty=decide ((a.length:Int)=0):=by
  cases a with
  |nil=>rfl
  |cons x l=>simp;omega
 have hL:(a.length == 2)=decide ((a.length:Int)=2):=by rw [Bool.eq_iff_iff];simp;omega
 obtain⟨R,hR⟩:∃ R,R=aO ⟨0,i,n,a⟩ d c:=⟨_,rfl⟩
 rw [<-hR]
 rw [aO,qe,hE,hL] at hR
 have hA:∀ dd,dd=d - 1->0<=c - 1->1<=d->aE Tryz.prog w0 153 [.pt 0 1 0 0,tl ρ a,iv dd] (au [(0,en (c - 1))] 1) (.v (.bool (bN a (d - 1) (c - 1)).1)) (au [(0,en (bN a (d - 1) (c - 1)).2)] 1):=fun dd BR h1 h2=>by
  subst BR
  exact xI (d - 1) (fun y hy c' h0 h1=>⟨(i_ y _ _ h0).1,(i_ y _ _ h0).2,ih y hy _ _ (n_.mem y hy) h0 h1 (by omega) (by omega)⟩) fU (c - 1) h1 (by omega)
 obtain⟨⟨b1,c1⟩,n0⟩:∃ p,p=bN a (d - 1) (c - 1):=⟨_,rfl⟩
 rw [<-n0] at hA hR
 simp only at hA
 obtain⟨ce,tE⟩:∃ ce,ce=c - 1:=⟨_,rfl⟩
 rw [<-tE] at hA hR
 clear ih n0
 refine bQ.jl 1 1 _ AK (by simp [Tryz.ntmps210]) rfl rfl ?_
 refine gq cn ?_
 refine ab.int rfl (ad.xf (c:=c - 1) rfl rfl rfl (by omega) (by omega)) fun e he=>?_
 rw [<-tE] at he
 subst he
 refine gq cn ?_
 repeat' (first
  |(refine ab.bif rfl (ad.b9 rfl (uO _ k_) ⟨.v,trivial⟩) (fun _=>?_) (fun _=>?_)<;>refine gq cn ?_)
  |(refine ab.bif rfl (ad.b9 rfl (mn _) ⟨.v,trivial⟩) (fun _=>?_) (fun _=>?_)<;>refine gq cn ?_)
  |((refine ab.bif rfl (ad.rF (m:=[(0,0)]) (to:=[(0,some (en c1))]) (hA _ (by assumption) (by omega) (by omega)) rfl ⟨Rn.pt rfl rfl,Rn.pure (cy _),Rn.pure .v,trivial⟩ (Rb.pure .v) rfl rfl ⟨⟨_,rfl,kJ.pure (fN _)⟩,trivial⟩ ⟨⟨0,_,rfl,rfl,l_.pure (fN _)⟩,trivial⟩ rfl (by repeat (first|exact lU rfl|refine qI ?_ rfl)) (.inr rfl)) (fun hb=>?_) (fun hb=>?_)<;>refine gq cn ?_))
  |(refine bq (fun hb=>?_) (fun hb=>?_)<;>(try simp only [bS] at hb)<;>(first|exact absurd hb (by decide)|refine gq cn ?_))
  |(refine bK fun m hm=>?_;(try rw [aF] at hm);refine gq cn ?_)
  |(refine bH fun _ _=>?_;refine gq cn ?_)
  |(refine dx fun _ _=>?_;refine gq cn ?_)
  |(refine ab.str rfl (ad.cat rfl rfl (by assumption)) fun _ _=>?_;refine gq cn ?_)
  |(refine ab.bh ?_;refine gq cn ?_)
  |(refine ab.bO ?_;refine gq cn ?_)
  |(refine fq ?_))
 all_goals (clear mn hA hx fU k_ n_ hE hL)
 all_goals first
  |(have e':R=(false,e):=by
      rw [hR]
      first
       |rw [if_pos (by omega)]
       |(rw [if_neg (by omega),if_pos rfl];refine Prod.ext ?_ rfl;simp_all<;>(intros;omega))
    rw [e']
    exact⟨[],.aJ .v,⟨.inl ⟨_,rfl,.same (hY _)⟩,trivial⟩,rfl⟩)
  |(have e':R=(true,e):=by
      rw [hR,if_neg (by omega),if_pos rfl]
      refine Prod.ext ?_ rfl
      simp_all<;>(intros;omega)
    rw [e']
    exact⟨[],.aJ .v,⟨.inl ⟨_,rfl,.same (hY _)⟩,trivial⟩,rfl⟩)
theorem QQ (mn:∀ s:ByteArray,av Tryz.prog w0 280 [.v (.string s)] (.v (.bool (ir s)))) (k i:Int) (n:ByteArray) (a:List Tm) (ih:∀ x ∈ a,∀ (d c:Int),x.ok->0<=c->c<=200->-1000<=d->d<=1000->aE Tryz.prog w0 210 [.pt 0 1 0 0,tm ρ x,iv d] (au [(0,en c)] 1) (.v (.bool (aO x d c).1)) (au [(0,en (aO x d c).2)] 1))
  (d c:Int) (hx:(Tm.mk k i n a).ok) (hc:0<=c) (fS:c<=200) (dG:-1000<=d) (fC:d<=1000) (hk:k=1):aE Tryz.prog w0 210 [.pt 0 1 0 0,tm ρ ⟨k,i,n,a⟩,iv d] (au [(0,en c)] 1) (.v (.bool (aO ⟨k,i,n,a⟩ d c).1)) (au [(0,en (aO ⟨k,i,n,a⟩ d c).2)] 1):=by
 subst hk
 obtain⟨fU,k_,n_⟩:=hx.out
 dsimp only at fU k_ n_
 have hE:a.isEmpty=decide ((a.length:Int)=0):=by
  cases a with
  |nil=>rfl
  |cons x l=>simp;omega
 have hL:(a.length == 2)=decide ((a.length:Int)=2):=by rw [Bool.eq_iff_iff];simp;omega
 obtain⟨R,hR⟩:∃ R,R=aO ⟨1,i,n,a⟩ d c:=⟨_,rfl⟩
 rw [<-hR]
 rw [aO,qe,hE,hL] at hR
 have hA:∀ dd,dd=d - 1->0<=c - 1->1<=d->aE Tryz.prog w0 153 [.pt 0 1 0 0,tl ρ a,iv dd] (au [(0,en (c - 1))] 1) (.v (.bool (bN a (d - 1) (c - 1)).1)) (au [(0,en (bN a (d - 1) (c - 1)).2)] 1):=fun dd BR h1 h2=>by
  subst BR
  exact xI (d - 1) (fun y hy c' h0 h1=>⟨(i_ y _ _ h0).1,(i_ y _ _ h0).2,ih y hy _ _ (n_.mem y hy) h0 h1 (by omega) (by omega)⟩) fU (c - 1) h1 (by omega)
 obtain⟨⟨b1,c1⟩,n0⟩:∃ p,p=bN a (d - 1) (c - 1):=⟨_,rfl⟩
 rw [<-n0] at hA hR
 simp only at hA
 obtain⟨ce,tE⟩:∃ ce,ce=c - 1:=⟨_,rfl⟩
 rw [<-tE] at hA hR
 clear ih n0
 refine bQ.jl 1 1 _ AK (by simp [Tryz.ntmps210]) rfl rfl ?_
 refine gq cn ?_
 refine ab.int rfl (ad.xf (c:=c - 1) rfl rfl rfl (by omega) (by omega)) fun e he=>?_
 rw [<-tE] at he
 subst he
 refine gq cn ?_
 repeat' (first
  |(refine ab.bif rfl (ad.b9 rfl (uO _ k_) ⟨.v,trivial⟩) (fun _=>?_) (fun _=>?_)<;>refine gq cn ?_)
  |(refine ab.bif rfl (ad.b9 rfl (mn _) ⟨.v,trivial⟩) (fun _=>?_) (fun _=>?_)<;>refine gq cn ?_)
  |((refine ab.bif rfl (ad.rF (m:=[(0,0)]) (to:=[(0,some (en c1))]) (hA _ (by assumption) (by omega) (by omega)) rfl ⟨Rn.pt rfl rfl,Rn.pure (cy _),Rn.pure .v,trivial⟩ (Rb.pure .v) rfl rfl ⟨⟨_,rfl,kJ.pure (fN _)⟩,trivial⟩ ⟨⟨0,_,rfl,rfl,l_.pure (fN _)⟩,trivial⟩ rfl (by repeat (first|exact lU rfl|refine qI ?_ rfl)) (.inr rfl)) (fun hb=>?_) (fun hb=>?_)<;>refine gq cn ?_))
  |(refine bq (fun hb=>?_) (fun hb=>?_)<;>(try simp only [bS] at hb)<;>(first|exact absurd hb (by decide)|refine gq cn ?_))
  |(refine bK fun m hm=>?_;(try rw [aF] at hm);refine gq cn ?_)
  |(refine bH fun _ _=>?_;refine gq cn ?_)
  |(refine dx fun _ _=>?_;refine gq cn ?_)
  |(refine ab.str rfl (ad.cat rfl rfl (by assumption)) fun _ _=>?_;refine gq cn ?_)
  |(refine ab.bh ?_;refine gq cn ?_)
  |(refine ab.bO ?_;refine gq cn ?_)
  |(refine fq ?_))
 all_goals (clear mn hA hx fU k_ n_ hE hL)
 all_goals first
  |(have e':R=(false,e):=by
      rw [hR]
      first
       |rw [if_pos (by omega)]
       |(rw [if_neg (by omega),if_neg (by decide),if_pos rfl];refine Prod.ext ?_ rfl;simp_all<;>(intros;omega))
    rw [e']
    exact⟨[],.aJ .v,⟨.inl ⟨_,rfl,.same (hY _)⟩,trivial⟩,rfl⟩)
  |(have e':R=(true,e):=by
      rw [hR,if_neg (by omega),if_neg (by decide),if_pos rfl]
      refine Prod.ext ?_ rfl
      simp_all<;>(intros;omega)
    rw [e']
    exact⟨[],.aJ .v,⟨.inl ⟨_,rfl,.same (hY _)⟩,trivial⟩,rfl⟩)
theorem QS (mn:∀ s:ByteArray,av Tryz.prog w0 280 [.v (.string s)] (.v (.bool (ir s)))) (k i:Int) (n:ByteArray) (a:List Tm) (ih:∀ x ∈ a,∀ (d c:Int),x.ok->0<=c->c<=200->-1000<=d->d<=1000->aE Tryz.prog w0 210 [.pt 0 1 0 0,tm ρ x,iv d] (au [(0,en c)] 1) (.v (.bool (aO x d c).1)) (au [(0,en (aO x d c).2)] 1))
  (d c:Int) (hx:(Tm.mk k i n a).ok) (hc:0<=c) (fS:c<=200) (dG:-1000<=d) (fC:d<=1000) (hk:k=2):aE Tryz.prog w0 210 [.pt 0 1 0 0,tm ρ ⟨k,i,n,a⟩,iv d] (au [(0,en c)] 1) (.v (.bool (aO ⟨k,i,n,a⟩ d c).1)) (au [(0,en (aO ⟨k,i,n,a⟩ d c).2)] 1):=by
 subst hk
 obtain⟨fU,k_,n_⟩:=hx.out
 dsimp only at fU k_ n_
 have hE:a.isEmpty=decide ((a.length:Int)=0):=by
  cases a with
  |nil=>rfl
  |cons x l=>simp;omega
 have hL:(a.length == 2)=decide ((a.length:Int)=2):=by rw [Bool.eq_iff_iff];simp;omega
 obtain⟨R,hR⟩:∃ R,R=aO ⟨2,i,n,a⟩ d c:=⟨_,rfl⟩
 rw [<-hR]
 rw [aO,qe,hE,hL] at hR
 have hA:∀ dd,dd=d - 1->0<=c - 1->1<=d->aE Tryz.prog w0 153 [.pt 0 1 0 0,tl ρ a,iv dd] (au [(0,en (c - 1))] 1) (.v (.bool (bN a (d - 1) (c - 1)).1)) (au [(0,en (bN a (d - 1) (c - 1)).2)] 1):=fun dd BR h1 h2=>by
  subst BR
  exact xI (d - 1) (fun y hy c' h0 h1=>⟨(i_ y _ _ h0).1,(i_ y _ _ h0).2,ih y hy _ _ (n_.mem y hy) h0 h1 (by omega) (by omega)⟩) fU (c - 1) h1 (by omega)
 obtain⟨⟨b1,c1⟩,n0⟩:∃ p,p=bN a (d - 1) (c - 1):=⟨_,rfl⟩
 rw [<-n0] at hA hR
 simp only at hA
 obtain⟨ce,tE⟩:∃ ce,ce=c - 1:=⟨_,rfl⟩
 rw [<-tE] at hA hR
 clear ih n0
 refine bQ.jl 1 1 _ AK (by simp [Tryz.ntmps210]) rfl rfl ?_
 refine gq cn ?_
 refine ab.int rfl (ad.xf (c:=c - 1) rfl rfl rfl (by omega) (by omega)) fun e he=>?_
 rw [<-tE] at he
 subst he
 refine gq cn ?_
 repeat' (first
  |(refine ab.bif rfl (ad.b9 rfl (uO _ k_) ⟨.v,trivial⟩) (fun _=>?_) (fun _=>?_)<;>refine gq cn ?_)
  |(refine ab.bif rfl (ad.b9 rfl (mn _) ⟨.v,trivial⟩) (fun _=>?_) (fun _=>?_)<;>refine gq cn ?_)
  |((refine ab.bif rfl (ad.rF (m:=[(0,0)]) (to:=[(0,some (en c1))]) (hA _ (by assumption) (by omega) (by omega)) rfl ⟨Rn.pt rfl rfl,Rn.pure (cy _),Rn.pure .v,trivial⟩ (Rb.pure .v) rfl rfl ⟨⟨_,rfl,kJ.pure (fN _)⟩,trivial⟩ ⟨⟨0,_,rfl,rfl,l_.pure (fN _)⟩,trivial⟩ rfl (by repeat (first|exact lU rfl|refine qI ?_ rfl)) (.inr rfl)) (fun hb=>?_) (fun hb=>?_)<;>refine gq cn ?_))
  |(refine bq (fun hb=>?_) (fun hb=>?_)<;>(try simp only [bS] at hb)<;>(first|exact absurd hb (by decide)|refine gq cn ?_))
  |(refine bK fun m hm=>?_;(try rw [aF] at hm);refine gq cn ?_)
  |(refine bH fun _ _=>?_;refine gq cn ?_)
  |(refine dx fun _ _=>?_;refine gq cn ?_)
  |(refine ab.str rfl (ad.cat rfl rfl (by assumption)) fun _ _=>?_;refine gq cn ?_)
  |(refine ab.bh ?_;refine gq cn ?_)
  |(refine ab.bO ?_;refine gq cn ?_)
  |(refine fq ?_))
 all_goals (clear mn hA hx fU k_ n_ hE hL)
 all_goals rw [if_neg (by decide:¬ (2:Int)=0),if_neg (by decide:¬ (2:Int)=1),if_pos rfl] at hR
 all_goals first
  |(have e':R=(false,e):=by
      rw [hR]
      first
       |rw [if_pos (by omega)]
       |rw [if_neg (by omega),if_pos (by omega)]
       |(rw [if_neg (by omega),if_neg (by omega),if_neg (by clear hR;simp_all)])
    rw [e']
    exact⟨[],.aJ .v,⟨.inl ⟨_,rfl,.same (hY _)⟩,trivial⟩,rfl⟩)
  |(have e':R=(true,c1):=by
      rw [hR,if_neg (by omega),if_neg (by omega),if_pos (by clear hR;simp_all),hb]
    rw [e']
    exact⟨[],.aJ .v,⟨.inl ⟨_,rfl,.same (hY _)⟩,trivial⟩,rfl⟩)
  |(have e':R=(false,c1):=by
      rw [hR,if_neg (by omega),if_neg (by omega),if_pos (by clear hR;simp_all),hb]
    rw [e']
    exact⟨[],.aJ .v,⟨.inl ⟨_,rfl,.same (hY _)⟩,trivial⟩,rfl⟩)
theorem QT (mn:∀ s:ByteArray,av Tryz.prog w0 280 [.v (.string s)] (.v (.bool (ir s)))) (k i:Int) (n:ByteArray) (a:List Tm) (ih:∀ x ∈ a,∀ (d c:Int),x.ok->0<=c->c<=200->-1000<=d->d<=1000->aE Tryz.prog w0 210 [.pt 0 1 0 0,tm ρ x,iv d] (au [(0,en c)] 1) (.v (.bool (aO x d c).1)) (au [(0,en (aO x d c).2)] 1))
  (d c:Int) (hx:(Tm.mk k i n a).ok) (hc:0<=c) (fS:c<=200) (dG:-1000<=d) (fC:d<=1000) (hk:¬ k=0/\¬ k=1/\¬ k=2):aE Tryz.prog w0 210 [.pt 0 1 0 0,tm ρ ⟨k,i,n,a⟩,iv d] (au [(0,en c)] 1) (.v (.bool (aO ⟨k,i,n,a⟩ d c).1)) (au [(0,en (aO ⟨k,i,n,a⟩ d c).2)] 1):=by
 obtain⟨Zp,dL,eN⟩:=hk
 obtain⟨fU,k_,n_⟩:=hx.out
 dsimp only at fU k_ n_
 have hE:a.isEmpty=decide ((a.length:Int)=0):=by
  cases a with
  |nil=>rfl
  |cons x l=>simp;omega
 have hL:(a.length == 2)=decide ((a.length:Int)=2):=by rw [Bool.eq_iff_iff];simp;omega
 obtain⟨R,hR⟩:∃ R,R=aO ⟨k,i,n,a⟩ d c:=⟨_,rfl⟩
 rw [<-hR]
 rw [aO,qe,hE,hL] at hR
 have hA:∀ dd,dd=d - 1->0<=c - 1->1<=d->aE Tryz.prog w0 153 [.pt 0 1 0 0,tl ρ a,iv dd] (au [(0,en (c - 1))] 1) (.v (.bool (bN a (d - 1) (c - 1)).1)) (au [(0,en (bN a (d - 1) (c - 1)).2)] 1):=fun dd BR h1 h2=>by
  subst BR
  exact xI (d - 1) (fun y hy c' h0 h1=>⟨(i_ y _ _ h0).1,(i_ y _ _ h0).2,ih y hy _ _ (n_.mem y hy) h0 h1 (by omega) (by omega)⟩) fU (c - 1) h1 (by omega)
 obtain⟨⟨b1,c1⟩,n0⟩:∃ p,p=bN a (d - 1) (c - 1):=⟨_,rfl⟩
 rw [<-n0] at hA hR
 simp only at hA
 obtain⟨ce,tE⟩:∃ ce,ce=c - 1:=⟨_,rfl⟩
 rw [<-tE] at hA hR
 clear ih n0
 refine bQ.jl 1 1 _ AK (by simp [Tryz.ntmps210]) rfl rfl ?_
 refine gq cn ?_
 refine ab.int rfl (ad.xf (c:=c - 1) rfl rfl rfl (by omega) (by omega)) fun e he=>?_
 rw [<-tE] at he
 subst he
 refine gq cn ?_
 repeat' (first
  |(refine ab.bif rfl (ad.b9 rfl (uO _ k_) ⟨.v,trivial⟩) (fun _=>?_) (fun _=>?_)<;>refine gq cn ?_)
  |(refine ab.bif rfl (ad.b9 rfl (mn _) ⟨.v,trivial⟩) (fun _=>?_) (fun _=>?_)<;>refine gq cn ?_)
  |((refine ab.bif rfl (ad.rF (m:=[(0,0)]) (to:=[(0,some (en c1))]) (hA _ (by assumption) (by omega) (by omega)) rfl ⟨Rn.pt rfl rfl,Rn.pure (cy _),Rn.pure .v,trivial⟩ (Rb.pure .v) rfl rfl ⟨⟨_,rfl,kJ.pure (fN _)⟩,trivial⟩ ⟨⟨0,_,rfl,rfl,l_.pure (fN _)⟩,trivial⟩ rfl (by repeat (first|exact lU rfl|refine qI ?_ rfl)) (.inr rfl)) (fun hb=>?_) (fun hb=>?_)<;>refine gq cn ?_))
  |(refine bq (fun hb=>?_) (fun hb=>?_)<;>(try simp only [bS] at hb)<;>(first|exact absurd hb (by decide)|refine gq cn ?_))
  |(refine bK fun m hm=>?_;(try rw [aF] at hm);refine gq cn ?_)
  |(refine bH fun _ _=>?_;refine gq cn ?_)
  |(refine dx fun _ _=>?_;refine gq cn ?_)
  |(refine ab.str rfl (ad.cat rfl rfl (by assumption)) fun _ _=>?_;refine gq cn ?_)
  |(refine ab.bh ?_;refine gq cn ?_)
  |(refine ab.bO ?_;refine gq cn ?_)
  |(refine fq ?_))
 all_goals (clear mn hA hx fU k_ n_ hE hL)
 all_goals first
  |(exfalso;omega)
  |(have e':R=(false,e):=by
      rw [hR,if_neg Zp,if_neg dL,if_neg eN,ite_self]
    rw [e']
    exact⟨[],.aJ .v,⟨.inl ⟨_,rfl,.same (hY _)⟩,trivial⟩,rfl⟩)
theorem QU (mn:∀ s:ByteArray,av Tryz.prog w0 280 [.v (.string s)] (.v (.bool (ir s)))) (x:Tm):∀ (d c:Int),x.ok->0<=c->c<=200->-1000<=d->d<=1000 ->
  aE Tryz.prog w0 210 [.pt 0 1 0 0,tm ρ x,iv d] (au [(0,en c)] 1) (.v (.bool (aO x d c).1)) (au [(0,en (aO x d c).2)] 1):=by
 refine Tm.ind (p:=fun x=>∀ (d c:Int),x.ok->0<=c->c<=200->-1000<=d->d<=1000 ->
  aE Tryz.prog w0 210 [.pt 0 1 0 0,tm ρ x,iv d] (au [(0,en c)] 1) (.v (.bool (aO x d c).1)) (au [(0,en (aO x d c).2)] 1)) ?_ x
 intro k i n a ih d c hx hc fS dG fC
 by_cases h0:k=0
 ·exact QP mn k i n a ih d c hx hc fS dG fC h0
 by_cases h1:k=1
 ·exact QQ mn k i n a ih d c hx hc fS dG fC h1
 by_cases h2:k=2
 ·exact QS mn k i n a ih d c hx hc fS dG fC h2
 ·exact QT mn k i n a ih d c hx hc fS dG fC ⟨h0,h1,h2⟩
end
end
end Go.Proofs.YtgjfgekaclobaaaGreat
