import Derived.Test.YtbpabjmnhggajaaGreatOr30
namespace Go.Proofs.YtbpabjmnhggajaaGreat
set_option linter.all false
open Go.RowKit
section
set_option maxRecDepth 100000
attribute [local irreducible] ah aG ae ad
def am4:FQ 67 Tryz.f67:=aF Tryz.func67 Tryz.call67
def aX:List Nat:=[0,11,56,61,75,80,103,136,141,1,165,182,203,2,13,17,19,57,55,4,60,62,59,6,76,74,8,79,81,78,10,102,104,101,113,137,135,15,140,142,139,164,166,163,181,183,180,21,202,204,201,22,24]
def cH (b:Bool) (e:Int):Int:=if b then 0 else e
theorem cB {a b c:Int}:bj (bj a b) c=bj a (bj b c):=by
 unfold bj;split<;>simp_all
def aQ {T:Type}(f:T->Int):List T->Int
 |[]=>0
 |x::l=>bj (f x) (aQ f l)
theorem zl (ds:List Dc) (l:List Gl):kG ds l=aQ (qI ds) l:=by
 induction l with
 |nil=>rfl
 |cons x l a=>rw[kG,aQ,a]
def xz:List Int->Int->(Int->Int)->Int
 |[],n,k=>k n
 |v::a,n,k=>if v<=n then xz a (if v=n then n+1 else n) k else 2
def vO (x:At):Int:=cH (fH x) 2
def uN (x:Gl):Int:=cH (dE x) 2
def zZ (ds:List Dc) (x:At):Int:=oS ds x.n x.a.length
def Hv (x:Gl):Int:=cH (nN x.op || decide (x.op=1)) 10
def De (x:Gl):Int:=cH (!nN x.op) 10
def tB (r:Rl):List Int:=Ht [r.aM,r.rem]
def yC (r:Rl):List Int:=sV [r.guard,r.body]
def UU (r:Rl) (x:Int):Int:=cH ((tB r).contains x) 17
def Em (r:Rl):Int:=bj (aQ (UU r) (sV [r.guard])) 0
def K3 (r:Rl):Int:=bj (aQ Hv r.guard) (bj (aQ De r.body) (Em r))
def wa (ds:List Dc) (r:Rl):Int:=bj (kG ds r.guard) (bj (kG ds r.body) (K3 r))
def Hw (ds:List Dc) (r:Rl):Int:=bj (aQ (zZ ds) r.aM) (bj (aQ (zZ ds) r.rem) (wa ds r))
def Be (ds:List Dc) (r:Rl):Int:=bj (cH (r.n.toList == (⟨#[]⟩:ByteArray).toList || mC r.n) 7) (Hw ds r)
def wb (ds:List Dc) (r:Rl):Int:=xz (tB r++yC r) 0 λn=>bj (cH (decide (r.vars=n)) 2) (Be ds r)
def wc (ds:List Dc) (r:Rl):Int:=bj (aQ uN r.guard) (bj (aQ uN r.body) (wb ds r))
def K4 (ds:List Dc) (r:Rl):Int:=bj (aQ vO r.aM) (bj (aQ vO r.rem) (wc ds r))
def z8 (r:Rl):Bool:=decide (0 < r.aM.length+r.rem.length) && decide (r.aM.length+r.rem.length<=4) && decide (r.guard.length<=12) && decide (r.body.length<=12)
def nO (ds:List Dc) (r:Rl):Int:=bj (cH (z8 r) 6) (K4 ds r)
structure z_ (r:Rl):Prop where
 n:r.n.size<=1099511627776
 ke:r.aM.length<=1099511627776
 re:r.rem.length<=1099511627776
 g:r.guard.length<=1099511627776
 b:r.body.length<=1099511627776
 kx:∀x ∈ r.aM,nC x.a/\x.n.size<=1099511627776
 rx:∀x ∈ r.rem,nC x.a/\x.n.size<=1099511627776
 gx:∀x ∈ r.guard,JP x
 bx:∀x ∈ r.body,JP x
 av:(tB r).length<=549755813888
 gv:(yC r).length<=549755813888
section
variable {w0:World}{ρ:Hd}
theorem nC.E3 {a:List Tm}(h:nC a):E3 a:=⟨h.len,h.1,Qr h⟩
theorem aah (r:Rl) (h:z_ r):∃len,len=(tB r).length/\aG Tryz.prog w0 70 [.sl true [[cL ρ r.aM],[cL ρ r.rem]]] (aq [] 0) (.gr 0 1 len) (aq [(0,qw ρ (tB r))] 1):=by
 obtain⟨len,d,b⟩:=am2 (w0:=w0) (ρ:=ρ) [r.aM,r.rem] (by simp) (λl c=>by
  simp only[ad_,as_,or_false]at c;rcases c with rfl|rfl
  ·exact⟨h.ke,λx a=>(h.kx x a).1.E3⟩
  ·exact⟨h.re,λx a=>(h.rx x a).1.E3⟩) _ rfl (by have:=h.av;unfold tB at this;omega)
 rw[bX]at b;exact⟨len,d,b⟩
theorem aiQ (r:Rl) (h:z_ r):ah Tryz.prog w0 70 [.sl true [[cL ρ r.aM],[cL ρ r.rem]]] (aR ρ aI false (tB r)):=by
 obtain⟨len,a,b⟩:=aah (w0:=w0) (ρ:=ρ) r h;exact ah.zM b (aP.grow rfl a) (bt _)
theorem aiR (r:Rl) (h:z_ r):ah Tryz.prog w0 71 [.sl true [[cE ρ r.guard],[cE ρ r.body]]] (aR ρ aI false (yC r)):=by
 have b:=aeY (w0:=w0) (ρ:=ρ) [r.guard,r.body] (by simp) (λl c=>by
  simp only[ad_,as_,or_false]at c;rcases c with rfl|rfl
  ·exact⟨h.g,λx a=>(h.gx x a).1.E3⟩
  ·exact⟨h.b,λx a=>(h.bx x a).1.E3⟩) (by have:=h.gv;unfold yC at this;omega)
 rw[bX]at b;exact b
theorem UW (r:Rl) (h:z_ r):(sV [r.guard]).length<=1099511627776:=by
 have a:=h.gv;simp only[yC,sV,bm_,bD_,af_,aN_]at a ⊢;omega
theorem aeZ (r:Rl) (h:z_ r):ah Tryz.prog w0 71 [.sl true [[cE ρ r.guard]]] (aR ρ aI false (sV [r.guard])):=by
 have a:=aeY (w0:=w0) (ρ:=ρ) [r.guard] (by simp) (λl b=>by
  obtain rfl:=ae_.1 b;exact⟨h.g,λx c=>(h.gx x c).1.E3⟩) (UW r h)
 rw[bX]at a;exact a
set_option maxHeartbeats 8000000 in
theorem ae0 (ds:List Dc) (r:Rl) (hd:ds.length<=1099511627776) (I:z_ r):Ba w0 67 [.ip (iE ρ r),.ip [ft ρ ds]] (nO ds r):=by
 have Hx:Pure (.ip (iE ρ r)):=.ip (tM r);have hpd:Pure (.ip [ft ρ ds]):=.ip λa H=>by obtain rfl:=ae_.1 H;exact fW ds
 obtain⟨C9,kD,fe,vM,xA,XO,XP,U,V,hav,hgv⟩:=id I;have UD:=aah (w0:=w0) (ρ:=ρ) r I;have hA:=aiQ (w0:=w0) (ρ:=ρ) r I;have hG:=aiR (w0:=w0) (ρ:=ρ) r I;have W:=aeZ (w0:=w0) (ρ:=ρ) r I;have hGl:=UW r I;have E0:=Qs (w0:=w0) (ρ:=ρ) ds r.guard hd vM λx s=>(U x s).1.len;have O:=Qs (w0:=w0) (ρ:=ρ) ds r.body hd xA λx s=>(V x s).1.len;obtain⟨E,c⟩:∃E,E=nO ds r:=⟨_,rfl⟩;rw[<-c];obtain⟨n,j,h,g,b,v⟩:=r;dsimp only at C9 kD fe vM xA XO XP U V E0 O UD hA hG W hGl;obtain⟨AV,X⟩:∃AV,AV=tB ⟨n,j,h,g,b,v⟩:=⟨_,rfl⟩;obtain⟨GV,Y⟩:∃GV,GV=yC ⟨n,j,h,g,b,v⟩:=⟨_,rfl⟩;obtain⟨S,ae6⟩:∃S,S=sV [g]:=⟨_,rfl⟩;rw[<-X]at UD hA hav;rw[<-Y]at hG hgv;rw[<-ae6]at W hGl;rw[nO]at c;have hS:z8 ⟨n,j,h,g,b,v⟩=(decide (0 < j.length+h.length) && decide (j.length+h.length<=4) && decide (g.length<=12) && decide (b.length<=12)):=rfl;refine K1 am4.2 (by simp[Tryz.ntmps67]) ?_;refine gq aX ?_
 repeat' (first
  |refine ad.qp rfl rfl (λd=>?_) (λd=>?_)<;>(try simp only[bL]at d)<;>(first|exact absurd d (by decide)|refine gq aX ?_)
  |refine nM rfl (by first|rfl ) ?_
  |refine cg aX (λd=>?_) λd=>?_
  |refine lg aX λm hm=>?_
  |refine ag aX λ_ _=>?_
  )
 all_goals first
  |rw[dx (by rw[hS];simp[cH];omega)]at c;rw[c,hS];simp[cH];omega
  |skip
 rw[bD (by rw[hS];simp[cH];omega),K4]at c;dsimp only at c;clear hS;have rJ:Pure (.agg [cL ρ j,cL ρ h]):=.agg λa H=>by simp only[ad_,as_,or_false]at H;rcases H with rfl|rfl<;>exact dk _
 refine ad.aK (σ:=Int) 0 0 [] (λq=>[(0,.ip (iE ρ ⟨n,j,h,g,b,v⟩)),(1,.ip [ft ρ ds]),(55,.agg [cL ρ j,cL ρ h]),(56,.v (.int .i64 q))]) [] (λ_=>[]) (λq=>(q=0/\E=bj (aQ vO j) (bj (aQ vO h) (wc ds ⟨n,j,h,g,b,v⟩)))\/(q=1/\E=bj (aQ vO h) (wc ds ⟨n,j,h,g,b,v⟩))\/(q=2/\E=wc ds ⟨n,j,h,g,b,v⟩)) (λq=>2 - q.toNat) 0 (.inl ⟨rfl,c⟩) rfl cq ?_;rintro q0 hI;rcases hI with ⟨rfl,c⟩|⟨rfl,c⟩|⟨rfl,c⟩
 ·refine gq aX ?_
  repeat' (first
   |refine og aX (ae.wL rfl rfl rfl (by decide) (by decide)) ?_
   |refine ad.int rfl (ae.len rfl) λC D=>?_;rw[au]at D;refine gq aX ?_
   |exact absurd d (by decide)
   |refine cg aX (λd=>?_) λd=>?_
   )
  all_goals first
   |skip
  refine ad.aK (σ:=Int) 0 0 [] (λq=>[(0,.ip (iE ρ ⟨n,j,h,g,b,v⟩)),(1,.ip [ft ρ ds]),(55,.agg [cL ρ j,cL ρ h]),(56,.v (.int .i64 0)),(59,cL ρ j),(60,.v (.int .i64 C)),(61,.v (.int .i64 q))]) [] (λ_=>[]) (λq=>∃k:Nat,q=k/\k<=j.length/\E=bj (aQ vO (j.drop k)) (bj (aQ vO h) (wc ds ⟨n,j,h,g,b,v⟩))) (λq=>j.length - q.toNat) 0 ⟨0,rfl,by simp,by simpa using c⟩ rfl cq ?_;rintro q ⟨k,y,P,c⟩;refine gq aX ?_;by_cases z:k < j.length
  ·obtain⟨x,s,A⟩:=aD z;rw[A,aQ,cB]at c;have J:=aa_ s;obtain⟨G,K⟩:=XO x J;have M:=zI (w0:=w0) (ρ:=ρ) x ⟨G.len,G.1⟩ K;obtain⟨B,w⟩:∃B,B=fH x:=⟨_,rfl⟩;obtain⟨F,o⟩:∃F,F=vO x:=⟨_,rfl⟩;rw[<-o]at c;rw[vO,<-w]at o;rw[<-w]at M;clear w;obtain⟨Z,Q⟩:=x
   repeat' (first
    |refine og aX (ae.ind rfl rfl (aB (l:=j) y s) (aA λ_=>rfl)) ?_
    |apply bK aX M
    |refine ad.qp rfl rfl (λd=>?_) (λd=>?_)<;>(try simp only[bL]at d)<;>(first|refine gq aX ?_)
    |refine ad.vt ?_;refine gq aX ?_
    |refine nM rfl (by first|rfl ) ?_
    |refine cg aX (λd=>?_) λd=>?_
    |refine ag aX λ_ _=>?_
    |refine ad.ao ?_;refine gq aX ?_
    )
   all_goals first
    |exfalso;omega
    |(have e:F=0:=by (rw[o,d];rfl)
      rw[bD e]at c;refine ad.az (σ:=Int) _ [] ?_ ?_ cq<;>first|omega|exact⟨k+1,by omega,by omega,c⟩)
    |(have e:F=2:=by (rw[o,d];rfl)
      rw[dx (by rw[e];decide)]at c;rw[c,e])
  ·rw[ak_ (by omega),aQ,bD rfl]at c
   repeat' (first
    |refine cg aX (λd=>?_) λd=>?_
    |refine ag aX λ_ _=>?_
    |refine ad.ao ?_;refine gq aX ?_
    )
   all_goals first
    |exfalso;omega
    |skip
   refine ad.az (σ:=Int) _ [] ?_ ?_ cq<;>first|omega
 ·refine gq aX ?_
  repeat' (first
   |refine og aX (ae.wL rfl rfl rfl (by decide) (by decide)) ?_
   |refine ad.int rfl (ae.len rfl) λC D=>?_;rw[au]at D;refine gq aX ?_
   |exact absurd d (by decide)
   |refine cg aX (λd=>?_) λd=>?_
   )
  all_goals first
   |skip
  refine ad.aK (σ:=Int) 0 0 [] (λq=>[(0,.ip (iE ρ ⟨n,j,h,g,b,v⟩)),(1,.ip [ft ρ ds]),(55,.agg [cL ρ j,cL ρ h]),(56,.v (.int .i64 1)),(59,cL ρ h),(60,.v (.int .i64 C)),(61,.v (.int .i64 q))]) [] (λ_=>[]) (λq=>∃k:Nat,q=k/\k<=h.length/\E=bj (aQ vO (h.drop k)) (wc ds ⟨n,j,h,g,b,v⟩)) (λq=>h.length - q.toNat) 0 ⟨0,rfl,by simp,by simpa using c⟩ rfl cq ?_;rintro q ⟨k,y,P,c⟩;refine gq aX ?_;by_cases z:k < h.length
  ·obtain⟨x,s,A⟩:=aD z;rw[A,aQ,cB]at c;have J:=aa_ s;obtain⟨G,K⟩:=XP x J;have M:=zI (w0:=w0) (ρ:=ρ) x ⟨G.len,G.1⟩ K;obtain⟨B,w⟩:∃B,B=fH x:=⟨_,rfl⟩;obtain⟨F,o⟩:∃F,F=vO x:=⟨_,rfl⟩;rw[<-o]at c;rw[vO,<-w]at o;rw[<-w]at M;clear w;obtain⟨Z,Q⟩:=x
   repeat' (first
    |refine og aX (ae.ind rfl rfl (aB (l:=h) y s) (aA λ_=>rfl)) ?_
    |apply bK aX M
    |refine ad.qp rfl rfl (λd=>?_) (λd=>?_)<;>(try simp only[bL]at d)<;>(first|refine gq aX ?_)
    |refine ad.vt ?_;refine gq aX ?_
    |refine nM rfl (by first|rfl ) ?_
    |refine cg aX (λd=>?_) λd=>?_
    |refine ag aX λ_ _=>?_
    |refine ad.ao ?_;refine gq aX ?_
    )
   all_goals first
    |exfalso;omega
    |(have e:F=0:=by (rw[o,d];rfl)
      rw[bD e]at c;refine ad.az (σ:=Int) _ [] ?_ ?_ cq<;>first|omega|exact⟨k+1,by omega,by omega,c⟩)
    |(have e:F=2:=by (rw[o,d];rfl)
      rw[dx (by rw[e];decide)]at c;rw[c,e])
  ·rw[ak_ (by omega),aQ,bD rfl]at c
   repeat' (first
    |refine cg aX (λd=>?_) λd=>?_
    |refine ag aX λ_ _=>?_
    |refine ad.ao ?_;refine gq aX ?_
    )
   all_goals first
    |exfalso;omega
    |skip
   refine ad.az (σ:=Int) _ [] ?_ ?_ cq<;>first|omega
 refine gq aX ?_
 repeat' (first
  |exact absurd d (by decide)
  |refine cg aX (λd=>?_) λd=>?_
  |refine ad.ao ?_;refine gq aX ?_
  )
 all_goals first
  |skip
 rw[wc]at c;dsimp only at c;have rJ:Pure (.agg [cE ρ g,cE ρ b]):=.agg λa H=>by simp only[ad_,as_,or_false]at H;rcases H with rfl|rfl<;>exact dM _
 refine ad.aK (σ:=Int) 0 0 [] (λq=>[(0,.ip (iE ρ ⟨n,j,h,g,b,v⟩)),(1,.ip [ft ρ ds]),(74,.agg [cE ρ g,cE ρ b]),(75,.v (.int .i64 q))]) [] (λ_=>[]) (λq=>(q=0/\E=bj (aQ uN g) (bj (aQ uN b) (wb ds ⟨n,j,h,g,b,v⟩)))\/(q=1/\E=bj (aQ uN b) (wb ds ⟨n,j,h,g,b,v⟩))\/(q=2/\E=wb ds ⟨n,j,h,g,b,v⟩)) (λq=>2 - q.toNat) 0 (.inl ⟨rfl,c⟩) rfl cq ?_;rintro q0 hI;rcases hI with ⟨rfl,c⟩|⟨rfl,c⟩|⟨rfl,c⟩
 ·refine gq aX ?_
  repeat' (first
   |refine og aX (ae.wL rfl rfl rfl (by decide) (by decide)) ?_
   |refine ad.int rfl (ae.len rfl) λC D=>?_;rw[au]at D;refine gq aX ?_
   |exact absurd d (by decide)
   |refine cg aX (λd=>?_) λd=>?_
   )
  all_goals first
   |skip
  refine ad.aK (σ:=Int) 0 0 [] (λq=>[(0,.ip (iE ρ ⟨n,j,h,g,b,v⟩)),(1,.ip [ft ρ ds]),(74,.agg [cE ρ g,cE ρ b]),(75,.v (.int .i64 0)),(78,cE ρ g),(79,.v (.int .i64 C)),(80,.v (.int .i64 q))]) [] (λ_=>[]) (λq=>∃k:Nat,q=k/\k<=g.length/\E=bj (aQ uN (g.drop k)) (bj (aQ uN b) (wb ds ⟨n,j,h,g,b,v⟩))) (λq=>g.length - q.toNat) 0 ⟨0,rfl,by simp,by simpa using c⟩ rfl cq ?_;rintro q ⟨k,y,P,c⟩;refine gq aX ?_;by_cases z:k < g.length
  ·obtain⟨x,s,A⟩:=aD z;rw[A,aQ,cB]at c;have J:=aa_ s;obtain⟨G,K⟩:=U x J;have M:=zJ (w0:=w0) (ρ:=ρ) x ⟨G.len,G.1⟩ K;obtain⟨B,w⟩:∃B,B=dE x:=⟨_,rfl⟩;obtain⟨F,o⟩:∃F,F=uN x:=⟨_,rfl⟩;rw[<-o]at c;rw[uN,<-w]at o;rw[<-w]at M;clear w;obtain⟨xo,Z,Q⟩:=x
   repeat' (first
    |refine og aX (ae.ind rfl rfl (aB (l:=g) y s) (aA λ_=>rfl)) ?_
    |apply bK aX M
    |refine ad.qp rfl rfl (λd=>?_) (λd=>?_)<;>(try simp only[bL]at d)<;>(first|refine gq aX ?_)
    |refine ad.vt ?_;refine gq aX ?_
    |refine nM rfl (by first|rfl ) ?_
    |refine cg aX (λd=>?_) λd=>?_
    |refine ag aX λ_ _=>?_
    |refine ad.ao ?_;refine gq aX ?_
    )
   all_goals first
    |exfalso;omega
    |(have e:F=0:=by (rw[o,d];rfl)
      rw[bD e]at c;refine ad.az (σ:=Int) _ [] ?_ ?_ cq<;>first|omega|exact⟨k+1,by omega,by omega,c⟩)
    |(have e:F=2:=by (rw[o,d];rfl)
      rw[dx (by rw[e];decide)]at c;rw[c,e])
  ·rw[ak_ (by omega),aQ,bD rfl]at c
   repeat' (first
    |refine cg aX (λd=>?_) λd=>?_
    |refine ag aX λ_ _=>?_
    |refine ad.ao ?_;refine gq aX ?_
    )
   all_goals first
    |exfalso;omega
    |skip
   refine ad.az (σ:=Int) _ [] ?_ ?_ cq<;>first|omega
 ·refine gq aX ?_
  repeat' (first
   |refine og aX (ae.wL rfl rfl rfl (by decide) (by decide)) ?_
   |refine ad.int rfl (ae.len rfl) λC D=>?_;rw[au]at D;refine gq aX ?_
   |exact absurd d (by decide)
   |refine cg aX (λd=>?_) λd=>?_
   )
  all_goals first
   |skip
  refine ad.aK (σ:=Int) 0 0 [] (λq=>[(0,.ip (iE ρ ⟨n,j,h,g,b,v⟩)),(1,.ip [ft ρ ds]),(74,.agg [cE ρ g,cE ρ b]),(75,.v (.int .i64 1)),(78,cE ρ b),(79,.v (.int .i64 C)),(80,.v (.int .i64 q))]) [] (λ_=>[]) (λq=>∃k:Nat,q=k/\k<=b.length/\E=bj (aQ uN (b.drop k)) (wb ds ⟨n,j,h,g,b,v⟩)) (λq=>b.length - q.toNat) 0 ⟨0,rfl,by simp,by simpa using c⟩ rfl cq ?_;rintro q ⟨k,y,P,c⟩;refine gq aX ?_;by_cases z:k < b.length
  ·obtain⟨x,s,A⟩:=aD z;rw[A,aQ,cB]at c;have J:=aa_ s;obtain⟨G,K⟩:=V x J;have M:=zJ (w0:=w0) (ρ:=ρ) x ⟨G.len,G.1⟩ K;obtain⟨B,w⟩:∃B,B=dE x:=⟨_,rfl⟩;obtain⟨F,o⟩:∃F,F=uN x:=⟨_,rfl⟩;rw[<-o]at c;rw[uN,<-w]at o;rw[<-w]at M;clear w;obtain⟨xo,Z,Q⟩:=x
   repeat' (first
    |refine og aX (ae.ind rfl rfl (aB (l:=b) y s) (aA λ_=>rfl)) ?_
    |apply bK aX M
    |refine ad.qp rfl rfl (λd=>?_) (λd=>?_)<;>(try simp only[bL]at d)<;>(first|refine gq aX ?_)
    |refine ad.vt ?_;refine gq aX ?_
    |refine nM rfl (by first|rfl ) ?_
    |refine cg aX (λd=>?_) λd=>?_
    |refine ag aX λ_ _=>?_
    |refine ad.ao ?_;refine gq aX ?_
    )
   all_goals first
    |exfalso;omega
    |(have e:F=0:=by (rw[o,d];rfl)
      rw[bD e]at c;refine ad.az (σ:=Int) _ [] ?_ ?_ cq<;>first|omega|exact⟨k+1,by omega,by omega,c⟩)
    |(have e:F=2:=by (rw[o,d];rfl)
      rw[dx (by rw[e];decide)]at c;rw[c,e])
  ·rw[ak_ (by omega),aQ,bD rfl]at c
   repeat' (first
    |refine cg aX (λd=>?_) λd=>?_
    |refine ag aX λ_ _=>?_
    |refine ad.ao ?_;refine gq aX ?_
    )
   all_goals first
    |exfalso;omega
    |skip
   refine ad.az (σ:=Int) _ [] ?_ ?_ cq<;>first|omega
 refine gq aX ?_
 repeat' (first
  |exact absurd d (by decide)
  |refine cg aX (λd=>?_) λd=>?_
  |refine ad.ao ?_;refine gq aX ?_
  )
 all_goals first
  |skip
 have UX:wb ds ⟨n,j,h,g,b,v⟩=xz (tB ⟨n,j,h,g,b,v⟩++yC ⟨n,j,h,g,b,v⟩) 0 λn'=>bj (cH (decide (v=n')) 2) (Be ds ⟨n,j,h,g,b,v⟩):=rfl;rw[UX,<-X,<-Y]at c;clear UX;obtain⟨len,hlen,b9⟩:=UD;have qe:Pure (.sl true [[cL ρ j],[cL ρ h]]):=.sl λrow I a H=>by simp only[ad_,as_,or_false]at I;rcases I with rfl|rfl<;>(obtain rfl:=ae_.1 H;exact dk _)
 have cV:Pure (.sl true [[cE ρ g],[cE ρ b]]):=.sl λrow I a H=>by simp only[ad_,as_,or_false]at I;rcases I with rfl|rfl<;>(obtain rfl:=ae_.1 H;exact dM _)
 have hp3:Pure (.sl true [[cE ρ g]]):=.sl λrow I a H=>by obtain rfl:=ae_.1 I;obtain rfl:=ae_.1 H;exact dM _
 refine ad.aeo rfl b9 rfl ⟨Rn.pure qe,trivial⟩ (Rb.gr rfl) ⟨⟨0,_,rfl,rfl,me.pure kF⟩,trivial⟩ rfl ?_;refine gq aX ?_;refine ad.cP rfl (λT=>pl hG) ?_;refine gq aX ?_;refine ad.Sc (f:=aI) rfl rfl rfl hlen (λ_=>rfl) rfl (λ_=>rfl) (λ_=>rfl) (by omega) λL iU hL sU=>?_;refine gq aX ?_;obtain⟨kk,UX⟩:∃kk:Int->Int,kk=λn'=>bj (cH (decide (v=n')) 2) (Be ds ⟨n,j,h,g,b,v⟩):=⟨_,rfl⟩;rw[<-UX,<-hL]at c;have uO:L.length<=1099511627776:=by rw[hL,af_];omega
 refine ad.WN rfl (λT=>ae.iz rfl) λm3 uP=>?_;refine gq aX ?_;refine ad.cv (Cv.freeze (t:=101) rfl rfl (.inl rfl) (sU.trans (au (ρ:=ρ) (f:=aI)).symm) (ax_ _)) ?_;refine ad.aK (σ:=Int × Int) 3 3 [] (λp=>[(0,.ip (iE ρ ⟨n,j,h,g,b,v⟩)),(1,.ip [ft ρ ds]),(11,.v (.int .i64 p.2)),(101,aR ρ aI false L),(102,.v (.int .i64 m3)),(103,.v (.int .i64 p.1))]) [] (λ_=>[]) (λp=>∃k:Nat,p.1=k/\k<=L.length/\0<=p.2/\p.2<=k/\E=xz (L.drop k) p.2 kk) (λp=>L.length - p.1.toNat) (0,0) ⟨0,rfl,by simp,by simp,by simp,by simpa using c⟩ rfl cq ?_;rintro⟨i,nx⟩ ⟨k,y,P,MW,dC,c⟩;simp only at y MW dC c;refine gq aX ?_;by_cases z:k < L.length
 ·obtain⟨x,s,A⟩:=aD z;rw[A,xz]at c
  repeat' (first
   |refine og aX (ae.ind rfl rfl (aB (l:=L) y s) (aA λ_=>rfl)) ?_
   |refine ad.qp rfl rfl (λd=>?_) (λd=>?_)<;>(try simp only[bL]at d)<;>(first|exact absurd d (by decide)|refine gq aX ?_)
   |refine ad.vt ?_;refine gq aX ?_
   |refine nM rfl (by first|rfl ) ?_
   |refine cg aX (λd=>?_) λd=>?_
   |refine ag aX λ_ _=>?_
   |refine ad.ao ?_;refine gq aX ?_
   )
  all_goals first
   |exfalso;omega
   |(rw[if_pos (by omega),if_pos (by omega)]at c
     refine ad.az (σ:=Int × Int) (_,_) [] ?_ ?_ cq
     ·exact⟨k+1,by simp only;omega,by omega,by simp only;omega,by simp only;omega,by rw[c];congr 1;simp only;omega⟩
     ·simp only;omega)
   |(rw[if_pos (by omega),if_neg (by omega)]at c
     refine ad.az (σ:=Int × Int) (_,_) [] ?_ ?_ cq
     ·exact⟨k+1,by simp only;omega,by omega,by simp only;omega,by simp only;omega,c⟩
     ·simp only;omega)
   |rw[if_neg (by omega)]at c;exact c
 rw[ak_ (by omega),xz]at c;subst UX;simp only at c;refine ad.bif rfl (ae.bit rfl) (λd=>?_) (λd=>?_)<;>(try simp only[decide_eq_true_eq,decide_eq_false_iff_not,beq_iff_eq,beq_eq_false_iff_ne,bne_iff_ne,bne_eq_false_iff_eq,cJ_,Bool.not_eq_false,bO_,Bool.not_eq_false',ne_eq]at d)
 ·exfalso;omega
 refine gq aX ?_;refine ad.ao ?_;refine gq aX ?_;refine ad.bif rfl (ae.bit rfl) (λd=>?_) (λd=>?_)<;>(try simp only[decide_eq_true_eq,decide_eq_false_iff_not,beq_iff_eq,beq_eq_false_iff_ne,bne_iff_ne,bne_eq_false_iff_eq,cJ_,Bool.not_eq_false,bO_,Bool.not_eq_false',ne_eq]at d)<;>refine gq aX ?_
 rotate_left
 ·refine ad.qp rfl rfl (λhc=>absurd hc (by decide)) (λhc=>?_);refine gq aX ?_;refine nM rfl rfl ?_;rw[decide_eq_false (by omega)]at c;exact c
 refine ad.qp rfl rfl (λhc=>?_) (λhc=>absurd hc (by decide));refine gq aX ?_;rw[decide_eq_true (by omega),show cH true 2=0 from rfl,bD rfl]at c;have hN:=zz (w0:=w0) n C9;rw[Be]at c;dsimp only at c;refine ad.amn (σ:=Int) 0 3 3 (λ_=>[(0,.ip (iE ρ ⟨n,j,h,g,b,v⟩)),(1,.ip [ft ρ ds])]) [] (λ_=>[]) (λ_=>E=Hw ds ⟨n,j,h,g,b,v⟩) rfl ?_ ?_
 ·obtain⟨NB,xB⟩:∃NB,NB=mC n:=⟨_,rfl⟩;rw[<-xB]at c hN;obtain⟨ne,dm⟩:∃ne,ne=(n.toList == (⟨#[]⟩:ByteArray).toList):=⟨_,rfl⟩;rw[<-dm]at c
  repeat' (first
   |refine bg aX (ae.bit rfl) (λhs=>?_) λhs=>?_
   |refine bg aX (pl hN) (λ_=>?_) λ_=>?_
   |refine ad.amJ ?_;refine gq aX ?_
   |refine ad.qp rfl rfl (λd=>?_) (λd=>?_)<;>(try simp only[bL]at d)<;>(first|exact absurd d (by decide)|refine gq aX ?_)
   |refine nM rfl (by first|rfl ) ?_
   )
  all_goals first
   |rw[show NB=true by assumption,cK_,show cH true 7=0 from rfl,bD rfl]at c;exact ad.adu (0:Int) [] c rfl cq
   |rw[show NB=false by assumption,show ne=false by (rw[dm];first|exact hs )]at c;exact c
   |rw[show ne=true by (rw[dm];first|exact hs ),cA_,show cH true 7=0 from rfl,bD rfl]at c;exact ad.adu (0:Int) [] c rfl cq
 rintro s0 c;clear hL uO hN b9 hG Y;refine gq aX ?_;rw[Hw]at c;dsimp only at c;have rJ:Pure (.agg [cL ρ j,cL ρ h]):=.agg λa H=>by simp only[ad_,as_,or_false]at H;rcases H with rfl|rfl<;>exact dk _
 refine ad.aK (σ:=Int) 3 3 [] (λq=>[(0,.ip (iE ρ ⟨n,j,h,g,b,v⟩)),(1,.ip [ft ρ ds]),(135,.agg [cL ρ j,cL ρ h]),(136,.v (.int .i64 q))]) [] (λ_=>[]) (λq=>(q=0/\E=bj (aQ (zZ ds) j) (bj (aQ (zZ ds) h) (wa ds ⟨n,j,h,g,b,v⟩)))\/(q=1/\E=bj (aQ (zZ ds) h) (wa ds ⟨n,j,h,g,b,v⟩))\/(q=2/\E=wa ds ⟨n,j,h,g,b,v⟩)) (λq=>2 - q.toNat) 0 (.inl ⟨rfl,c⟩) rfl cq ?_;rintro q0 hI;rcases hI with ⟨rfl,c⟩|⟨rfl,c⟩|⟨rfl,c⟩
 ·refine gq aX ?_
  repeat' (first
   |refine og aX (ae.wL rfl rfl rfl (by decide) (by decide)) ?_
   |refine ad.int rfl (ae.len rfl) λC D=>?_;rw[au]at D;refine gq aX ?_
   |exact absurd d (by decide)
   |refine cg aX (λd=>?_) λd=>?_
   )
  all_goals first
   |skip
  refine ad.aK (σ:=Int) 3 3 [] (λq=>[(0,.ip (iE ρ ⟨n,j,h,g,b,v⟩)),(1,.ip [ft ρ ds]),(135,.agg [cL ρ j,cL ρ h]),(136,.v (.int .i64 0)),(139,cL ρ j),(140,.v (.int .i64 C)),(141,.v (.int .i64 q))]) [] (λ_=>[]) (λq=>∃k:Nat,q=k/\k<=j.length/\E=bj (aQ (zZ ds) (j.drop k)) (bj (aQ (zZ ds) h) (wa ds ⟨n,j,h,g,b,v⟩))) (λq=>j.length - q.toNat) 0 ⟨0,rfl,by simp,by simpa using c⟩ rfl cq ?_;rintro q ⟨k,y,P,c⟩;refine gq aX ?_;by_cases z:k < j.length
  ·obtain⟨x,s,A⟩:=aD z;rw[A,aQ,cB]at c;have J:=aa_ s;obtain⟨G,K⟩:=XO x J;have pY:=G.len;obtain⟨F,o⟩:∃F,F=zZ ds x:=⟨_,rfl⟩;rw[<-o]at c;have R:=IT (w0:=w0) (ρ:=ρ) ds x.n x.a.length hd;rw[show oS ds x.n x.a.length=F from o.symm]at R;clear o G K;obtain⟨Z,Q⟩:=x;dsimp only at R pY;obtain⟨q3,B1⟩:∃q:Int,q=Q.length:=⟨_,rfl⟩;rw[<-B1]at R
   repeat' (first
    |refine og aX (ae.ind rfl rfl (aB (l:=j) y s) (aA λ_=>rfl)) ?_
    |refine ad.int rfl (ae.len rfl) λm3 uP=>?_;rw[au]at uP;obtain rfl:m3=q3:=(by omega);refine gq aX ?_
    |refine ad.qI rfl rfl (R) (by repeat' (first|exact trivial|(refine⟨?_,?_⟩;(first|exact .v|exact fW _ )))) (λN=>?_) (λN=>?_)<;>refine gq aX ?_
    |refine ad.vt ?_;refine gq aX ?_
    |refine nM rfl (by first|exact decide_eq_false (by assumption)) ?_
    |refine cg aX (λd=>?_) λd=>?_
    |refine ag aX λ_ _=>?_
    |refine ad.ao ?_;refine gq aX ?_
    )
   all_goals first
    |exfalso;omega
    |(have e:F=0:=N
      rw[bD e]at c;refine ad.az (σ:=Int) _ [] ?_ ?_ cq<;>first|omega|exact⟨k+1,by omega,by omega,c⟩)
    |(rw[dx N]at c
      exact c)
  ·rw[ak_ (by omega),aQ,bD rfl]at c
   repeat' (first
    |refine cg aX (λd=>?_) λd=>?_
    |refine ag aX λ_ _=>?_
    |refine ad.ao ?_;refine gq aX ?_
    )
   all_goals first
    |exfalso;omega
    |skip
   refine ad.az (σ:=Int) _ [] ?_ ?_ cq<;>first|omega
 ·refine gq aX ?_
  repeat' (first
   |refine og aX (ae.wL rfl rfl rfl (by decide) (by decide)) ?_
   |refine ad.int rfl (ae.len rfl) λC D=>?_;rw[au]at D;refine gq aX ?_
   |exact absurd d (by decide)
   |refine cg aX (λd=>?_) λd=>?_
   )
  all_goals first
   |skip
  refine ad.aK (σ:=Int) 3 3 [] (λq=>[(0,.ip (iE ρ ⟨n,j,h,g,b,v⟩)),(1,.ip [ft ρ ds]),(135,.agg [cL ρ j,cL ρ h]),(136,.v (.int .i64 1)),(139,cL ρ h),(140,.v (.int .i64 C)),(141,.v (.int .i64 q))]) [] (λ_=>[]) (λq=>∃k:Nat,q=k/\k<=h.length/\E=bj (aQ (zZ ds) (h.drop k)) (wa ds ⟨n,j,h,g,b,v⟩)) (λq=>h.length - q.toNat) 0 ⟨0,rfl,by simp,by simpa using c⟩ rfl cq ?_;rintro q ⟨k,y,P,c⟩;refine gq aX ?_;by_cases z:k < h.length
  ·obtain⟨x,s,A⟩:=aD z;rw[A,aQ,cB]at c;have J:=aa_ s;obtain⟨G,K⟩:=XP x J;have pY:=G.len;obtain⟨F,o⟩:∃F,F=zZ ds x:=⟨_,rfl⟩;rw[<-o]at c;have R:=IT (w0:=w0) (ρ:=ρ) ds x.n x.a.length hd;rw[show oS ds x.n x.a.length=F from o.symm]at R;clear o G K;obtain⟨Z,Q⟩:=x;dsimp only at R pY;obtain⟨q3,B1⟩:∃q:Int,q=Q.length:=⟨_,rfl⟩;rw[<-B1]at R
   repeat' (first
    |refine og aX (ae.ind rfl rfl (aB (l:=h) y s) (aA λ_=>rfl)) ?_
    |refine ad.int rfl (ae.len rfl) λm3 uP=>?_;rw[au]at uP;obtain rfl:m3=q3:=(by omega);refine gq aX ?_
    |refine ad.qI rfl rfl (R) (by repeat' (first|exact trivial|(refine⟨?_,?_⟩;(first|exact .v|exact fW _ )))) (λN=>?_) (λN=>?_)<;>refine gq aX ?_
    |refine ad.vt ?_;refine gq aX ?_
    |refine nM rfl (by first|exact decide_eq_false (by assumption)) ?_
    |refine cg aX (λd=>?_) λd=>?_
    |refine ag aX λ_ _=>?_
    |refine ad.ao ?_;refine gq aX ?_
    )
   all_goals first
    |exfalso;omega
    |(have e:F=0:=N
      rw[bD e]at c;refine ad.az (σ:=Int) _ [] ?_ ?_ cq<;>first|omega|exact⟨k+1,by omega,by omega,c⟩)
    |(rw[dx N]at c
      exact c)
  ·rw[ak_ (by omega),aQ,bD rfl]at c
   repeat' (first
    |refine cg aX (λd=>?_) λd=>?_
    |refine ag aX λ_ _=>?_
    |refine ad.ao ?_;refine gq aX ?_
    )
   all_goals first
    |exfalso;omega
    |skip
   refine ad.az (σ:=Int) _ [] ?_ ?_ cq<;>first|omega
 refine gq aX ?_
 repeat' (first
  |exact absurd d (by decide)
  |refine cg aX (λd=>?_) λd=>?_
  |refine ad.ao ?_;refine gq aX ?_
  )
 all_goals first
  |skip
 rw[wa]at c;dsimp only at c;obtain⟨F1,B2⟩:∃F,F=kG ds g:=⟨_,rfl⟩;obtain⟨F2,E4⟩:∃F,F=kG ds b:=⟨_,rfl⟩;rw[<-B2]at c E0;rw[<-E4]at c O
 repeat' (first
  |refine ad.int rfl (ae.len rfl) λC D=>?_;rw[au]at D;refine gq aX ?_
  |refine ad.qI rfl rfl (E0) (by repeat' (first|exact trivial|(refine⟨?_,?_⟩;(first|exact dM _|exact fW _ )))) (λN=>?_) (λN=>?_)<;>refine gq aX ?_
  |refine ad.qI rfl rfl (O) (by repeat' (first|exact trivial|(refine⟨?_,?_⟩;(first|exact dM _|exact fW _ )))) (λN=>?_) (λN=>?_)<;>refine gq aX ?_
  |refine nM rfl (by first|exact decide_eq_false (by assumption)) ?_
  )
 all_goals first
  |rw[bD (e:=F1) (by assumption),dx (e:=F2) (by assumption)]at c;exact c
  |rw[dx (e:=F1) (by assumption)]at c;exact c
  |skip
 rw[bD (e:=F1) (by assumption),bD (e:=F2) (by assumption),K3]at c;dsimp only at c;clear B2 E4 E0 O;refine ad.aK (σ:=Int) 3 3 [] (λq=>[(0,.ip (iE ρ ⟨n,j,h,g,b,v⟩)),(1,.ip [ft ρ ds]),(163,cE ρ g),(164,.v (.int .i64 C)),(165,.v (.int .i64 q))]) [] (λ_=>[]) (λq=>∃k:Nat,q=k/\k<=g.length/\E=bj (aQ Hv (g.drop k)) (bj (aQ De b) (Em ⟨n,j,h,g,b,v⟩))) (λq=>g.length - q.toNat) 0 ⟨0,rfl,by simp,by simpa using c⟩ rfl cq ?_;rintro q ⟨k,y,P,c⟩;refine gq aX ?_;by_cases z:k < g.length
 ·obtain⟨x,s,A⟩:=aD z;rw[A,aQ,cB]at c;have J:=aa_ s;have hT:=UL (w0:=w0) x.op;obtain⟨B,w⟩:∃B,B=nN x.op:=⟨_,rfl⟩;obtain⟨F,o⟩:∃F,F=Hv x:=⟨_,rfl⟩;rw[<-o]at c;rw[Hv,<-w]at o;rw[<-w]at hT;clear w;obtain⟨xo,Z,Q⟩:=x;dsimp only at hT o
  repeat' (first
   |refine og aX (ae.ind rfl rfl (aB (l:=g) y s) (aA λ_=>rfl)) ?_
   |refine bg aX (pl hT) (λ_=>?_) λ_=>?_
   |refine ad.qp rfl rfl (λd=>?_) (λd=>?_)<;>(try simp only[bL]at d)<;>(first|exact absurd d (by decide)|refine gq aX ?_)
   |refine ad.vt ?_;refine gq aX ?_
   |refine nM rfl (by first|rfl ) ?_
   |refine cg aX (λd=>?_) λd=>?_
   |refine lg aX λm hm=>?_
   |refine ag aX λ_ _=>?_
   |refine ad.ao ?_;refine gq aX ?_
   )
  all_goals first
   |exfalso;omega
   |(have e:F=0:=by (first|(rw[o,show B=true by assumption];rfl)|(rw[o,decide_eq_true (show xo=1 by omega),cK_];rfl))
     rw[bD e]at c;refine ad.az (σ:=Int) _ [] ?_ ?_ cq<;>first|omega|exact⟨k+1,by omega,by omega,c⟩)
   |(have e:F=10:=by (rw[o,show B=false by assumption,decide_eq_false (show ¬ xo=1 by omega)];rfl)
     rw[dx (by rw[e];decide)]at c;rw[c,e])
 rw[ak_ (by omega),aQ,bD rfl]at c
 repeat' (first
  |refine ad.int rfl (ae.len rfl) λC D=>?_;rw[au]at D;refine gq aX ?_
  |refine cg aX (λd=>?_) λd=>?_
  |refine ad.ao ?_;refine gq aX ?_
  )
 all_goals first
  |exfalso;omega
  |skip
 refine ad.aK (σ:=Int) 3 3 [] (λq=>[(0,.ip (iE ρ ⟨n,j,h,g,b,v⟩)),(1,.ip [ft ρ ds]),(180,cE ρ b),(181,.v (.int .i64 C)),(182,.v (.int .i64 q))]) [] (λ_=>[]) (λq=>∃k:Nat,q=k/\k<=b.length/\E=bj (aQ De (b.drop k)) (Em ⟨n,j,h,g,b,v⟩)) (λq=>b.length - q.toNat) 0 ⟨0,rfl,by simp,by simpa using c⟩ rfl cq ?_;rintro q ⟨k,y,P,c⟩;refine gq aX ?_;by_cases z:k < b.length
 ·obtain⟨x,s,A⟩:=aD z;rw[A,aQ,cB]at c;have J:=aa_ s;have hT:=UL (w0:=w0) x.op;obtain⟨B,w⟩:∃B,B=nN x.op:=⟨_,rfl⟩;obtain⟨F,o⟩:∃F,F=De x:=⟨_,rfl⟩;rw[<-o]at c;rw[De,<-w]at o;rw[<-w]at hT;clear w;obtain⟨xo,Z,Q⟩:=x;dsimp only at hT o
  repeat' (first
   |refine og aX (ae.ind rfl rfl (aB (l:=b) y s) (aA λ_=>rfl)) ?_
   |refine bg aX (pl hT) (λ_=>?_) λ_=>?_
   |refine ad.qp rfl rfl (λd=>?_) (λd=>?_)<;>(try simp only[bL]at d)<;>(first|exact absurd d (by decide)|refine gq aX ?_)
   |refine ad.vt ?_;refine gq aX ?_
   |refine nM rfl (by first|rfl ) ?_
   |refine cg aX (λd=>?_) λd=>?_
   |refine ag aX λ_ _=>?_
   |refine ad.ao ?_;refine gq aX ?_
   )
  all_goals first
   |exfalso;omega
   |(have e:F=0:=by (rw[o,show B=false by assumption];rfl)
     rw[bD e]at c;refine ad.az (σ:=Int) _ [] ?_ ?_ cq<;>first|omega|exact⟨k+1,by omega,by omega,c⟩)
   |(have e:F=10:=by (rw[o,show B=true by assumption];rfl)
     rw[dx (by rw[e];decide)]at c;rw[c,e])
 rw[ak_ (by omega),aQ,bD rfl]at c
 repeat' (first
  |apply bK aX hA
  |apply bK aX W
  |refine ad.int rfl (ae.len rfl) λC D=>?_;rw[au]at D;refine gq aX ?_
  |refine cg aX (λd=>?_) λd=>?_
  |refine ad.ao ?_;refine gq aX ?_
  )
 all_goals first
  |exfalso;omega
  |skip
 rw[Em]at c;obtain⟨fK,hfK⟩:∃f,f=UU ⟨n,j,h,g,b,v⟩:=⟨_,rfl⟩;rw[<-hfK,<-ae6]at c;have MX:∀x,fK x=cH (AV.contains x) 17:=λx=>by rw[hfK,UU,<-X]
 refine ad.aK (σ:=Int) 3 3 [] (λq=>[(22,aR ρ aI false AV),(201,aR ρ aI false S),(202,.v (.int .i64 C)),(203,.v (.int .i64 q))]) [] (λ_=>[]) (λq=>∃k:Nat,q=k/\k<=S.length/\E=bj (aQ fK (S.drop k)) (0)) (λq=>S.length - q.toNat) 0 ⟨0,rfl,by simp,by simpa using c⟩ rfl cq ?_;rintro q ⟨k,y,P,c⟩;refine gq aX ?_;by_cases z:k < S.length
 ·obtain⟨x,s,A⟩:=aD z;rw[A,aQ,cB]at c;have J:=aa_ s;have hC:=Mo (w0:=w0) (ρ:=ρ) AV x (by omega);obtain⟨B,w⟩:∃B,B=AV.contains x:=⟨_,rfl⟩;have o:=MX x;rw[<-w]at o hC;obtain⟨F,B2⟩:∃F,F=fK x:=⟨_,rfl⟩;rw[<-B2]at c o;clear B2 w
  repeat' (first
   |refine og aX (ae.ind rfl rfl (aB (l:=S) y s) (aA λ_=>rfl)) ?_
   |refine bg aX (pl hC) (λ_=>?_) λ_=>?_
   |refine ad.qp rfl rfl (λd=>?_) (λd=>?_)<;>(try simp only[bL]at d)<;>(first|exact absurd d (by decide)|refine gq aX ?_)
   |refine ad.vt ?_;refine gq aX ?_
   |refine FR rfl (by conv=>lhs;cbv) ?_
   |refine nM rfl (by first|rfl ) ?_
   |refine cg aX (λd=>?_) λd=>?_
   |refine ag aX λ_ _=>?_
   |refine ad.ao ?_;refine gq aX ?_
   )
  all_goals first
   |exfalso;omega
   |(have e:F=0:=by (rw[o,show B=true by assumption];rfl)
     rw[bD e]at c;refine ad.az (σ:=Int) _ [] ?_ ?_ cq<;>first|omega|exact⟨k+1,by omega,by omega,c⟩)
   |(have e:F=17:=by (rw[o,show B=false by assumption];rfl)
     rw[dx (by rw[e];decide)]at c;rw[c,e])
 rw[ak_ (by omega),aQ,bD rfl]at c
 repeat' (first
  |refine FR rfl (by conv=>lhs;cbv) ?_
  |refine cg aX (λd=>?_) λd=>?_
  |refine ad.ao ?_;refine gq aX ?_
  )
 all_goals first
  |exfalso;omega
  |skip
 all_goals exact c
end
end
end Go.Proofs.YtbpabjmnhggajaaGreat
