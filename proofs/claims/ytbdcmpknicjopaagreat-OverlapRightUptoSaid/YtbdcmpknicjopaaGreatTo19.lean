import Derived.Test.YtbdcmpknicjopaaGreatTo18
namespace Go.Proofs.YtbdcmpknicjopaaGreat
set_option linter.all false
open Go.RowKit Proofs.Tryz
variable{O:Hd}{U:World}
section
set_option maxRecDepth 100000
attribute [local irreducible] aq aG D I
def aqb:=aD func157 call157
def bf:=[0,11,56,61,75,80,103,136,141,1,165,182,203,2,13,17,19,57,55,4,60,62,59,6,76,74,8,79,81,78,10,102,104,101,113,137,135,15,140,142,139,164,166,163,181,183,180,21,202,204,201,22,24]
def cX(b:Bool)(e:Int):Int:=if b then 0 else e
theorem dz{a b c:Int}:bG (bG a b) c=bG a (bG b c):=by unfold bG;split<;>simp_all
def aX{T:Type}(f:T->Int):List T->Int|[]=>0|x::l=>bG (f x) (aX f l)
theorem Cl(ds:List Dc)(l:List Gl):lW ds l=aX (vt ds) l:=by induction l with|nil=>rfl|cons x l a=>rw[lW,aX,a]
def Ap:List Int->Int->(Int->Int)->Int|[],n,k=>k n|v::a,n,k=>if v<=n then Ap a (if v=n then n+1 else n) k else 2
def Bt(x:At):Int:=cX (fw x) 2
def Aq(x:Gl):Int:=cX (dw x) 2
def E8(ds:List Dc)(x:At):Int:=sB ds x.n x.a.length
def Lc(x:Gl):Int:=cX (ny x.op||decide (x.op=1)) 10
def GC(x:Gl):Int:=cX (!ny x.op) 10
def vw(r:Rl):List Int:=Jf [r.aP,r.rem]
def Bu(r:Rl):List Int:=tw [r.guard,r.body]
def Zq(r:Rl)(x:Int):Int:=cX ((vw r).contains x) 17
def Is(r:Rl):Int:=bG (aX (Zq r) (tw [r.guard])) 0
def O9(r:Rl):Int:=bG (aX Lc r.guard) (bG (aX GC r.body) (Is r))
def xp(ds:List Dc)(r:Rl):Int:=bG (lW ds r.guard) (bG (lW ds r.body) (O9 r))
def Ld(ds:List Dc)(r:Rl):Int:=bG (aX (E8 ds) r.aP) (bG (aX (E8 ds) r.rem) (xp ds r))
def D8(ds:List Dc)(r:Rl):Int:=bG (cX (r.n.toList==(⟨#[]⟩:ByteArray).toList||nX r.n) 7) (Ld ds r)
def xq(ds:List Dc)(r:Rl):Int:=Ap (vw r++Bu r) 0 λn=>bG (cX (decide (r.vars=n)) 2) (D8 ds r)
def xu(ds:List Dc)(r:Rl):Int:=bG (aX Aq r.guard) (bG (aX Aq r.body) (xq ds r))
def O_(ds:List Dc)(r:Rl):Int:=bG (aX Bt r.aP) (bG (aX Bt r.rem) (xu ds r))
def CX(r:Rl):Bool:=decide (0<r.aP.length+r.rem.length)&&decide (r.aP.length+r.rem.length<=4)&&decide (r.guard.length<=12)&&decide (r.body.length<=12)
def oW(ds:List Dc)(r:Rl):Int:=bG (cX (CX r) 6) (O_ ds r)
structure Bv(r:Rl):Prop where
 n:r.n.size<=1099511627776ke:r.aP.length<=1099511627776re:r.rem.length<=1099511627776g:r.guard.length<=1099511627776b:r.body.length<=1099511627776kx:∀x∈r.aP,pM x.a/\x.n.size<=1099511627776rx:∀x∈r.rem,pM x.a/\x.n.size<=1099511627776gx:∀x∈r.guard,Gf x
 bx:∀x∈r.body,Gf x
 av:(vw r).length<=549755813888gv:(Bu r).length<=549755813888
def pM.Je{a:List Tm}(h:pM a):Je a:=⟨h.len,h.1,wM h⟩
theorem afz(r:Rl)(h:Bv r):∃len,len=(vw r).length/\aG prog U 158 [.sl true [[dW O r.aP],[dW O r.rem]]] (aw [] 0) (.gr 0 1 len) (aw [(0,tu O (vw r))] 1):=by let⟨len,d,b⟩:=au3 (U:=U) (O:=O) [r.aP,r.rem] aE (λl c=>by simp only[al_,aB_,or_false]at c;rcases c with rfl|rfl;exact⟨h.ke,λx a=>(h.kx x a).1.Je⟩;exact⟨h.re,λx a=>(h.rx x a).1.Je⟩) _ rfl (by have:=h.av;unfold vw at this;omega);rw[bN]at b;exact⟨len,d,b⟩
theorem aqc(r:Rl)(h:Bv r):ad U 158 [.sl true [[dW O r.aP],[dW O r.rem]]] (aQ O aH false (vw r)):=by let⟨len,a,b⟩:=afz (U:=U) (O:=O) r h;exact aq.Ae b (aL.grow rfl a) (a8 _)
theorem aqd(r:Rl)(h:Bv r):ad U 159 [.sl true [[dI O r.guard],[dI O r.body]]] (aQ O aH false (Bu r)):=by have b:=akr (U:=U) (O:=O) [r.guard,r.body] aE (λl c=>by simp only[al_,aB_,or_false]at c;rcases c with rfl|rfl;exact⟨h.g,λx a=>(h.gx x a).1.Je⟩;exact⟨h.b,λx a=>(h.bx x a).1.Je⟩) (by have:=h.gv;unfold Bu at this;omega);rw[bN]at b;exact b
theorem Zr(r:Rl)(h:Bv r):(tw [r.guard]).length<=1099511627776:=by have a:=h.gv;simp only[Bu,tw,bo_,bO_,ay_,bd_]at a⊢;omega
theorem akw(r:Rl)(h:Bv r):ad U 159 [.sl true [[dI O r.guard]]] (aQ O aH false (tw [r.guard])):=by have a:=akr (U:=U) (O:=O) [r.guard] aE (λl b=>by cases ae_.1 b;exact⟨h.g,λx c=>(h.gx x c).1.Je⟩) (Zr r h);rw[bN]at a;exact a
set_option maxHeartbeats 8000000 in theorem akx(ds:List Dc)(r:Rl)(hd:ds.length<=1099511627776)(C:Bv r):D6 U 157 [.ip (lV O r),.ip [ir O ds]] (oW ds r):=by
 have tt:Pure (.ip (lV O r)):=.ip (D9 r);have hpd:Pure (.ip [ir O ds]):=.ip λa A=>by cases ae_.1 A;exact eM ds
 let⟨FT,lP,eF,Bs,GD,V,W,hhg,hhb,hav,hgv⟩:=id C;have Le:=afz (U:=U) (O:=O) r C;have hA:=aqc (U:=U) (O:=O) r C;have hG:=aqd (U:=U) (O:=O) r C;have UW:=akw (U:=U) (O:=O) r C;have hGl:=Zr r C;have Jd:=U2 (U:=U) (O:=O) ds r.guard hd Bs λx u=>(hhg x u).1.len;have P:=U2 (U:=U) (O:=O) ds r.body hd GD λx u=>(hhb x u).1.len;let⟨E,c⟩:=au (oW ds r);rw[<-c];let⟨n,l,j,g,b,v⟩:=r;dsimp only at FT lP eF Bs GD V W hhg hhb Jd P Le hA hG UW hGl;let⟨AV,hAV⟩:=au (vw ⟨n,l,j,g,b,v⟩);let⟨GV,hGV⟩:=au (Bu ⟨n,l,j,g,b,v⟩);let⟨GG,akC⟩:=au (tw [g]);rw[<-hAV]at Le hA hav;rw[<-hGV]at hG hgv;rw[<-akC]at UW hGl;rw[oW]at c;have hS:CX ⟨n,l,j,g,b,v⟩=(decide (0<l.length+j.length)&&decide (l.length+j.length<=4)&&decide (g.length<=12)&&decide (b.length<=12)):=rfl;refine O8 aqb.2 (by simp[ntmps157]) ?_;refine H bf ?_;repeat' first|refine I.vq rfl rfl (λd=>?_) λd=>?_<;>(try simp only[bT]at d)<;>(first|exact dV d|refine H bf ?_)|refine sZ rfl (by first|rfl) ?_|refine cg bf (λd=>?_) λd=>?_|refine lg bf λm hm=>?_|refine ag bf λ_ _=>?_
 all_goals first|rw[eK (by rw[hS];simp[cX];omega)]at c;rw[c,hS];simp[cX];omega|skip
 rw[b_ (by rw[hS];simp[cX];omega),O_]at c;dsimp only at c;clear hS;have tz:Pure (.agg [dW O l,dW O j]):=.agg λa A=>by simp only[al_,aB_,or_false]at A;rcases A with rfl|rfl<;>exact bP _
 refine I.eH (σ:=Int) 0 0 [] (λq=>[(0,.ip (lV O ⟨n,l,j,g,b,v⟩)),(1,.ip [ir O ds]),(55,.agg [dW O l,dW O j]),(56,.v (.int .i64 q))]) [] (λ_=>[]) (λq=>q=0/\E=bG (aX Bt l) (bG (aX Bt j) (xu ds ⟨n,l,j,g,b,v⟩))\/q=1/\E=bG (aX Bt j) (xu ds ⟨n,l,j,g,b,v⟩)\/q=2/\E=xu ds ⟨n,l,j,g,b,v⟩) (λq=>2-q.toNat) 0 (.inl ⟨rfl,c⟩) rfl cq ?_;rintro y hI;obtain⟨rfl,c⟩|⟨o,z,Q,mY,c,qv⟩:y=2/\E=xu ds ⟨n,l,j,g,b,v⟩\/∃o z,o=(if y=0 then l else j)/\(∀x∈o,pM x.a/\x.n.size<=1099511627776)/\E=bG (aX Bt o) z/\(y=0/\z=bG (aX Bt j) (xu ds ⟨n,l,j,g,b,v⟩)\/y=1/\z=xu ds ⟨n,l,j,g,b,v⟩):=by rcases hI with⟨rfl,c⟩|⟨rfl,c⟩|h;exact .inr ⟨l,_,rfl,V,c,.inl ⟨rfl,rfl⟩⟩;exact .inr ⟨j,_,rfl,W,c,.inr ⟨rfl,rfl⟩⟩;exact .inl h
 rotate_left
 ·have U3:o.length<=1099511627776:=by rw[Q];split<;>assumption
  refine H bf ?_;repeat' first|refine og bf (D.Cj rfl rfl (a:=dW O o) (by rcases qv with⟨rfl,_⟩|⟨rfl,_⟩<;>subst Q<;>rfl) X X) ?_|refine I.int rfl (D.len rfl) λM N=>?_;rw[aA]at N;refine H bf ?_|omega|refine cg bf (λd=>?_) λd=>?_
  all_goals first|skip
  refine bL 0 0 [] (λq=>[(0,.ip (lV O ⟨n,l,j,g,b,v⟩)),(1,.ip [ir O ds]),(55,.agg [dW O l,dW O j]),(56,.v (.int .i64 y)),(59,dW O o),(60,.v (.int .i64 M)),(61,.v (.int .i64 q))]) [] (λ_=>[]) o.length (λk=>E=bG (aX Bt (o.drop k)) z) (by simpa using c) λq k G hk c=>?_;refine H bf ?_;by_cases J:k<o.length
  ·let⟨x,u,K⟩:=aC J;rw[K,aX,dz]at c;have R:=as_ u;let⟨S,Gv⟩:=mY x R;have hR:=Ii (U:=U) (O:=O) x ⟨S.len,S.1⟩ Gv;let⟨B,w⟩:=au (fw x);let⟨F,s⟩:=au (Bt x);rw[<-s]at c;rw[Bt,<-w]at s;rw[<-w]at hR;clear w;let⟨xn,xa⟩:=x;repeat' first|refine og bf (D.bw G u) ?_|apply bh bf hR|refine I.vq rfl rfl (λd=>?_) λd=>?_<;>(try simp only[bT]at d)<;>(first|refine H bf ?_)|refine I.DV ?_;refine H bf ?_|refine sZ rfl (by first|rfl) ?_|refine cg bf (λd=>?_) λd=>?_|refine ag bf λ_ _=>?_|refine xG bf ?_
   all_goals first
    |omega
    |(have e:F=0:=by rw[s,d];rfl
      rw[b_ e]at c;exact cw _ [] (k+1) c)
    |(have e:F=2:=by rw[s,d];rfl
      rw[eK (by rw[e];decide)]at c;rw[c,e])
  ·rw[ar_ X,aX,b_ rfl]at c;repeat' first|refine cg bf (λd=>?_) λd=>?_|refine ag bf λ_ _=>?_|refine xG bf ?_
   all_goals first|omega|skip
   refine I.bu _ [] ?_ ?_ cq<;>first|omega
 refine H bf ?_;repeat' first|exact dV d|refine cg bf (λd=>?_) λd=>?_|refine xG bf ?_
 all_goals first|skip
 rw[xu]at c;dsimp only at c;have tz:Pure (.agg [dI O g,dI O b]):=.agg λa A=>by simp only[al_,aB_,or_false]at A;rcases A with rfl|rfl<;>exact a6 _
 refine I.eH (σ:=Int) 0 0 [] (λq=>[(0,.ip (lV O ⟨n,l,j,g,b,v⟩)),(1,.ip [ir O ds]),(74,.agg [dI O g,dI O b]),(75,.v (.int .i64 q))]) [] (λ_=>[]) (λq=>q=0/\E=bG (aX Aq g) (bG (aX Aq b) (xq ds ⟨n,l,j,g,b,v⟩))\/q=1/\E=bG (aX Aq b) (xq ds ⟨n,l,j,g,b,v⟩)\/q=2/\E=xq ds ⟨n,l,j,g,b,v⟩) (λq=>2-q.toNat) 0 (.inl ⟨rfl,c⟩) rfl cq ?_;rintro y hI;obtain⟨rfl,c⟩|⟨o,z,Q,mY,c,qv⟩:y=2/\E=xq ds ⟨n,l,j,g,b,v⟩\/∃o z,o=(if y=0 then g else b)/\(∀x∈o,Gf x)/\E=bG (aX Aq o) z/\(y=0/\z=bG (aX Aq b) (xq ds ⟨n,l,j,g,b,v⟩)\/y=1/\z=xq ds ⟨n,l,j,g,b,v⟩):=by rcases hI with⟨rfl,c⟩|⟨rfl,c⟩|h;exact .inr ⟨g,_,rfl,hhg,c,.inl ⟨rfl,rfl⟩⟩;exact .inr ⟨b,_,rfl,hhb,c,.inr ⟨rfl,rfl⟩⟩;exact .inl h
 rotate_left
 ·have U3:o.length<=1099511627776:=by rw[Q];split<;>assumption
  refine H bf ?_;repeat' first|refine og bf (D.Cj rfl rfl (a:=dI O o) (by rcases qv with⟨rfl,_⟩|⟨rfl,_⟩<;>subst Q<;>rfl) X X) ?_|refine I.int rfl (D.len rfl) λM N=>?_;rw[aA]at N;refine H bf ?_|omega|refine cg bf (λd=>?_) λd=>?_
  all_goals first|skip
  refine bL 0 0 [] (λq=>[(0,.ip (lV O ⟨n,l,j,g,b,v⟩)),(1,.ip [ir O ds]),(74,.agg [dI O g,dI O b]),(75,.v (.int .i64 y)),(78,dI O o),(79,.v (.int .i64 M)),(80,.v (.int .i64 q))]) [] (λ_=>[]) o.length (λk=>E=bG (aX Aq (o.drop k)) z) (by simpa using c) λq k G hk c=>?_;refine H bf ?_;by_cases J:k<o.length
  ·let⟨x,u,K⟩:=aC J;rw[K,aX,dz]at c;have R:=as_ u;let⟨S,Gv⟩:=mY x R;have hR:=CF (U:=U) (O:=O) x ⟨S.len,S.1⟩ Gv;let⟨B,w⟩:=au (dw x);let⟨F,s⟩:=au (Aq x);rw[<-s]at c;rw[Aq,<-w]at s;rw[<-w]at hR;clear w;let⟨xo,xn,xa⟩:=x;repeat' first|refine og bf (D.bw G u) ?_|apply bh bf hR|refine I.vq rfl rfl (λd=>?_) λd=>?_<;>(try simp only[bT]at d)<;>(first|refine H bf ?_)|refine I.DV ?_;refine H bf ?_|refine sZ rfl (by first|rfl) ?_|refine cg bf (λd=>?_) λd=>?_|refine ag bf λ_ _=>?_|refine xG bf ?_
   all_goals first
    |omega
    |(have e:F=0:=by rw[s,d];rfl
      rw[b_ e]at c;exact cw _ [] (k+1) c)
    |(have e:F=2:=by rw[s,d];rfl
      rw[eK (by rw[e];decide)]at c;rw[c,e])
  ·rw[ar_ X,aX,b_ rfl]at c;repeat' first|refine cg bf (λd=>?_) λd=>?_|refine ag bf λ_ _=>?_|refine xG bf ?_
   all_goals first|omega|skip
   refine I.bu _ [] ?_ ?_ cq<;>first|omega
 refine H bf ?_;repeat' first|exact dV d|refine cg bf (λd=>?_) λd=>?_|refine xG bf ?_
 all_goals first|skip
 have Zs:xq ds ⟨n,l,j,g,b,v⟩=Ap (vw ⟨n,l,j,g,b,v⟩++Bu ⟨n,l,j,g,b,v⟩) 0 λn'=>bG (cX (decide (v=n')) 2) (D8 ds ⟨n,l,j,g,b,v⟩):=rfl;rw[Zs,<-hAV,<-hGV]at c;clear Zs;let⟨len,Hf,cM⟩:=Le;have tD:Pure (.sl true [[dW O l],[dW O j]]):=.sl λrow C a A=>by simp only[al_,aB_,or_false]at C;rcases C with rfl|rfl<;>(cases ae_.1 A;exact bP _)
 have cA:Pure (.sl true [[dI O g],[dI O b]]):=.sl λrow C a A=>by simp only[al_,aB_,or_false]at C;rcases C with rfl|rfl<;>(cases ae_.1 A;exact a6 _)
 have CW:Pure (.sl true [[dI O g]]):=.sl λrow C a A=>by cases ae_.1 C;cases ae_.1 A;exact a6 _
 refine I.aj3 rfl cM rfl ⟨Rn.pure tD,trivial⟩ (Rb.gr rfl) ⟨⟨0,_,rfl,rfl,mW.pure lU⟩,trivial⟩ rfl ?_;refine H bf ?_;refine I.dF rfl (λT=>pl hG) ?_;refine H bf ?_;refine I.WC (f:=aH) rfl rfl rfl Hf (λ_=>rfl) rfl (λ_=>rfl) (λ_=>rfl) X λL fZ hL ml=>?_;refine H bf ?_;let⟨kk,Zs⟩:∃kk:Int->Int,kk=λn'=>bG (cX (decide (v=n')) 2) (D8 ds ⟨n,l,j,g,b,v⟩):=⟨_,rfl⟩;rw[<-Zs,<-hL]at c;have uL:L.length<=1099511627776:=by rw[hL,ay_];omega
 refine I.acH rfl (λT=>D.kS rfl) λm3 NU=>?_;refine H bf ?_;refine I.cv (Cv.freeze (t:=101) rfl rfl (.inl rfl) (ml.trans (aA (O:=O) (f:=aH)).symm) (aF_ _)) ?_;refine cW (τ:=Int) 3 3 [] (λp=>[(0,.ip (lV O ⟨n,l,j,g,b,v⟩)),(1,.ip [ir O ds]),(11,.v (.int .i64 p.2)),(101,aQ O aH false L),(102,.v (.int .i64 m3)),(103,.v (.int .i64 p.1))]) [] (λ_=>[]) L.length (λk p=>0<=p.2/\p.2<=k/\E=Ap (L.drop k) p.2 kk) 0 ⟨aE,aE,by simpa using c⟩ ?_;rintro i k nx G hk⟨hn0,eX,c⟩;simp only at G hn0 eX c;refine H bf ?_;by_cases J:k<L.length
 ·let⟨x,u,K⟩:=aC J;rw[K,Ap]at c;repeat' first|refine og bf (D.bw G u) ?_|refine I.vq rfl rfl (λd=>?_) λd=>?_<;>(try simp only[bT]at d)<;>(first|exact dV d|refine H bf ?_)|refine I.DV ?_;refine H bf ?_|refine sZ rfl (by first|rfl) ?_|refine cg bf (λd=>?_) λd=>?_|refine ag bf λ_ _=>?_|refine xG bf ?_
  all_goals first|omega|rw[if_pos X,if_pos X]at c;refine I.bu (_,_) [] ?_ ?_ cq;exact⟨k+1,by simp only;omega,X,by simp only;omega,by simp only;omega,by rw[c];congr 1;simp only;omega⟩;simp only;omega|rw[if_pos X,if_neg X]at c;refine I.bu (_,_) [] ?_ ?_ cq;exact⟨k+1,by simp only;omega,X,by simp only;omega,by simp only;omega,c⟩;simp only;omega|rw[if_neg X]at c;exact c
 rw[ar_ X,Ap]at c;subst Zs;simp only at c;refine I.bif rfl (D.bit rfl) (λd=>?_) λd=>?_<;>(try simp only[decide_eq_true_eq,decide_eq_false_iff_not,beq_iff_eq,beq_eq_false_iff_ne,bne_iff_ne,bne_eq_false_iff_eq,dh_,Bool.not_eq_false,cg_,Bool.not_eq_false',ne_eq]at d);omega;refine H bf ?_;refine xG bf ?_;refine I.bif rfl (D.bit rfl) (λd=>?_) λd=>?_<;>(try simp only[decide_eq_true_eq,decide_eq_false_iff_not,beq_iff_eq,beq_eq_false_iff_ne,bne_iff_ne,bne_eq_false_iff_eq,dh_,Bool.not_eq_false,cg_,Bool.not_eq_false',ne_eq]at d)<;>refine H bf ?_;rotate_left;refine I.vq rfl rfl (λhc=>absurd hc aJ) λhc=>?_;refine H bf ?_;refine sZ rfl rfl ?_;rw[decide_eq_false X]at c;exact c;refine I.vq rfl rfl (λhc=>?_) λhc=>absurd hc aJ;refine H bf ?_;rw[decide_eq_true X,show cX true 2=0 from rfl,b_ rfl]at c;have hN:=Cz (U:=U) n FT;rw[D8]at c;dsimp only at c;refine I.au6 (σ:=Int) 0 3 3 (λ_=>[(0,.ip (lV O ⟨n,l,j,g,b,v⟩)),(1,.ip [ir O ds])]) [] (λ_=>[]) (λ_=>E=Ld ds ⟨n,l,j,g,b,v⟩) rfl ?_ ?_
 ·let⟨NB,Ar⟩:=au (nX n);rw[<-Ar]at c hN;let⟨ne,dH⟩:=au (n.toList==(⟨#[]⟩:ByteArray).toList);rw[<-dH]at c;repeat' first|refine bg bf (D.bit rfl) (λhs=>?_) λhs=>?_|refine bg bf (pl hN) (λ_=>?_) λ_=>?_|refine I.auJ ?_;refine H bf ?_|refine I.vq rfl rfl (λd=>?_) λd=>?_<;>(try simp only[bT]at d)<;>(first|exact dV d|refine H bf ?_)|refine sZ rfl (by first|rfl) ?_
  all_goals first|rw[show NB=true by assumption,cK_,show cX true 7=0 from rfl,b_ rfl]at c;exact I.akD (0:Int) [] c rfl cq|rw[show NB=false by assumption,show ne=false by rw[dH];first|exact hs ]at c;exact c|rw[show ne=true by rw[dH];first|exact hs ,cE_,show cX true 7=0 from rfl,b_ rfl]at c;exact I.akD (0:Int) [] c rfl cq
 rintro s0 c;clear hL uL hN cM hG hGV;refine H bf ?_;rw[Ld]at c;dsimp only at c;have tz:Pure (.agg [dW O l,dW O j]):=.agg λa A=>by simp only[al_,aB_,or_false]at A;rcases A with rfl|rfl<;>exact bP _
 refine I.eH (σ:=Int) 3 3 [] (λq=>[(0,.ip (lV O ⟨n,l,j,g,b,v⟩)),(1,.ip [ir O ds]),(135,.agg [dW O l,dW O j]),(136,.v (.int .i64 q))]) [] (λ_=>[]) (λq=>q=0/\E=bG (aX (E8 ds) l) (bG (aX (E8 ds) j) (xp ds ⟨n,l,j,g,b,v⟩))\/q=1/\E=bG (aX (E8 ds) j) (xp ds ⟨n,l,j,g,b,v⟩)\/q=2/\E=xp ds ⟨n,l,j,g,b,v⟩) (λq=>2-q.toNat) 0 (.inl ⟨rfl,c⟩) rfl cq ?_;rintro y hI;obtain⟨rfl,c⟩|⟨o,z,Q,mY,c,qv⟩:y=2/\E=xp ds ⟨n,l,j,g,b,v⟩\/∃o z,o=(if y=0 then l else j)/\(∀x∈o,pM x.a/\x.n.size<=1099511627776)/\E=bG (aX (E8 ds) o) z/\(y=0/\z=bG (aX (E8 ds) j) (xp ds ⟨n,l,j,g,b,v⟩)\/y=1/\z=xp ds ⟨n,l,j,g,b,v⟩):=by rcases hI with⟨rfl,c⟩|⟨rfl,c⟩|h;exact .inr ⟨l,_,rfl,V,c,.inl ⟨rfl,rfl⟩⟩;exact .inr ⟨j,_,rfl,W,c,.inr ⟨rfl,rfl⟩⟩;exact .inl h
 rotate_left
 ·have U3:o.length<=1099511627776:=by rw[Q];split<;>assumption
  refine H bf ?_;repeat' first|refine og bf (D.Cj rfl rfl (a:=dW O o) (by rcases qv with⟨rfl,_⟩|⟨rfl,_⟩<;>subst Q<;>rfl) X X) ?_|refine I.int rfl (D.len rfl) λM N=>?_;rw[aA]at N;refine H bf ?_|omega|refine cg bf (λd=>?_) λd=>?_
  all_goals first|skip
  refine bL 3 3 [] (λq=>[(0,.ip (lV O ⟨n,l,j,g,b,v⟩)),(1,.ip [ir O ds]),(135,.agg [dW O l,dW O j]),(136,.v (.int .i64 y)),(139,dW O o),(140,.v (.int .i64 M)),(141,.v (.int .i64 q))]) [] (λ_=>[]) o.length (λk=>E=bG (aX (E8 ds) (o.drop k)) z) (by simpa using c) λq k G hk c=>?_;refine H bf ?_;by_cases J:k<o.length
  ·let⟨x,u,K⟩:=aC J;rw[K,aX,dz]at c;have R:=as_ u;let⟨S,Gv⟩:=mY x R;have nC:=S.len;let⟨F,s⟩:=au (E8 ds x);rw[<-s]at c;have hD:=U1 (U:=U) (O:=O) ds x.n x.a.length hd;rw[show sB ds x.n x.a.length=F from s.symm]at hD;clear s S Gv;let⟨xn,xa⟩:=x;dsimp only at hD nC;let⟨q3,Bw⟩:∃q:Int,q=xa.length:=⟨_,rfl⟩;rw[<-Bw]at hD;repeat' first|refine og bf (D.bw G u) ?_|refine I.int rfl (D.len rfl) λm3 NU=>?_;rw[aA]at NU;cases(X:m3=q3);refine H bf ?_|refine I.vt rfl rfl hD (by repeat' first|exact trivial|refine⟨?_,?_⟩;first|exact .v|exact eM _) (λhe=>?_) λhe=>?_<;>refine H bf ?_|refine I.DV ?_;refine H bf ?_|refine sZ rfl (by first|exact decide_eq_false (by assumption)) ?_|refine cg bf (λd=>?_) λd=>?_|refine ag bf λ_ _=>?_|refine xG bf ?_
   all_goals first|omega|have e:F=0:=he;rw[b_ e]at c;exact cw _ [] (k+1) c|rw[eK he]at c;exact c
  ·rw[ar_ X,aX,b_ rfl]at c;repeat' first|refine cg bf (λd=>?_) λd=>?_|refine ag bf λ_ _=>?_|refine xG bf ?_
   all_goals first|omega|skip
   refine I.bu _ [] ?_ ?_ cq<;>first|omega
 refine H bf ?_;repeat' first|exact dV d|refine cg bf (λd=>?_) λd=>?_|refine xG bf ?_
 all_goals first|skip
 rw[xp]at c;dsimp only at c;let⟨F1,E9⟩:=au (lW ds g);let⟨F2,Jj⟩:=au (lW ds b);rw[<-E9]at c Jd;rw[<-Jj]at c P;repeat' first|refine I.int rfl (D.len rfl) λM N=>?_;rw[aA]at N;refine H bf ?_|refine I.vt rfl rfl Jd (by repeat' first|exact trivial|refine⟨?_,?_⟩;first|exact a6 _|exact eM _) (λhe=>?_) λhe=>?_<;>refine H bf ?_|refine I.vt rfl rfl P (by repeat' first|exact trivial|refine⟨?_,?_⟩;first|exact a6 _|exact eM _) (λhe=>?_) λhe=>?_<;>refine H bf ?_|refine sZ rfl (by first|exact decide_eq_false (by assumption)) ?_
 all_goals first|rw[b_ (e:=F1) (by assumption),eK (e:=F2) (by assumption)]at c;exact c|rw[eK (e:=F1) (by assumption)]at c;exact c|skip
 rw[b_ (e:=F1) (by assumption),b_ (e:=F2) (by assumption),O9]at c;dsimp only at c;clear E9 Jj Jd P;refine bL 3 3 [] (λq=>[(0,.ip (lV O ⟨n,l,j,g,b,v⟩)),(1,.ip [ir O ds]),(163,dI O g),(164,.v (.int .i64 M)),(165,.v (.int .i64 q))]) [] (λ_=>[]) g.length (λk=>E=bG (aX Lc (g.drop k)) (bG (aX GC b) (Is ⟨n,l,j,g,b,v⟩))) (by simpa using c) λq k G hk c=>?_;refine H bf ?_;by_cases J:k<g.length
 ·let⟨x,u,K⟩:=aC J;rw[K,aX,dz]at c;have R:=as_ u;have hT:=Zm (U:=U) x.op;let⟨B,w⟩:=au (ny x.op);let⟨F,s⟩:=au (Lc x);rw[<-s]at c;rw[Lc,<-w]at s;rw[<-w]at hT;clear w;let⟨xo,xn,xa⟩:=x;dsimp only at hT s;repeat' first|refine og bf (D.bw G u) ?_|refine bg bf (pl hT) (λ_=>?_) λ_=>?_|refine I.vq rfl rfl (λd=>?_) λd=>?_<;>(try simp only[bT]at d)<;>(first|exact dV d|refine H bf ?_)|refine I.DV ?_;refine H bf ?_|refine sZ rfl (by first|rfl) ?_|refine cg bf (λd=>?_) λd=>?_|refine lg bf λm hm=>?_|refine ag bf λ_ _=>?_|refine xG bf ?_
  all_goals first
   |omega
   |(have e:F=0:=by first|rw[s,show B=true by assumption];rfl|rw[s,decide_eq_true (show xo=1 by omega),cK_];rfl
     rw[b_ e]at c;exact cw _ [] (k+1) c)
   |(have e:F=10:=by rw[s,show B=false by assumption,decide_eq_false (show¬xo=1 by omega)];rfl
     rw[eK (by rw[e];decide)]at c;rw[c,e])
 rw[ar_ X,aX,b_ rfl]at c;repeat' first|refine I.int rfl (D.len rfl) λM N=>?_;rw[aA]at N;refine H bf ?_|refine cg bf (λd=>?_) λd=>?_|refine xG bf ?_
 all_goals first|omega|skip
 refine bL 3 3 [] (λq=>[(0,.ip (lV O ⟨n,l,j,g,b,v⟩)),(1,.ip [ir O ds]),(180,dI O b),(181,.v (.int .i64 M)),(182,.v (.int .i64 q))]) [] (λ_=>[]) b.length (λk=>E=bG (aX GC (b.drop k)) (Is ⟨n,l,j,g,b,v⟩)) (by simpa using c) λq k G hk c=>?_;refine H bf ?_;by_cases J:k<b.length
 ·let⟨x,u,K⟩:=aC J;rw[K,aX,dz]at c;have R:=as_ u;have hT:=Zm (U:=U) x.op;let⟨B,w⟩:=au (ny x.op);let⟨F,s⟩:=au (GC x);rw[<-s]at c;rw[GC,<-w]at s;rw[<-w]at hT;clear w;let⟨xo,xn,xa⟩:=x;dsimp only at hT s;repeat' first|refine og bf (D.bw G u) ?_|refine bg bf (pl hT) (λ_=>?_) λ_=>?_|refine I.vq rfl rfl (λd=>?_) λd=>?_<;>(try simp only[bT]at d)<;>(first|exact dV d|refine H bf ?_)|refine I.DV ?_;refine H bf ?_|refine sZ rfl (by first|rfl) ?_|refine cg bf (λd=>?_) λd=>?_|refine ag bf λ_ _=>?_|refine xG bf ?_
  all_goals first
   |omega
   |(have e:F=0:=by rw[s,show B=false by assumption];rfl
     rw[b_ e]at c;exact cw _ [] (k+1) c)
   |(have e:F=10:=by rw[s,show B=true by assumption];rfl
     rw[eK (by rw[e];decide)]at c;rw[c,e])
 rw[ar_ X,aX,b_ rfl]at c;repeat' first|apply bh bf hA|apply bh bf UW|refine I.int rfl (D.len rfl) λM N=>?_;rw[aA]at N;refine H bf ?_|refine cg bf (λd=>?_) λd=>?_|refine xG bf ?_
 all_goals first|omega|skip
 rw[Is]at c;let⟨fK,U4⟩:=au (Zq ⟨n,l,j,g,b,v⟩);rw[<-U4,<-akC]at c;have vx:∀x,fK x=cX (AV.contains x) 17:=λx=>by rw[U4,Zq,<-hAV]
 refine bL 3 3 [] (λq=>[(22,aQ O aH false AV),(201,aQ O aH false GG),(202,.v (.int .i64 M)),(203,.v (.int .i64 q))]) [] (λ_=>[]) GG.length (λk=>E=bG (aX fK (GG.drop k)) 0) (by simpa using c) λq k G hk c=>?_;refine H bf ?_;by_cases J:k<GG.length
 ·let⟨x,u,K⟩:=aC J;rw[K,aX,dz]at c;have R:=as_ u;have hC:=F5 (U:=U) (O:=O) AV x X;let⟨B,w⟩:=au (AV.contains x);have s:=vx x;rw[<-w]at s hC;let⟨F,E9⟩:=au (fK x);rw[<-E9]at c s;clear E9 w;repeat' first|refine og bf (D.bw G u) ?_|refine bg bf (pl hC) (λ_=>?_) λ_=>?_|refine I.vq rfl rfl (λd=>?_) λd=>?_<;>(try simp only[bT]at d)<;>(first|exact dV d|refine H bf ?_)|refine I.DV ?_;refine H bf ?_|refine J6 rfl (by conv=>lhs;cbv) ?_|refine sZ rfl (by first|rfl) ?_|refine cg bf (λd=>?_) λd=>?_|refine ag bf λ_ _=>?_|refine xG bf ?_
  all_goals first
   |omega
   |(have e:F=0:=by rw[s,show B=true by assumption];rfl
     rw[b_ e]at c;exact cw _ [] (k+1) c)
   |(have e:F=17:=by rw[s,show B=false by assumption];rfl
     rw[eK (by rw[e];decide)]at c;rw[c,e])
 rw[ar_ X,aX,b_ rfl]at c;repeat' first|refine J6 rfl (by conv=>lhs;cbv) ?_|refine cg bf (λd=>?_) λd=>?_|refine xG bf ?_
 all_goals first|omega|skip
 all_goals exact c
end
end Go.Proofs.YtbdcmpknicjopaaGreat
