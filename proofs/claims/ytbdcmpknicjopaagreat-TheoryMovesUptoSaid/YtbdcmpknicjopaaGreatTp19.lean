import Derived.Test.YtbdcmpknicjopaaGreatTp18
namespace Go.Proofs.YtbdcmpknicjopaaGreat
set_option linter.all false
open Go.RowKit Proofs.Tryz
variable{O:Hd}{Y:World}
section
set_option maxRecDepth 100000
attribute [local irreducible] ao aF D H
def aos:=aC func157 call157
def a6:List Nat:=[0,11,56,61,75,80,103,136,141,1,165,182,203,2,13,17,19,57,55,4,60,62,59,6,76,74,8,79,81,78,10,102,104,101,113,137,135,15,140,142,139,164,166,163,181,183,180,21,202,204,201,22,24]
def cR(b:Bool)(e:Int):Int:=if b then 0 else e
theorem du{a b c:Int}:bw (bw a b) c=bw a (bw b c):=by unfold bw;split<;>simp_all
def aU{T:Type}(f:T->Int):List T->Int|[]=>0|x::l=>bw (f x) (aU f l)
theorem BD(ds:List Dc)(l:List Gl):lO ds l=aU (uZ ds) l:=by induction l with|nil=>rfl|cons x l a=>rw[lO,aU,a]
def zG:List Int->Int->(Int->Int)->Int|[],n,k=>k n|v::a,n,k=>if v<=n then zG a (if v=n then n+1 else n) k else 2
def AK(x:At):Int:=cR (fp x) 2
def zH(x:Gl):Int:=cR (de x) 2
def EB(ds:List Dc)(x:At):Int:=rT ds x.n x.a.length
def Kg(x:Gl):Int:=cR (nr x.op||decide (x.op=1)) 10
def FP(x:Gl):Int:=cR (!nr x.op) 10
def u6(r:Rl):List Int:=Il [r.aQ,r.rem]
def AL(r:Rl):List Int:=sY [r.guard,r.body]
def Yp(r:Rl)(x:Int):Int:=cR ((u6 r).contains x) 17
def Hx(r:Rl):Int:=bw (aU (Yp r) (sY [r.guard])) 0
def Of(r:Rl):Int:=bw (aU Kg r.guard) (bw (aU FP r.body) (Hx r))
def wK(ds:List Dc)(r:Rl):Int:=bw (lO ds r.guard) (bw (lO ds r.body) (Of r))
def Kh(ds:List Dc)(r:Rl):Int:=bw (aU (EB ds) r.aQ) (bw (aU (EB ds) r.rem) (wK ds r))
def Dz(ds:List Dc)(r:Rl):Int:=bw (cR (r.n.toList==(⟨#[]⟩:ByteArray).toList||nR r.n) 7) (Kh ds r)
def wL(ds:List Dc)(r:Rl):Int:=zG (u6 r++AL r) 0 λn=>bw (cR (decide (r.vars=n)) 2) (Dz ds r)
def wM(ds:List Dc)(r:Rl):Int:=bw (aU zH r.guard) (bw (aU zH r.body) (wL ds r))
def Og(ds:List Dc)(r:Rl):Int:=bw (aU AK r.aQ) (bw (aU AK r.rem) (wM ds r))
def Cn(r:Rl):Bool:=decide (0<r.aQ.length+r.rem.length)&&decide (r.aQ.length+r.rem.length<=4)&&decide (r.guard.length<=12)&&decide (r.body.length<=12)
def oK(ds:List Dc)(r:Rl):Int:=bw (cR (Cn r) 6) (Og ds r)
structure Co(r:Rl):Prop where
 n:r.n.size<=1099511627776ke:r.aQ.length<=1099511627776re:r.rem.length<=1099511627776g:r.guard.length<=1099511627776b:r.body.length<=1099511627776kx:∀x∈r.aQ,pD x.a/\x.n.size<=1099511627776rx:∀x∈r.rem,pD x.a/\x.n.size<=1099511627776gx:∀x∈r.guard,Fu x
 bx:∀x∈r.body,Fu x
 av:(u6 r).length<=549755813888gv:(AL r).length<=549755813888
def pD.Ik{a:List Tm}(h:pD a):Ik a:=⟨h.len,h.1,wb h⟩
theorem ad9(r:Rl)(h:Co r):∃len,len=(u6 r).length/\aF prog Y 158 [.sl true [[fI O r.aQ],[fI O r.rem]]] (aw [] 0) (.gr 0 1 len) (aw [(0,sV O (u6 r))] 1):=by let⟨len,d,b⟩:=asP (Y:=Y) (O:=O) [r.aQ,r.rem] aB (λl c=>by simp only[al_,ax_,or_false]at c;rcases c with rfl|rfl;exact⟨h.ke,λx a=>(h.kx x a).1.Ik⟩;exact⟨h.re,λx a=>(h.rx x a).1.Ik⟩) _ rfl (by have:=h.av;unfold u6 at this;omega);rw[bF]at b;exact⟨len,d,b⟩
theorem aot(r:Rl)(h:Co r):ab Y 158 [.sl true [[fI O r.aQ],[fI O r.rem]]] (aY O aV false (u6 r)):=by let⟨len,a,b⟩:=ad9 (Y:=Y) (O:=O) r h;exact ao.zu b (aI.grow rfl a) (bZ _)
theorem aou(r:Rl)(h:Co r):ab Y 159 [.sl true [[er O r.guard],[er O r.body]]] (aY O aV false (AL r)):=by have b:=ai7 (Y:=Y) (O:=O) [r.guard,r.body] aB (λl c=>by simp only[al_,ax_,or_false]at c;rcases c with rfl|rfl;exact⟨h.g,λx a=>(h.gx x a).1.Ik⟩;exact⟨h.b,λx a=>(h.bx x a).1.Ik⟩) (by have:=h.gv;unfold AL at this;omega);rw[bF]at b;exact b
theorem Yq(r:Rl)(h:Co r):(sY [r.guard]).length<=1099511627776:=by have a:=h.gv;simp only[AL,sY,aW_,bu_,av_,bi_]at a⊢;omega
theorem ajb(r:Rl)(h:Co r):ab Y 159 [.sl true [[er O r.guard]]] (aY O aV false (sY [r.guard])):=by have a:=ai7 (Y:=Y) (O:=O) [r.guard] aB (λl b=>by cases ar_.1 b;exact⟨h.g,λx c=>(h.gx x c).1.Ik⟩) (Yq r h);rw[bF]at a;exact a
set_option maxHeartbeats 8000000 in theorem ajc(ds:List Dc)(r:Rl)(hd:ds.length<=1099511627776)(C:Co r):Du Y 157 [.ip (lY O r),.ip [g7 O ds]] (oK ds r):=by
 have qM:Pure (.ip (lY O r)):=.ip (DA r);have hpd:Pure (.ip [g7 O ds]):=.ip λa A=>by cases ar_.1 A;exact eL ds
 let⟨Fq,nc,eT,Cm,TY,V,W,hhg,hhb,hav,hgv⟩:=id C;have Ki:=ad9 (Y:=Y) (O:=O) r C;have hA:=aot (Y:=Y) (O:=O) r C;have hG:=aou (Y:=Y) (O:=O) r C;have TR:=ajb (Y:=Y) (O:=O) r C;have hGl:=Yq r C;have Ih:=TU (Y:=Y) (O:=O) ds r.guard hd Cm λx u=>(hhg x u).1.len;have P:=TU (Y:=Y) (O:=O) ds r.body hd TY λx u=>(hhb x u).1.len;let⟨E,c⟩:=aq (oK ds r);rw[<-c];let⟨n,l,j,g,b,v⟩:=r;dsimp only at Fq nc eT Cm TY V W hhg hhb Ih P Ki hA hG TR hGl;let⟨AV,hAV⟩:=aq (u6 ⟨n,l,j,g,b,v⟩);let⟨GV,hGV⟩:=aq (AL ⟨n,l,j,g,b,v⟩);let⟨GG,ajh⟩:=aq (sY [g]);rw[<-hAV]at Ki hA hav;rw[<-hGV]at hG hgv;rw[<-ajh]at TR hGl;rw[oK]at c;have hS:Cn ⟨n,l,j,g,b,v⟩=(decide (0<l.length+j.length)&&decide (l.length+j.length<=4)&&decide (g.length<=12)&&decide (b.length<=12)):=rfl;refine Od aos.2 (by simp[ntmps157]) ?_;refine I a6 ?_;repeat' first|refine H.uY rfl rfl (λd=>?_) λd=>?_<;>(try simp only[bW]at d)<;>(first|exact dy d|refine I a6 ?_)|refine sK rfl (by first|rfl) ?_|refine cg a6 (λd=>?_) λd=>?_|refine lg a6 λm hm=>?_|refine ag a6 λ_ _=>?_
 all_goals first|rw[eB (by rw[hS];simp[cR];omega)]at c;rw[c,hS];simp[cR];omega|skip
 rw[bX (by rw[hS];simp[cR];omega),Og]at c;dsimp only at c;clear hS;have w8:Pure (.agg [fI O l,fI O j]):=.agg λa A=>by simp only[al_,ax_,or_false]at A;rcases A with rfl|rfl<;>exact cQ _
 refine H.g5 (σ:=Int) 0 0 [] (λq=>[(0,.ip (lY O ⟨n,l,j,g,b,v⟩)),(1,.ip [g7 O ds]),(55,.agg [fI O l,fI O j]),(56,.v (.int .i64 q))]) [] (λ_=>[]) (λq=>q=0/\E=bw (aU AK l) (bw (aU AK j) (wM ds ⟨n,l,j,g,b,v⟩))\/q=1/\E=bw (aU AK j) (wM ds ⟨n,l,j,g,b,v⟩)\/q=2/\E=wM ds ⟨n,l,j,g,b,v⟩) (λq=>2-q.toNat) 0 (.inl ⟨rfl,c⟩) rfl cq ?_;rintro y hI;obtain⟨rfl,c⟩|⟨o,z,Q,qL,c,oX⟩:y=2/\E=wM ds ⟨n,l,j,g,b,v⟩\/∃o z,o=(if y=0 then l else j)/\(∀x∈o,pD x.a/\x.n.size<=1099511627776)/\E=bw (aU AK o) z/\(y=0/\z=bw (aU AK j) (wM ds ⟨n,l,j,g,b,v⟩)\/y=1/\z=wM ds ⟨n,l,j,g,b,v⟩):=by rcases hI with⟨rfl,c⟩|⟨rfl,c⟩|h;exact .inr ⟨l,_,rfl,V,c,.inl ⟨rfl,rfl⟩⟩;exact .inr ⟨j,_,rfl,W,c,.inr ⟨rfl,rfl⟩⟩;exact .inl h
 rotate_left
 ·have PU:o.length<=1099511627776:=by rw[Q];split<;>assumption
  refine I a6 ?_;repeat' first|refine og a6 (D.I0 rfl rfl (a:=fI O o) (by rcases oX with⟨rfl,_⟩|⟨rfl,_⟩<;>subst Q<;>rfl) Z Z) ?_|refine H.int rfl (D.len rfl) λM N=>?_;rw[az]at N;refine I a6 ?_|omega|refine cg a6 (λd=>?_) λd=>?_
  all_goals first|skip
  refine bD 0 0 [] (λq=>[(0,.ip (lY O ⟨n,l,j,g,b,v⟩)),(1,.ip [g7 O ds]),(55,.agg [fI O l,fI O j]),(56,.v (.int .i64 y)),(59,fI O o),(60,.v (.int .i64 M)),(61,.v (.int .i64 q))]) [] (λ_=>[]) o.length (λk=>E=bw (aU AK (o.drop k)) z) (by simpa using c) λq k G hk c=>?_;refine I a6 ?_;by_cases J:k<o.length
  ·let⟨x,u,K⟩:=aA J;rw[K,aU,du]at c;have R:=as_ u;let⟨S,FI⟩:=qL x R;have hR:=Hq (Y:=Y) (O:=O) x ⟨S.len,S.1⟩ FI;let⟨B,w⟩:=aq (fp x);let⟨F,s⟩:=aq (AK x);rw[<-s]at c;rw[AK,<-w]at s;rw[<-w]at hR;clear w;let⟨xn,xa⟩:=x;repeat' first|refine og a6 (D.bh G u) ?_|apply bk a6 hR|refine H.uY rfl rfl (λd=>?_) λd=>?_<;>(try simp only[bW]at d)<;>(first|refine I a6 ?_)|refine H.Dk ?_;refine I a6 ?_|refine sK rfl (by first|rfl) ?_|refine cg a6 (λd=>?_) λd=>?_|refine ag a6 λ_ _=>?_|refine xG a6 ?_
   all_goals first
    |omega
    |(have e:F=0:=by rw[s,d];rfl
      rw[bX e]at c;exact cB _ [] (k+1) c)
    |(have e:F=2:=by rw[s,d];rfl
      rw[eB (by rw[e];decide)]at c;rw[c,e])
  ·rw[aq_ Z,aU,bX rfl]at c;repeat' first|refine cg a6 (λd=>?_) λd=>?_|refine ag a6 λ_ _=>?_|refine xG a6 ?_
   all_goals first|omega|skip
   refine H.bK _ [] ?_ ?_ cq<;>first|omega
 refine I a6 ?_;repeat' first|exact dy d|refine cg a6 (λd=>?_) λd=>?_|refine xG a6 ?_
 all_goals first|skip
 rw[wM]at c;dsimp only at c;have w8:Pure (.agg [er O g,er O b]):=.agg λa A=>by simp only[al_,ax_,or_false]at A;rcases A with rfl|rfl<;>exact a7 _
 refine H.g5 (σ:=Int) 0 0 [] (λq=>[(0,.ip (lY O ⟨n,l,j,g,b,v⟩)),(1,.ip [g7 O ds]),(74,.agg [er O g,er O b]),(75,.v (.int .i64 q))]) [] (λ_=>[]) (λq=>q=0/\E=bw (aU zH g) (bw (aU zH b) (wL ds ⟨n,l,j,g,b,v⟩))\/q=1/\E=bw (aU zH b) (wL ds ⟨n,l,j,g,b,v⟩)\/q=2/\E=wL ds ⟨n,l,j,g,b,v⟩) (λq=>2-q.toNat) 0 (.inl ⟨rfl,c⟩) rfl cq ?_;rintro y hI;obtain⟨rfl,c⟩|⟨o,z,Q,qL,c,oX⟩:y=2/\E=wL ds ⟨n,l,j,g,b,v⟩\/∃o z,o=(if y=0 then g else b)/\(∀x∈o,Fu x)/\E=bw (aU zH o) z/\(y=0/\z=bw (aU zH b) (wL ds ⟨n,l,j,g,b,v⟩)\/y=1/\z=wL ds ⟨n,l,j,g,b,v⟩):=by rcases hI with⟨rfl,c⟩|⟨rfl,c⟩|h;exact .inr ⟨g,_,rfl,hhg,c,.inl ⟨rfl,rfl⟩⟩;exact .inr ⟨b,_,rfl,hhb,c,.inr ⟨rfl,rfl⟩⟩;exact .inl h
 rotate_left
 ·have PU:o.length<=1099511627776:=by rw[Q];split<;>assumption
  refine I a6 ?_;repeat' first|refine og a6 (D.I0 rfl rfl (a:=er O o) (by rcases oX with⟨rfl,_⟩|⟨rfl,_⟩<;>subst Q<;>rfl) Z Z) ?_|refine H.int rfl (D.len rfl) λM N=>?_;rw[az]at N;refine I a6 ?_|omega|refine cg a6 (λd=>?_) λd=>?_
  all_goals first|skip
  refine bD 0 0 [] (λq=>[(0,.ip (lY O ⟨n,l,j,g,b,v⟩)),(1,.ip [g7 O ds]),(74,.agg [er O g,er O b]),(75,.v (.int .i64 y)),(78,er O o),(79,.v (.int .i64 M)),(80,.v (.int .i64 q))]) [] (λ_=>[]) o.length (λk=>E=bw (aU zH (o.drop k)) z) (by simpa using c) λq k G hk c=>?_;refine I a6 ?_;by_cases J:k<o.length
  ·let⟨x,u,K⟩:=aA J;rw[K,aU,du]at c;have R:=as_ u;let⟨S,FI⟩:=qL x R;have hR:=BX (Y:=Y) (O:=O) x ⟨S.len,S.1⟩ FI;let⟨B,w⟩:=aq (de x);let⟨F,s⟩:=aq (zH x);rw[<-s]at c;rw[zH,<-w]at s;rw[<-w]at hR;clear w;let⟨xo,xn,xa⟩:=x;repeat' first|refine og a6 (D.bh G u) ?_|apply bk a6 hR|refine H.uY rfl rfl (λd=>?_) λd=>?_<;>(try simp only[bW]at d)<;>(first|refine I a6 ?_)|refine H.Dk ?_;refine I a6 ?_|refine sK rfl (by first|rfl) ?_|refine cg a6 (λd=>?_) λd=>?_|refine ag a6 λ_ _=>?_|refine xG a6 ?_
   all_goals first
    |omega
    |(have e:F=0:=by rw[s,d];rfl
      rw[bX e]at c;exact cB _ [] (k+1) c)
    |(have e:F=2:=by rw[s,d];rfl
      rw[eB (by rw[e];decide)]at c;rw[c,e])
  ·rw[aq_ Z,aU,bX rfl]at c;repeat' first|refine cg a6 (λd=>?_) λd=>?_|refine ag a6 λ_ _=>?_|refine xG a6 ?_
   all_goals first|omega|skip
   refine H.bK _ [] ?_ ?_ cq<;>first|omega
 refine I a6 ?_;repeat' first|exact dy d|refine cg a6 (λd=>?_) λd=>?_|refine xG a6 ?_
 all_goals first|skip
 have Yr:wL ds ⟨n,l,j,g,b,v⟩=zG (u6 ⟨n,l,j,g,b,v⟩++AL ⟨n,l,j,g,b,v⟩) 0 λn'=>bw (cR (decide (v=n')) 2) (Dz ds ⟨n,l,j,g,b,v⟩):=rfl;rw[Yr,<-hAV,<-hGV]at c;clear Yr;let⟨len,GL,cJ⟩:=Ki;have ED:Pure (.sl true [[fI O l],[fI O j]]):=.sl λrow C a A=>by simp only[al_,ax_,or_false]at C;rcases C with rfl|rfl<;>(cases ar_.1 A;exact cQ _)
 have cL:Pure (.sl true [[er O g],[er O b]]):=.sl λrow C a A=>by simp only[al_,ax_,or_false]at C;rcases C with rfl|rfl<;>(cases ar_.1 A;exact a7 _)
 have Cb:Pure (.sl true [[er O g]]):=.sl λrow C a A=>by cases ar_.1 C;cases ar_.1 A;exact a7 _
 refine H.aiI rfl cJ rfl ⟨Rn.pure ED,trivial⟩ (Rb.gr rfl) ⟨⟨0,_,rfl,rfl,mP.pure lN⟩,trivial⟩ rfl ?_;refine I a6 ?_;refine H.eK rfl (λT=>pl hG) ?_;refine I a6 ?_;refine H.VA (f:=aV) rfl rfl rfl GL (λ_=>rfl) rfl (λ_=>rfl) (λ_=>rfl) Z λL ff hL l8=>?_;refine I a6 ?_;let⟨kk,Yr⟩:∃kk:Int->Int,kk=λn'=>bw (cR (decide (v=n')) 2) (Dz ds ⟨n,l,j,g,b,v⟩):=⟨_,rfl⟩;rw[<-Yr,<-hL]at c;have ql:L.length<=1099511627776:=by rw[hL,av_];omega
 refine H.asR rfl (λT=>D.ng rfl) λm3 Ii=>?_;refine I a6 ?_;refine H.cv (Cv.freeze (t:=101) rfl rfl (.inl rfl) (l8.trans (az (O:=O) (f:=aV)).symm) (aF_ _)) ?_;refine cC (τ:=Int) 3 3 [] (λp=>[(0,.ip (lY O ⟨n,l,j,g,b,v⟩)),(1,.ip [g7 O ds]),(11,.v (.int .i64 p.2)),(101,aY O aV false L),(102,.v (.int .i64 m3)),(103,.v (.int .i64 p.1))]) [] (λ_=>[]) L.length (λk p=>0<=p.2/\p.2<=k/\E=zG (L.drop k) p.2 kk) 0 ⟨aB,aB,by simpa using c⟩ ?_;rintro i k nx G hk⟨hn0,ft,c⟩;simp only at G hn0 ft c;refine I a6 ?_;by_cases J:k<L.length
 ·let⟨x,u,K⟩:=aA J;rw[K,zG]at c;repeat' first|refine og a6 (D.bh G u) ?_|refine H.uY rfl rfl (λd=>?_) λd=>?_<;>(try simp only[bW]at d)<;>(first|exact dy d|refine I a6 ?_)|refine H.Dk ?_;refine I a6 ?_|refine sK rfl (by first|rfl) ?_|refine cg a6 (λd=>?_) λd=>?_|refine ag a6 λ_ _=>?_|refine xG a6 ?_
  all_goals first|omega|rw[if_pos Z,if_pos Z]at c;refine H.bK (_,_) [] ?_ ?_ cq;exact⟨k+1,by simp only;omega,Z,by simp only;omega,by simp only;omega,by rw[c];congr 1;simp only;omega⟩;simp only;omega|rw[if_pos Z,if_neg Z]at c;refine H.bK (_,_) [] ?_ ?_ cq;exact⟨k+1,by simp only;omega,Z,by simp only;omega,by simp only;omega,c⟩;simp only;omega|rw[if_neg Z]at c;exact c
 rw[aq_ Z,zG]at c;subst Yr;simp only at c;refine H.bif rfl (D.bit rfl) (λd=>?_) λd=>?_<;>(try simp only[decide_eq_true_eq,decide_eq_false_iff_not,beq_iff_eq,beq_eq_false_iff_ne,bne_iff_ne,bne_eq_false_iff_eq,de_,Bool.not_eq_false,cg_,Bool.not_eq_false',ne_eq]at d);omega;refine I a6 ?_;refine xG a6 ?_;refine H.bif rfl (D.bit rfl) (λd=>?_) λd=>?_<;>(try simp only[decide_eq_true_eq,decide_eq_false_iff_not,beq_iff_eq,beq_eq_false_iff_ne,bne_iff_ne,bne_eq_false_iff_eq,de_,Bool.not_eq_false,cg_,Bool.not_eq_false',ne_eq]at d)<;>refine I a6 ?_;rotate_left;refine H.uY rfl rfl (λhc=>absurd hc aD) λhc=>?_;refine I a6 ?_;refine sK rfl rfl ?_;rw[decide_eq_false Z]at c;exact c;refine H.uY rfl rfl (λhc=>?_) λhc=>absurd hc aD;refine I a6 ?_;rw[decide_eq_true Z,show cR true 2=0 from rfl,bX rfl]at c;have hN:=BV (Y:=Y) n Fq;rw[Dz]at c;dsimp only at c;refine H.asS (σ:=Int) 0 3 3 (λ_=>[(0,.ip (lY O ⟨n,l,j,g,b,v⟩)),(1,.ip [g7 O ds])]) [] (λ_=>[]) (λ_=>E=Kh ds ⟨n,l,j,g,b,v⟩) rfl ?_ ?_
 ·let⟨NB,zI⟩:=aq (nR n);rw[<-zI]at c hN;let⟨ne,dh⟩:=aq (n.toList==(⟨#[]⟩:ByteArray).toList);rw[<-dh]at c;repeat' first|refine bg a6 (D.bit rfl) (λhs=>?_) λhs=>?_|refine bg a6 (pl hN) (λ_=>?_) λ_=>?_|refine H.asz ?_;refine I a6 ?_|refine H.uY rfl rfl (λd=>?_) λd=>?_<;>(try simp only[bW]at d)<;>(first|exact dy d|refine I a6 ?_)|refine sK rfl (by first|rfl) ?_
  all_goals first|rw[show NB=true by assumption,cF_,show cR true 7=0 from rfl,bX rfl]at c;exact H.aji (0:Int) [] c rfl cq|rw[show NB=false by assumption,show ne=false by rw[dh];first|exact hs ]at c;exact c|rw[show ne=true by rw[dh];first|exact hs ,cy_,show cR true 7=0 from rfl,bX rfl]at c;exact H.aji (0:Int) [] c rfl cq
 rintro s0 c;clear hL ql hN cJ hG hGV;refine I a6 ?_;rw[Kh]at c;dsimp only at c;have w8:Pure (.agg [fI O l,fI O j]):=.agg λa A=>by simp only[al_,ax_,or_false]at A;rcases A with rfl|rfl<;>exact cQ _
 refine H.g5 (σ:=Int) 3 3 [] (λq=>[(0,.ip (lY O ⟨n,l,j,g,b,v⟩)),(1,.ip [g7 O ds]),(135,.agg [fI O l,fI O j]),(136,.v (.int .i64 q))]) [] (λ_=>[]) (λq=>q=0/\E=bw (aU (EB ds) l) (bw (aU (EB ds) j) (wK ds ⟨n,l,j,g,b,v⟩))\/q=1/\E=bw (aU (EB ds) j) (wK ds ⟨n,l,j,g,b,v⟩)\/q=2/\E=wK ds ⟨n,l,j,g,b,v⟩) (λq=>2-q.toNat) 0 (.inl ⟨rfl,c⟩) rfl cq ?_;rintro y hI;obtain⟨rfl,c⟩|⟨o,z,Q,qL,c,oX⟩:y=2/\E=wK ds ⟨n,l,j,g,b,v⟩\/∃o z,o=(if y=0 then l else j)/\(∀x∈o,pD x.a/\x.n.size<=1099511627776)/\E=bw (aU (EB ds) o) z/\(y=0/\z=bw (aU (EB ds) j) (wK ds ⟨n,l,j,g,b,v⟩)\/y=1/\z=wK ds ⟨n,l,j,g,b,v⟩):=by rcases hI with⟨rfl,c⟩|⟨rfl,c⟩|h;exact .inr ⟨l,_,rfl,V,c,.inl ⟨rfl,rfl⟩⟩;exact .inr ⟨j,_,rfl,W,c,.inr ⟨rfl,rfl⟩⟩;exact .inl h
 rotate_left
 ·have PU:o.length<=1099511627776:=by rw[Q];split<;>assumption
  refine I a6 ?_;repeat' first|refine og a6 (D.I0 rfl rfl (a:=fI O o) (by rcases oX with⟨rfl,_⟩|⟨rfl,_⟩<;>subst Q<;>rfl) Z Z) ?_|refine H.int rfl (D.len rfl) λM N=>?_;rw[az]at N;refine I a6 ?_|omega|refine cg a6 (λd=>?_) λd=>?_
  all_goals first|skip
  refine bD 3 3 [] (λq=>[(0,.ip (lY O ⟨n,l,j,g,b,v⟩)),(1,.ip [g7 O ds]),(135,.agg [fI O l,fI O j]),(136,.v (.int .i64 y)),(139,fI O o),(140,.v (.int .i64 M)),(141,.v (.int .i64 q))]) [] (λ_=>[]) o.length (λk=>E=bw (aU (EB ds) (o.drop k)) z) (by simpa using c) λq k G hk c=>?_;refine I a6 ?_;by_cases J:k<o.length
  ·let⟨x,u,K⟩:=aA J;rw[K,aU,du]at c;have R:=as_ u;let⟨S,FI⟩:=qL x R;have n0:=S.len;let⟨F,s⟩:=aq (EB ds x);rw[<-s]at c;have hD:=TT (Y:=Y) (O:=O) ds x.n x.a.length hd;rw[show rT ds x.n x.a.length=F from s.symm]at hD;clear s S FI;let⟨xn,xa⟩:=x;dsimp only at hD n0;let⟨q3,yf⟩:∃q:Int,q=xa.length:=⟨_,rfl⟩;rw[<-yf]at hD;repeat' first|refine og a6 (D.bh G u) ?_|refine H.int rfl (D.len rfl) λm3 Ii=>?_;rw[az]at Ii;cases(Z:m3=q3);refine I a6 ?_|refine H.uZ rfl rfl hD (by repeat' first|exact trivial|refine⟨?_,?_⟩;first|exact .v|exact eL _) (λhe=>?_) λhe=>?_<;>refine I a6 ?_|refine H.Dk ?_;refine I a6 ?_|refine sK rfl (by first|exact decide_eq_false (by assumption)) ?_|refine cg a6 (λd=>?_) λd=>?_|refine ag a6 λ_ _=>?_|refine xG a6 ?_
   all_goals first|omega|have e:F=0:=he;rw[bX e]at c;exact cB _ [] (k+1) c|rw[eB he]at c;exact c
  ·rw[aq_ Z,aU,bX rfl]at c;repeat' first|refine cg a6 (λd=>?_) λd=>?_|refine ag a6 λ_ _=>?_|refine xG a6 ?_
   all_goals first|omega|skip
   refine H.bK _ [] ?_ ?_ cq<;>first|omega
 refine I a6 ?_;repeat' first|exact dy d|refine cg a6 (λd=>?_) λd=>?_|refine xG a6 ?_
 all_goals first|skip
 rw[wK]at c;dsimp only at c;let⟨F1,EE⟩:=aq (lO ds g);let⟨F2,Iq⟩:=aq (lO ds b);rw[<-EE]at c Ih;rw[<-Iq]at c P;repeat' first|refine H.int rfl (D.len rfl) λM N=>?_;rw[az]at N;refine I a6 ?_|refine H.uZ rfl rfl Ih (by repeat' first|exact trivial|refine⟨?_,?_⟩;first|exact a7 _|exact eL _) (λhe=>?_) λhe=>?_<;>refine I a6 ?_|refine H.uZ rfl rfl P (by repeat' first|exact trivial|refine⟨?_,?_⟩;first|exact a7 _|exact eL _) (λhe=>?_) λhe=>?_<;>refine I a6 ?_|refine sK rfl (by first|exact decide_eq_false (by assumption)) ?_
 all_goals first|rw[bX (e:=F1) (by assumption),eB (e:=F2) (by assumption)]at c;exact c|rw[eB (e:=F1) (by assumption)]at c;exact c|skip
 rw[bX (e:=F1) (by assumption),bX (e:=F2) (by assumption),Of]at c;dsimp only at c;clear EE Iq Ih P;refine bD 3 3 [] (λq=>[(0,.ip (lY O ⟨n,l,j,g,b,v⟩)),(1,.ip [g7 O ds]),(163,er O g),(164,.v (.int .i64 M)),(165,.v (.int .i64 q))]) [] (λ_=>[]) g.length (λk=>E=bw (aU Kg (g.drop k)) (bw (aU FP b) (Hx ⟨n,l,j,g,b,v⟩))) (by simpa using c) λq k G hk c=>?_;refine I a6 ?_;by_cases J:k<g.length
 ·let⟨x,u,K⟩:=aA J;rw[K,aU,du]at c;have R:=as_ u;have hT:=X9 (Y:=Y) x.op;let⟨B,w⟩:=aq (nr x.op);let⟨F,s⟩:=aq (Kg x);rw[<-s]at c;rw[Kg,<-w]at s;rw[<-w]at hT;clear w;let⟨xo,xn,xa⟩:=x;dsimp only at hT s;repeat' first|refine og a6 (D.bh G u) ?_|refine bg a6 (pl hT) (λ_=>?_) λ_=>?_|refine H.uY rfl rfl (λd=>?_) λd=>?_<;>(try simp only[bW]at d)<;>(first|exact dy d|refine I a6 ?_)|refine H.Dk ?_;refine I a6 ?_|refine sK rfl (by first|rfl) ?_|refine cg a6 (λd=>?_) λd=>?_|refine lg a6 λm hm=>?_|refine ag a6 λ_ _=>?_|refine xG a6 ?_
  all_goals first
   |omega
   |(have e:F=0:=by first|rw[s,show B=true by assumption];rfl|rw[s,decide_eq_true (show xo=1 by omega),cF_];rfl
     rw[bX e]at c;exact cB _ [] (k+1) c)
   |(have e:F=10:=by rw[s,show B=false by assumption,decide_eq_false (show¬xo=1 by omega)];rfl
     rw[eB (by rw[e];decide)]at c;rw[c,e])
 rw[aq_ Z,aU,bX rfl]at c;repeat' first|refine H.int rfl (D.len rfl) λM N=>?_;rw[az]at N;refine I a6 ?_|refine cg a6 (λd=>?_) λd=>?_|refine xG a6 ?_
 all_goals first|omega|skip
 refine bD 3 3 [] (λq=>[(0,.ip (lY O ⟨n,l,j,g,b,v⟩)),(1,.ip [g7 O ds]),(180,er O b),(181,.v (.int .i64 M)),(182,.v (.int .i64 q))]) [] (λ_=>[]) b.length (λk=>E=bw (aU FP (b.drop k)) (Hx ⟨n,l,j,g,b,v⟩)) (by simpa using c) λq k G hk c=>?_;refine I a6 ?_;by_cases J:k<b.length
 ·let⟨x,u,K⟩:=aA J;rw[K,aU,du]at c;have R:=as_ u;have hT:=X9 (Y:=Y) x.op;let⟨B,w⟩:=aq (nr x.op);let⟨F,s⟩:=aq (FP x);rw[<-s]at c;rw[FP,<-w]at s;rw[<-w]at hT;clear w;let⟨xo,xn,xa⟩:=x;dsimp only at hT s;repeat' first|refine og a6 (D.bh G u) ?_|refine bg a6 (pl hT) (λ_=>?_) λ_=>?_|refine H.uY rfl rfl (λd=>?_) λd=>?_<;>(try simp only[bW]at d)<;>(first|exact dy d|refine I a6 ?_)|refine H.Dk ?_;refine I a6 ?_|refine sK rfl (by first|rfl) ?_|refine cg a6 (λd=>?_) λd=>?_|refine ag a6 λ_ _=>?_|refine xG a6 ?_
  all_goals first
   |omega
   |(have e:F=0:=by rw[s,show B=false by assumption];rfl
     rw[bX e]at c;exact cB _ [] (k+1) c)
   |(have e:F=10:=by rw[s,show B=true by assumption];rfl
     rw[eB (by rw[e];decide)]at c;rw[c,e])
 rw[aq_ Z,aU,bX rfl]at c;repeat' first|apply bk a6 hA|apply bk a6 TR|refine H.int rfl (D.len rfl) λM N=>?_;rw[az]at N;refine I a6 ?_|refine cg a6 (λd=>?_) λd=>?_|refine xG a6 ?_
 all_goals first|omega|skip
 rw[Hx]at c;let⟨fK,TZ⟩:=aq (Yp ⟨n,l,j,g,b,v⟩);rw[<-TZ,<-ajh]at c;have Cp:∀x,fK x=cR (AV.contains x) 17:=λx=>by rw[TZ,Yp,<-hAV]
 refine bD 3 3 [] (λq=>[(22,aY O aV false AV),(201,aY O aV false GG),(202,.v (.int .i64 M)),(203,.v (.int .i64 q))]) [] (λ_=>[]) GG.length (λk=>E=bw (aU fK (GG.drop k)) 0) (by simpa using c) λq k G hk c=>?_;refine I a6 ?_;by_cases J:k<GG.length
 ·let⟨x,u,K⟩:=aA J;rw[K,aU,du]at c;have R:=as_ u;have hC:=Pl (Y:=Y) (O:=O) AV x Z;let⟨B,w⟩:=aq (AV.contains x);have s:=Cp x;rw[<-w]at s hC;let⟨F,EE⟩:=aq (fK x);rw[<-EE]at c s;clear EE w;repeat' first|refine og a6 (D.bh G u) ?_|refine bg a6 (pl hC) (λ_=>?_) λ_=>?_|refine H.uY rfl rfl (λd=>?_) λd=>?_<;>(try simp only[bW]at d)<;>(first|exact dy d|refine I a6 ?_)|refine H.Dk ?_;refine I a6 ?_|refine I7 rfl (by conv=>lhs;cbv) ?_|refine sK rfl (by first|rfl) ?_|refine cg a6 (λd=>?_) λd=>?_|refine ag a6 λ_ _=>?_|refine xG a6 ?_
  all_goals first
   |omega
   |(have e:F=0:=by rw[s,show B=true by assumption];rfl
     rw[bX e]at c;exact cB _ [] (k+1) c)
   |(have e:F=17:=by rw[s,show B=false by assumption];rfl
     rw[eB (by rw[e];decide)]at c;rw[c,e])
 rw[aq_ Z,aU,bX rfl]at c;repeat' first|refine I7 rfl (by conv=>lhs;cbv) ?_|refine cg a6 (λd=>?_) λd=>?_|refine xG a6 ?_
 all_goals first|omega|skip
 all_goals exact c
end
end Go.Proofs.YtbdcmpknicjopaaGreat
