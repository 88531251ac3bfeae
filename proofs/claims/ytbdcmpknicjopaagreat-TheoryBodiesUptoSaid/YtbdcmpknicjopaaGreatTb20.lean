import Derived.Test.YtbdcmpknicjopaaGreatTb19
namespace Go.Proofs.YtbdcmpknicjopaaGreat
set_option linter.all false
open Go.RowKit Proofs.Tryz
variable{O:Hd}{Y:World}
section
set_option maxRecDepth 100000
attribute [local irreducible] ao aF D H
def apr:=aD func157 call157
def a_:List Nat:=[0,11,56,61,75,80,103,136,141,1,165,182,203,2,13,17,19,57,55,4,60,62,59,6,76,74,8,79,81,78,10,102,104,101,113,137,135,15,140,142,139,164,166,163,181,183,180,21,202,204,201,22,24]
def cT(b:Bool)(e:Int):Int:=if b then 0 else e
theorem du{a b c:Int}:bw (bw a b) c=bw a (bw b c):=by unfold bw;split<;>simp_all
def aV{T:Type}(f:T->Int):List T->Int|[]=>0|x::l=>bw (f x) (aV f l)
theorem B8(ds:List Dc)(l:List Gl):lZ ds l=aV (vl ds) l:=by induction l with|nil=>rfl|cons x l a=>rw[lZ,aV,a]
def z_:List Int->Int->(Int->Int)->Int|[],n,k=>k n|v::a,n,k=>if v<=n then z_ a (if v=n then n+1 else n) k else 2
def Bh(x:At):Int:=cT (ft x) 2
def Aa(x:Gl):Int:=cT (de x) 2
def E_(ds:List Dc)(x:At):Int:=sB ds x.n x.a.length
def K2(x:Gl):Int:=cT (nC x.op||decide (x.op=1)) 10
def Gu(x:Gl):Int:=cT (!nC x.op) 10
def vw(r:Rl):List Int:=IX [r.aQ,r.rem]
def Bi(r:Rl):List Int:=tr [r.guard,r.body]
def Zx(r:Rl)(x:Int):Int:=cT ((vw r).contains x) 17
def H9(r:Rl):Int:=bw (aV (Zx r) (tr [r.guard])) 0
def O2(r:Rl):Int:=bw (aV K2 r.guard) (bw (aV Gu r.body) (H9 r))
def w9(ds:List Dc)(r:Rl):Int:=bw (lZ ds r.guard) (bw (lZ ds r.body) (O2 r))
def K3(ds:List Dc)(r:Rl):Int:=bw (aV (E_ ds) r.aQ) (bw (aV (E_ ds) r.rem) (w9 ds r))
def D4(ds:List Dc)(r:Rl):Int:=bw (cT (r.n.toList==(⟨#[]⟩:ByteArray).toList||nZ r.n) 7) (K3 ds r)
def w_(ds:List Dc)(r:Rl):Int:=z_ (vw r++Bi r) 0 λn=>bw (cT (decide (r.vars=n)) 2) (D4 ds r)
def xc(ds:List Dc)(r:Rl):Int:=bw (aV Aa r.guard) (bw (aV Aa r.body) (w_ ds r))
def O3(ds:List Dc)(r:Rl):Int:=bw (aV Bh r.aQ) (bw (aV Bh r.rem) (xc ds r))
def CS(r:Rl):Bool:=decide (0<r.aQ.length+r.rem.length)&&decide (r.aQ.length+r.rem.length<=4)&&decide (r.guard.length<=12)&&decide (r.body.length<=12)
def oT(ds:List Dc)(r:Rl):Int:=bw (cT (CS r) 6) (O3 ds r)
structure CT(r:Rl):Prop where
 n:r.n.size<=1099511627776ke:r.aQ.length<=1099511627776re:r.rem.length<=1099511627776g:r.guard.length<=1099511627776b:r.body.length<=1099511627776kx:∀x∈r.aQ,o6 x.a/\x.n.size<=1099511627776rx:∀x∈r.rem,o6 x.a/\x.n.size<=1099511627776gx:∀x∈r.guard,zO x
 bx:∀x∈r.body,zO x
 av:(vw r).length<=549755813888gv:(Bi r).length<=549755813888
def o6.IW{a:List Tm}(h:o6 a):IW a:=⟨h.len,h.1,wA h⟩
theorem afk(r:Rl)(h:CT r):∃len,len=(vw r).length/\aF prog Y 158 [.sl true [[fI O r.aQ],[fI O r.rem]]] (aw [] 0) (.gr 0 1 len) (aw [(0,tf O (vw r))] 1):=by let⟨len,d,b⟩:=aub (Y:=Y) (O:=O) [r.aQ,r.rem] aB (λl c=>by simp only[ae_,aw_,or_false]at c;rcases c with rfl|rfl;exact⟨h.ke,λx a=>(h.kx x a).1.IW⟩;exact⟨h.re,λx a=>(h.rx x a).1.IW⟩) _ rfl (by have:=h.av;unfold vw at this;omega);rw[bF]at b;exact⟨len,d,b⟩
theorem aps(r:Rl)(h:CT r):ab Y 158 [.sl true [[fI O r.aQ],[fI O r.rem]]] (aY O aR false (vw r)):=by let⟨len,a,b⟩:=afk (Y:=Y) (O:=O) r h;exact ao.zJ b (aH.grow rfl a) (bJ _)
theorem apt(r:Rl)(h:CT r):ab Y 159 [.sl true [[dJ O r.guard],[dJ O r.body]]] (aY O aR false (Bi r)):=by have b:=aj2 (Y:=Y) (O:=O) [r.guard,r.body] aB (λl c=>by simp only[ae_,aw_,or_false]at c;rcases c with rfl|rfl;exact⟨h.g,λx a=>(h.gx x a).1.IW⟩;exact⟨h.b,λx a=>(h.bx x a).1.IW⟩) (by have:=h.gv;unfold Bi at this;omega);rw[bF]at b;exact b
theorem Zy(r:Rl)(h:CT r):(tr [r.guard]).length<=1099511627776:=by have a:=h.gv;simp only[Bi,tr,aV_,bt_,ar_,bg_]at a⊢;omega
theorem aj9(r:Rl)(h:CT r):ab Y 159 [.sl true [[dJ O r.guard]]] (aY O aR false (tr [r.guard])):=by have a:=aj2 (Y:=Y) (O:=O) [r.guard] aB (λl b=>by cases ak_.1 b;exact⟨h.g,λx c=>(h.gx x c).1.IW⟩) (Zy r h);rw[bF]at a;exact a
set_option maxHeartbeats 8000000 in theorem aj_(ds:List Dc)(r:Rl)(hd:ds.length<=1099511627776)(C:CT r):DZ Y 157 [.ip (lY O r),.ip [h_ O ds]] (oT ds r):=by
 have qX:Pure (.ip (lY O r)):=.ip (D5 r);have hpd:Pure (.ip [h_ O ds]):=.ip λa A=>by cases ak_.1 A;exact eN ds
 let⟨F_,mI,eX,CQ,U0,V,W,hhg,hhb,hav,hgv⟩:=id C;have K4:=afk (Y:=Y) (O:=O) r C;have hA:=aps (Y:=Y) (O:=O) r C;have hG:=apt (Y:=Y) (O:=O) r C;have UE:=aj9 (Y:=Y) (O:=O) r C;have hGl:=Zy r C;have IU:=UW (Y:=Y) (O:=O) ds r.guard hd CQ λx u=>(hhg x u).1.len;have P:=UW (Y:=Y) (O:=O) ds r.body hd U0 λx u=>(hhb x u).1.len;let⟨E,c⟩:=aq (oT ds r);rw[<-c];let⟨n,l,j,g,b,v⟩:=r;dsimp only at F_ mI eX CQ U0 V W hhg hhb IU P K4 hA hG UE hGl;let⟨AV,hAV⟩:=aq (vw ⟨n,l,j,g,b,v⟩);let⟨GV,hGV⟩:=aq (Bi ⟨n,l,j,g,b,v⟩);let⟨GG,ake⟩:=aq (tr [g]);rw[<-hAV]at K4 hA hav;rw[<-hGV]at hG hgv;rw[<-ake]at UE hGl;rw[oT]at c;have hS:CS ⟨n,l,j,g,b,v⟩=(decide (0<l.length+j.length)&&decide (l.length+j.length<=4)&&decide (g.length<=12)&&decide (b.length<=12)):=rfl;refine OY apr.2 (by simp[ntmps157]) ?_;refine Z a_ ?_;repeat' first|refine H.vk rfl rfl (λd=>?_) λd=>?_<;>(try simp only[bY]at d)<;>(first|exact dF d|refine Z a_ ?_)|refine sY rfl (by first|rfl) ?_|refine cg a_ (λd=>?_) λd=>?_|refine lg a_ λm hm=>?_|refine ag a_ λ_ _=>?_
 all_goals first|rw[eD (by rw[hS];simp[cT];omega)]at c;rw[c,hS];simp[cT];omega|skip
 rw[bZ (by rw[hS];simp[cT];omega),O3]at c;dsimp only at c;clear hS;have xH:Pure (.agg [fI O l,fI O j]):=.agg λa A=>by simp only[ae_,aw_,or_false]at A;rcases A with rfl|rfl<;>exact cR _
 refine H.ic (σ:=Int) 0 0 [] (λq=>[(0,.ip (lY O ⟨n,l,j,g,b,v⟩)),(1,.ip [h_ O ds]),(55,.agg [fI O l,fI O j]),(56,.v (.int .i64 q))]) [] (λ_=>[]) (λq=>q=0/\E=bw (aV Bh l) (bw (aV Bh j) (xc ds ⟨n,l,j,g,b,v⟩))\/q=1/\E=bw (aV Bh j) (xc ds ⟨n,l,j,g,b,v⟩)\/q=2/\E=xc ds ⟨n,l,j,g,b,v⟩) (λq=>2-q.toNat) 0 (.inl ⟨rfl,c⟩) rfl cq ?_;rintro y hI;obtain⟨rfl,c⟩|⟨o,z,Q,q9,c,pe⟩:y=2/\E=xc ds ⟨n,l,j,g,b,v⟩\/∃o z,o=(if y=0 then l else j)/\(∀x∈o,o6 x.a/\x.n.size<=1099511627776)/\E=bw (aV Bh o) z/\(y=0/\z=bw (aV Bh j) (xc ds ⟨n,l,j,g,b,v⟩)\/y=1/\z=xc ds ⟨n,l,j,g,b,v⟩):=by rcases hI with⟨rfl,c⟩|⟨rfl,c⟩|h;exact .inr ⟨l,_,rfl,V,c,.inl ⟨rfl,rfl⟩⟩;exact .inr ⟨j,_,rfl,W,c,.inr ⟨rfl,rfl⟩⟩;exact .inl h
 rotate_left
 ·have Q1:o.length<=1099511627776:=by rw[Q];split<;>assumption
  refine Z a_ ?_;repeat' first|refine og a_ (D.JC rfl rfl (a:=fI O o) (by rcases pe with⟨rfl,_⟩|⟨rfl,_⟩<;>subst Q<;>rfl) X X) ?_|refine H.int rfl (D.len rfl) λM N=>?_;rw[az]at N;refine Z a_ ?_|omega|refine cg a_ (λd=>?_) λd=>?_
  all_goals first|skip
  refine bE 0 0 [] (λq=>[(0,.ip (lY O ⟨n,l,j,g,b,v⟩)),(1,.ip [h_ O ds]),(55,.agg [fI O l,fI O j]),(56,.v (.int .i64 y)),(59,fI O o),(60,.v (.int .i64 M)),(61,.v (.int .i64 q))]) [] (λ_=>[]) o.length (λk=>E=bw (aV Bh (o.drop k)) z) (by simpa using c) λq k G hk c=>?_;refine Z a_ ?_;by_cases J:k<o.length
  ·let⟨x,u,K⟩:=aA J;rw[K,aV,du]at c;have R:=am_ u;let⟨S,Gk⟩:=q9 x R;have hR:=H0 (Y:=Y) (O:=O) x ⟨S.len,S.1⟩ Gk;let⟨B,w⟩:=aq (ft x);let⟨F,s⟩:=aq (Bh x);rw[<-s]at c;rw[Bh,<-w]at s;rw[<-w]at hR;clear w;let⟨xn,xa⟩:=x;repeat' first|refine og a_ (D.bh G u) ?_|apply a8 a_ hR|refine H.vk rfl rfl (λd=>?_) λd=>?_<;>(try simp only[bY]at d)<;>(first|refine Z a_ ?_)|refine H.DJ ?_;refine Z a_ ?_|refine sY rfl (by first|rfl) ?_|refine cg a_ (λd=>?_) λd=>?_|refine ag a_ λ_ _=>?_|refine xG a_ ?_
   all_goals first
    |omega
    |(have e:F=0:=by rw[s,d];rfl
      rw[bZ e]at c;exact cw _ [] (k+1) c)
    |(have e:F=2:=by rw[s,d];rfl
      rw[eD (by rw[e];decide)]at c;rw[c,e])
  ·rw[al_ X,aV,bZ rfl]at c;repeat' first|refine cg a_ (λd=>?_) λd=>?_|refine ag a_ λ_ _=>?_|refine xG a_ ?_
   all_goals first|omega|skip
   refine H.bO _ [] ?_ ?_ cq<;>first|omega
 refine Z a_ ?_;repeat' first|exact dF d|refine cg a_ (λd=>?_) λd=>?_|refine xG a_ ?_
 all_goals first|skip
 rw[xc]at c;dsimp only at c;have xH:Pure (.agg [dJ O g,dJ O b]):=.agg λa A=>by simp only[ae_,aw_,or_false]at A;rcases A with rfl|rfl<;>exact a6 _
 refine H.ic (σ:=Int) 0 0 [] (λq=>[(0,.ip (lY O ⟨n,l,j,g,b,v⟩)),(1,.ip [h_ O ds]),(74,.agg [dJ O g,dJ O b]),(75,.v (.int .i64 q))]) [] (λ_=>[]) (λq=>q=0/\E=bw (aV Aa g) (bw (aV Aa b) (w_ ds ⟨n,l,j,g,b,v⟩))\/q=1/\E=bw (aV Aa b) (w_ ds ⟨n,l,j,g,b,v⟩)\/q=2/\E=w_ ds ⟨n,l,j,g,b,v⟩) (λq=>2-q.toNat) 0 (.inl ⟨rfl,c⟩) rfl cq ?_;rintro y hI;obtain⟨rfl,c⟩|⟨o,z,Q,q9,c,pe⟩:y=2/\E=w_ ds ⟨n,l,j,g,b,v⟩\/∃o z,o=(if y=0 then g else b)/\(∀x∈o,zO x)/\E=bw (aV Aa o) z/\(y=0/\z=bw (aV Aa b) (w_ ds ⟨n,l,j,g,b,v⟩)\/y=1/\z=w_ ds ⟨n,l,j,g,b,v⟩):=by rcases hI with⟨rfl,c⟩|⟨rfl,c⟩|h;exact .inr ⟨g,_,rfl,hhg,c,.inl ⟨rfl,rfl⟩⟩;exact .inr ⟨b,_,rfl,hhb,c,.inr ⟨rfl,rfl⟩⟩;exact .inl h
 rotate_left
 ·have Q1:o.length<=1099511627776:=by rw[Q];split<;>assumption
  refine Z a_ ?_;repeat' first|refine og a_ (D.JC rfl rfl (a:=dJ O o) (by rcases pe with⟨rfl,_⟩|⟨rfl,_⟩<;>subst Q<;>rfl) X X) ?_|refine H.int rfl (D.len rfl) λM N=>?_;rw[az]at N;refine Z a_ ?_|omega|refine cg a_ (λd=>?_) λd=>?_
  all_goals first|skip
  refine bE 0 0 [] (λq=>[(0,.ip (lY O ⟨n,l,j,g,b,v⟩)),(1,.ip [h_ O ds]),(74,.agg [dJ O g,dJ O b]),(75,.v (.int .i64 y)),(78,dJ O o),(79,.v (.int .i64 M)),(80,.v (.int .i64 q))]) [] (λ_=>[]) o.length (λk=>E=bw (aV Aa (o.drop k)) z) (by simpa using c) λq k G hk c=>?_;refine Z a_ ?_;by_cases J:k<o.length
  ·let⟨x,u,K⟩:=aA J;rw[K,aV,du]at c;have R:=am_ u;let⟨S,Gk⟩:=q9 x R;have hR:=Cq (Y:=Y) (O:=O) x ⟨S.len,S.1⟩ Gk;let⟨B,w⟩:=aq (de x);let⟨F,s⟩:=aq (Aa x);rw[<-s]at c;rw[Aa,<-w]at s;rw[<-w]at hR;clear w;let⟨xo,xn,xa⟩:=x;repeat' first|refine og a_ (D.bh G u) ?_|apply a8 a_ hR|refine H.vk rfl rfl (λd=>?_) λd=>?_<;>(try simp only[bY]at d)<;>(first|refine Z a_ ?_)|refine H.DJ ?_;refine Z a_ ?_|refine sY rfl (by first|rfl) ?_|refine cg a_ (λd=>?_) λd=>?_|refine ag a_ λ_ _=>?_|refine xG a_ ?_
   all_goals first
    |omega
    |(have e:F=0:=by rw[s,d];rfl
      rw[bZ e]at c;exact cw _ [] (k+1) c)
    |(have e:F=2:=by rw[s,d];rfl
      rw[eD (by rw[e];decide)]at c;rw[c,e])
  ·rw[al_ X,aV,bZ rfl]at c;repeat' first|refine cg a_ (λd=>?_) λd=>?_|refine ag a_ λ_ _=>?_|refine xG a_ ?_
   all_goals first|omega|skip
   refine H.bO _ [] ?_ ?_ cq<;>first|omega
 refine Z a_ ?_;repeat' first|exact dF d|refine cg a_ (λd=>?_) λd=>?_|refine xG a_ ?_
 all_goals first|skip
 have Zz:w_ ds ⟨n,l,j,g,b,v⟩=z_ (vw ⟨n,l,j,g,b,v⟩++Bi ⟨n,l,j,g,b,v⟩) 0 λn'=>bw (cT (decide (v=n')) 2) (D4 ds ⟨n,l,j,g,b,v⟩):=rfl;rw[Zz,<-hAV,<-hGV]at c;clear Zz;let⟨len,GL,cL⟩:=K4;have Fa:Pure (.sl true [[fI O l],[fI O j]]):=.sl λrow C a A=>by simp only[ae_,aw_,or_false]at C;rcases C with rfl|rfl<;>(cases ak_.1 A;exact cR _)
 have cM:Pure (.sl true [[dJ O g],[dJ O b]]):=.sl λrow C a A=>by simp only[ae_,aw_,or_false]at C;rcases C with rfl|rfl<;>(cases ak_.1 A;exact a6 _)
 have CH:Pure (.sl true [[dJ O g]]):=.sl λrow C a A=>by cases ak_.1 C;cases ak_.1 A;exact a6 _
 refine H.ajv rfl cL rfl ⟨Rn.pure Fa,trivial⟩ (Rb.gr rfl) ⟨⟨0,_,rfl,rfl,m7.pure lX⟩,trivial⟩ rfl ?_;refine Z a_ ?_;refine H.eM rfl (λT=>pl hG) ?_;refine Z a_ ?_;refine H.Ww (f:=aR) rfl rfl rfl GL (λ_=>rfl) rfl (λ_=>rfl) (λ_=>rfl) X λL eO hL ml=>?_;refine Z a_ ?_;let⟨kk,Zz⟩:∃kk:Int->Int,kk=λn'=>bw (cT (decide (v=n')) 2) (D4 ds ⟨n,l,j,g,b,v⟩):=⟨_,rfl⟩;rw[<-Zz,<-hL]at c;have qC:L.length<=1099511627776:=by rw[hL,ar_];omega
 refine H.aue rfl (λT=>D.nt rfl) λm3 KR=>?_;refine Z a_ ?_;refine H.cv (Cv.freeze (t:=101) rfl rfl (.inl rfl) (ml.trans (az (O:=O) (f:=aR)).symm) (aE_ _)) ?_;refine cr (τ:=Int) 3 3 [] (λp=>[(0,.ip (lY O ⟨n,l,j,g,b,v⟩)),(1,.ip [h_ O ds]),(11,.v (.int .i64 p.2)),(101,aY O aR false L),(102,.v (.int .i64 m3)),(103,.v (.int .i64 p.1))]) [] (λ_=>[]) L.length (λk p=>0<=p.2/\p.2<=k/\E=z_ (L.drop k) p.2 kk) 0 ⟨aB,aB,by simpa using c⟩ ?_;rintro i k nx G hk⟨hn0,fw,c⟩;simp only at G hn0 fw c;refine Z a_ ?_;by_cases J:k<L.length
 ·let⟨x,u,K⟩:=aA J;rw[K,z_]at c;repeat' first|refine og a_ (D.bh G u) ?_|refine H.vk rfl rfl (λd=>?_) λd=>?_<;>(try simp only[bY]at d)<;>(first|exact dF d|refine Z a_ ?_)|refine H.DJ ?_;refine Z a_ ?_|refine sY rfl (by first|rfl) ?_|refine cg a_ (λd=>?_) λd=>?_|refine ag a_ λ_ _=>?_|refine xG a_ ?_
  all_goals first|omega|rw[if_pos X,if_pos X]at c;refine H.bO (_,_) [] ?_ ?_ cq;exact⟨k+1,by simp only;omega,X,by simp only;omega,by simp only;omega,by rw[c];congr 1;simp only;omega⟩;simp only;omega|rw[if_pos X,if_neg X]at c;refine H.bO (_,_) [] ?_ ?_ cq;exact⟨k+1,by simp only;omega,X,by simp only;omega,by simp only;omega,c⟩;simp only;omega|rw[if_neg X]at c;exact c
 rw[al_ X,z_]at c;subst Zz;simp only at c;refine H.bif rfl (D.bit rfl) (λd=>?_) λd=>?_<;>(try simp only[decide_eq_true_eq,decide_eq_false_iff_not,beq_iff_eq,beq_eq_false_iff_ne,bne_iff_ne,bne_eq_false_iff_eq,df_,Bool.not_eq_false,cg_,Bool.not_eq_false',ne_eq]at d);omega;refine Z a_ ?_;refine xG a_ ?_;refine H.bif rfl (D.bit rfl) (λd=>?_) λd=>?_<;>(try simp only[decide_eq_true_eq,decide_eq_false_iff_not,beq_iff_eq,beq_eq_false_iff_ne,bne_iff_ne,bne_eq_false_iff_eq,df_,Bool.not_eq_false,cg_,Bool.not_eq_false',ne_eq]at d)<;>refine Z a_ ?_;rotate_left;refine H.vk rfl rfl (λhc=>absurd hc aC) λhc=>?_;refine Z a_ ?_;refine sY rfl rfl ?_;rw[decide_eq_false X]at c;exact c;refine H.vk rfl rfl (λhc=>?_) λhc=>absurd hc aC;refine Z a_ ?_;rw[decide_eq_true X,show cT true 2=0 from rfl,bZ rfl]at c;have hN:=Cp (Y:=Y) n F_;rw[D4]at c;dsimp only at c;refine H.auf (σ:=Int) 0 3 3 (λ_=>[(0,.ip (lY O ⟨n,l,j,g,b,v⟩)),(1,.ip [h_ O ds])]) [] (λ_=>[]) (λ_=>E=K3 ds ⟨n,l,j,g,b,v⟩) rfl ?_ ?_
 ·let⟨NB,Ac⟩:=aq (nZ n);rw[<-Ac]at c hN;let⟨ne,dh⟩:=aq (n.toList==(⟨#[]⟩:ByteArray).toList);rw[<-dh]at c;repeat' first|refine bg a_ (D.bit rfl) (λhs=>?_) λhs=>?_|refine bg a_ (pl hN) (λ_=>?_) λ_=>?_|refine H.atS ?_;refine Z a_ ?_|refine H.vk rfl rfl (λd=>?_) λd=>?_<;>(try simp only[bY]at d)<;>(first|exact dF d|refine Z a_ ?_)|refine sY rfl (by first|rfl) ?_
  all_goals first|rw[show NB=true by assumption,cF_,show cT true 7=0 from rfl,bZ rfl]at c;exact H.akf (0:Int) [] c rfl cq|rw[show NB=false by assumption,show ne=false by rw[dh];first|exact hs ]at c;exact c|rw[show ne=true by rw[dh];first|exact hs ,cz_,show cT true 7=0 from rfl,bZ rfl]at c;exact H.akf (0:Int) [] c rfl cq
 rintro s0 c;clear hL qC hN cL hG hGV;refine Z a_ ?_;rw[K3]at c;dsimp only at c;have xH:Pure (.agg [fI O l,fI O j]):=.agg λa A=>by simp only[ae_,aw_,or_false]at A;rcases A with rfl|rfl<;>exact cR _
 refine H.ic (σ:=Int) 3 3 [] (λq=>[(0,.ip (lY O ⟨n,l,j,g,b,v⟩)),(1,.ip [h_ O ds]),(135,.agg [fI O l,fI O j]),(136,.v (.int .i64 q))]) [] (λ_=>[]) (λq=>q=0/\E=bw (aV (E_ ds) l) (bw (aV (E_ ds) j) (w9 ds ⟨n,l,j,g,b,v⟩))\/q=1/\E=bw (aV (E_ ds) j) (w9 ds ⟨n,l,j,g,b,v⟩)\/q=2/\E=w9 ds ⟨n,l,j,g,b,v⟩) (λq=>2-q.toNat) 0 (.inl ⟨rfl,c⟩) rfl cq ?_;rintro y hI;obtain⟨rfl,c⟩|⟨o,z,Q,q9,c,pe⟩:y=2/\E=w9 ds ⟨n,l,j,g,b,v⟩\/∃o z,o=(if y=0 then l else j)/\(∀x∈o,o6 x.a/\x.n.size<=1099511627776)/\E=bw (aV (E_ ds) o) z/\(y=0/\z=bw (aV (E_ ds) j) (w9 ds ⟨n,l,j,g,b,v⟩)\/y=1/\z=w9 ds ⟨n,l,j,g,b,v⟩):=by rcases hI with⟨rfl,c⟩|⟨rfl,c⟩|h;exact .inr ⟨l,_,rfl,V,c,.inl ⟨rfl,rfl⟩⟩;exact .inr ⟨j,_,rfl,W,c,.inr ⟨rfl,rfl⟩⟩;exact .inl h
 rotate_left
 ·have Q1:o.length<=1099511627776:=by rw[Q];split<;>assumption
  refine Z a_ ?_;repeat' first|refine og a_ (D.JC rfl rfl (a:=fI O o) (by rcases pe with⟨rfl,_⟩|⟨rfl,_⟩<;>subst Q<;>rfl) X X) ?_|refine H.int rfl (D.len rfl) λM N=>?_;rw[az]at N;refine Z a_ ?_|omega|refine cg a_ (λd=>?_) λd=>?_
  all_goals first|skip
  refine bE 3 3 [] (λq=>[(0,.ip (lY O ⟨n,l,j,g,b,v⟩)),(1,.ip [h_ O ds]),(135,.agg [fI O l,fI O j]),(136,.v (.int .i64 y)),(139,fI O o),(140,.v (.int .i64 M)),(141,.v (.int .i64 q))]) [] (λ_=>[]) o.length (λk=>E=bw (aV (E_ ds) (o.drop k)) z) (by simpa using c) λq k G hk c=>?_;refine Z a_ ?_;by_cases J:k<o.length
  ·let⟨x,u,K⟩:=aA J;rw[K,aV,du]at c;have R:=am_ u;let⟨S,Gk⟩:=q9 x R;have oc:=S.len;let⟨F,s⟩:=aq (E_ ds x);rw[<-s]at c;have hD:=UU (Y:=Y) (O:=O) ds x.n x.a.length hd;rw[show sB ds x.n x.a.length=F from s.symm]at hD;clear s S Gk;let⟨xn,xa⟩:=x;dsimp only at hD oc;let⟨q3,xI⟩:∃q:Int,q=xa.length:=⟨_,rfl⟩;rw[<-xI]at hD;repeat' first|refine og a_ (D.bh G u) ?_|refine H.int rfl (D.len rfl) λm3 KR=>?_;rw[az]at KR;cases(X:m3=q3);refine Z a_ ?_|refine H.vl rfl rfl hD (by repeat' first|exact trivial|refine⟨?_,?_⟩;first|exact .v|exact eN _) (λhe=>?_) λhe=>?_<;>refine Z a_ ?_|refine H.DJ ?_;refine Z a_ ?_|refine sY rfl (by first|exact decide_eq_false (by assumption)) ?_|refine cg a_ (λd=>?_) λd=>?_|refine ag a_ λ_ _=>?_|refine xG a_ ?_
   all_goals first|omega|have e:F=0:=he;rw[bZ e]at c;exact cw _ [] (k+1) c|rw[eD he]at c;exact c
  ·rw[al_ X,aV,bZ rfl]at c;repeat' first|refine cg a_ (λd=>?_) λd=>?_|refine ag a_ λ_ _=>?_|refine xG a_ ?_
   all_goals first|omega|skip
   refine H.bO _ [] ?_ ?_ cq<;>first|omega
 refine Z a_ ?_;repeat' first|exact dF d|refine cg a_ (λd=>?_) λd=>?_|refine xG a_ ?_
 all_goals first|skip
 rw[w9]at c;dsimp only at c;let⟨F1,Fb⟩:=aq (lZ ds g);let⟨F2,I3⟩:=aq (lZ ds b);rw[<-Fb]at c IU;rw[<-I3]at c P;repeat' first|refine H.int rfl (D.len rfl) λM N=>?_;rw[az]at N;refine Z a_ ?_|refine H.vl rfl rfl IU (by repeat' first|exact trivial|refine⟨?_,?_⟩;first|exact a6 _|exact eN _) (λhe=>?_) λhe=>?_<;>refine Z a_ ?_|refine H.vl rfl rfl P (by repeat' first|exact trivial|refine⟨?_,?_⟩;first|exact a6 _|exact eN _) (λhe=>?_) λhe=>?_<;>refine Z a_ ?_|refine sY rfl (by first|exact decide_eq_false (by assumption)) ?_
 all_goals first|rw[bZ (e:=F1) (by assumption),eD (e:=F2) (by assumption)]at c;exact c|rw[eD (e:=F1) (by assumption)]at c;exact c|skip
 rw[bZ (e:=F1) (by assumption),bZ (e:=F2) (by assumption),O2]at c;dsimp only at c;clear Fb I3 IU P;refine bE 3 3 [] (λq=>[(0,.ip (lY O ⟨n,l,j,g,b,v⟩)),(1,.ip [h_ O ds]),(163,dJ O g),(164,.v (.int .i64 M)),(165,.v (.int .i64 q))]) [] (λ_=>[]) g.length (λk=>E=bw (aV K2 (g.drop k)) (bw (aV Gu b) (H9 ⟨n,l,j,g,b,v⟩))) (by simpa using c) λq k G hk c=>?_;refine Z a_ ?_;by_cases J:k<g.length
 ·let⟨x,u,K⟩:=aA J;rw[K,aV,du]at c;have R:=am_ u;have hT:=Zh (Y:=Y) x.op;let⟨B,w⟩:=aq (nC x.op);let⟨F,s⟩:=aq (K2 x);rw[<-s]at c;rw[K2,<-w]at s;rw[<-w]at hT;clear w;let⟨xo,xn,xa⟩:=x;dsimp only at hT s;repeat' first|refine og a_ (D.bh G u) ?_|refine bg a_ (pl hT) (λ_=>?_) λ_=>?_|refine H.vk rfl rfl (λd=>?_) λd=>?_<;>(try simp only[bY]at d)<;>(first|exact dF d|refine Z a_ ?_)|refine H.DJ ?_;refine Z a_ ?_|refine sY rfl (by first|rfl) ?_|refine cg a_ (λd=>?_) λd=>?_|refine lg a_ λm hm=>?_|refine ag a_ λ_ _=>?_|refine xG a_ ?_
  all_goals first
   |omega
   |(have e:F=0:=by first|rw[s,show B=true by assumption];rfl|rw[s,decide_eq_true (show xo=1 by omega),cF_];rfl
     rw[bZ e]at c;exact cw _ [] (k+1) c)
   |(have e:F=10:=by rw[s,show B=false by assumption,decide_eq_false (show¬xo=1 by omega)];rfl
     rw[eD (by rw[e];decide)]at c;rw[c,e])
 rw[al_ X,aV,bZ rfl]at c;repeat' first|refine H.int rfl (D.len rfl) λM N=>?_;rw[az]at N;refine Z a_ ?_|refine cg a_ (λd=>?_) λd=>?_|refine xG a_ ?_
 all_goals first|omega|skip
 refine bE 3 3 [] (λq=>[(0,.ip (lY O ⟨n,l,j,g,b,v⟩)),(1,.ip [h_ O ds]),(180,dJ O b),(181,.v (.int .i64 M)),(182,.v (.int .i64 q))]) [] (λ_=>[]) b.length (λk=>E=bw (aV Gu (b.drop k)) (H9 ⟨n,l,j,g,b,v⟩)) (by simpa using c) λq k G hk c=>?_;refine Z a_ ?_;by_cases J:k<b.length
 ·let⟨x,u,K⟩:=aA J;rw[K,aV,du]at c;have R:=am_ u;have hT:=Zh (Y:=Y) x.op;let⟨B,w⟩:=aq (nC x.op);let⟨F,s⟩:=aq (Gu x);rw[<-s]at c;rw[Gu,<-w]at s;rw[<-w]at hT;clear w;let⟨xo,xn,xa⟩:=x;dsimp only at hT s;repeat' first|refine og a_ (D.bh G u) ?_|refine bg a_ (pl hT) (λ_=>?_) λ_=>?_|refine H.vk rfl rfl (λd=>?_) λd=>?_<;>(try simp only[bY]at d)<;>(first|exact dF d|refine Z a_ ?_)|refine H.DJ ?_;refine Z a_ ?_|refine sY rfl (by first|rfl) ?_|refine cg a_ (λd=>?_) λd=>?_|refine ag a_ λ_ _=>?_|refine xG a_ ?_
  all_goals first
   |omega
   |(have e:F=0:=by rw[s,show B=false by assumption];rfl
     rw[bZ e]at c;exact cw _ [] (k+1) c)
   |(have e:F=10:=by rw[s,show B=true by assumption];rfl
     rw[eD (by rw[e];decide)]at c;rw[c,e])
 rw[al_ X,aV,bZ rfl]at c;repeat' first|apply a8 a_ hA|apply a8 a_ UE|refine H.int rfl (D.len rfl) λM N=>?_;rw[az]at N;refine Z a_ ?_|refine cg a_ (λd=>?_) λd=>?_|refine xG a_ ?_
 all_goals first|omega|skip
 rw[H9]at c;let⟨fK,U1⟩:=aq (Zx ⟨n,l,j,g,b,v⟩);rw[<-U1,<-ake]at c;have CU:∀x,fK x=cT (AV.contains x) 17:=λx=>by rw[U1,Zx,<-hAV]
 refine bE 3 3 [] (λq=>[(22,aY O aR false AV),(201,aY O aR false GG),(202,.v (.int .i64 M)),(203,.v (.int .i64 q))]) [] (λ_=>[]) GG.length (λk=>E=bw (aV fK (GG.drop k)) 0) (by simpa using c) λq k G hk c=>?_;refine Z a_ ?_;by_cases J:k<GG.length
 ·let⟨x,u,K⟩:=aA J;rw[K,aV,du]at c;have R:=am_ u;have hC:=P0 (Y:=Y) (O:=O) AV x X;let⟨B,w⟩:=aq (AV.contains x);have s:=CU x;rw[<-w]at s hC;let⟨F,Fb⟩:=aq (fK x);rw[<-Fb]at c s;clear Fb w;repeat' first|refine og a_ (D.bh G u) ?_|refine bg a_ (pl hC) (λ_=>?_) λ_=>?_|refine H.vk rfl rfl (λd=>?_) λd=>?_<;>(try simp only[bY]at d)<;>(first|exact dF d|refine Z a_ ?_)|refine H.DJ ?_;refine Z a_ ?_|refine JN rfl (by conv=>lhs;cbv) ?_|refine sY rfl (by first|rfl) ?_|refine cg a_ (λd=>?_) λd=>?_|refine ag a_ λ_ _=>?_|refine xG a_ ?_
  all_goals first
   |omega
   |(have e:F=0:=by rw[s,show B=true by assumption];rfl
     rw[bZ e]at c;exact cw _ [] (k+1) c)
   |(have e:F=17:=by rw[s,show B=false by assumption];rfl
     rw[eD (by rw[e];decide)]at c;rw[c,e])
 rw[al_ X,aV,bZ rfl]at c;repeat' first|refine JN rfl (by conv=>lhs;cbv) ?_|refine cg a_ (λd=>?_) λd=>?_|refine xG a_ ?_
 all_goals first|omega|skip
 all_goals exact c
end
end Go.Proofs.YtbdcmpknicjopaaGreat
