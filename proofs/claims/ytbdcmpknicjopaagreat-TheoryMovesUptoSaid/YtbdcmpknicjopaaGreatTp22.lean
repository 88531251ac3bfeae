import Derived.Test.YtbdcmpknicjopaaGreatTp21
namespace Go.Proofs.YtbdcmpknicjopaaGreat
set_option linter.all false
set_option maxRecDepth 100000
open Go.RowKit Proofs.Tryz
variable{O:Hd}{Y:World}
section
attribute [local irreducible] ao aF D H
def aoF:=aC func109 call109
def fP:List Nat:=[3,5,10,7,8,9,6,4,1,34,38,46,50,58,64,72,77,86,0]
def Ud(vs:List Int)(x:Int):Int:=cR (vs.contains x) 17
def Qd(vs:List Int)(x:Gl):Int:=aU (Ud vs) (varsOf x.a)
def VW(r:Rl):Int:=bw (aU (Qd (varsOf (gj (r.aQ++r.rem)))) r.guard) 0
def VX(r:Rl):Int:=bw (aU Kg r.guard) (bw (aU FP r.body) (VW r))
def wi(ds:List Dc)(r:Rl):Int:=bw (aU (EB ds) (r.aQ++r.rem)) (bw (lO ds (r.guard++r.body)) (VX r))
structure M4(r:Rl):Prop where h:r.aQ.length+r.rem.length<=549755813888g:r.guard.length+r.body.length<=549755813888a:(gj (r.aQ++r.rem)++nG (r.guard++r.body)).length<=549755813888k:dR (gj (r.aQ++r.rem)++nG (r.guard++r.body))v:(aX (gj (r.aQ++r.rem)++nG (r.guard++r.body))).length<=1099511627776
def Qe:∀{a b:List Tm},dR (a++b)->dR a|[],_,_=>trivial|_::_,_,h=>⟨h.1,Qe h.2⟩
theorem DD(a b:List Tm):aX (a++b)=aX a++aX b:=by induction a with|nil=>rfl|cons x a c=>rw[aP_,aX,aX,c,bn_]
theorem YF(r:Rl)(h:M4 r):ab Y 247 [rl O r] (aY O aV false (varsOf (gj (r.aQ++r.rem))))/\(varsOf (gj (r.aQ++r.rem))).length<=1099511627776:=by have a:=h.a;have b:=h.v;rw[av_]at a;rw[DD,av_]at b;exact⟨VT r h.h Z (Qe h.k) Z,aA_ (lL _ _) Z⟩
set_option maxHeartbeats 4000000 in theorem YG(ds:List Dc)(r:Rl)(hd:ds.length<=1099511627776)(w:Co r)(hs:M4 r):ab Y 182 [g7 O ds,rl O r] (iv (wi ds r)):=by
 have Q:=Hw (Y:=Y) (O:=O) r hs.h;have R:=LH (Y:=Y) (O:=O) r hs.g;let⟨l,o⟩:=YF (Y:=Y) (O:=O) r hs;have ql:(r.aQ++r.rem).length<=549755813888:=by rw[av_];exact hs.h
 have FU:(r.guard++r.body).length<=549755813888:=by rw[av_];exact hs.g
 have S:∀x∈r.aQ++r.rem,pD x.a/\x.n.size<=1099511627776:=λx i=>by rcases aN_.1 i with h|h;exact w.kx x h;exact w.rx x h
 have p:=ags (Y:=Y) (O:=O) ds (r.guard++r.body) hd Z (λx i=>by rcases aN_.1 i with h|h;exact(w.gx x h).1.len;exact(w.bx x h).1.len);have zE:=lh (O:=O) r;have YH:=w.gx;have AU:=w.g;have AS:=w.b;let⟨E,a⟩:=aq (wi ds r);rw[<-a];unfold wi VX VW at a;clear hs w;let⟨n,C,G,g,b,v⟩:=r;dsimp only at a Q R l o ql FU S p YH AU AS;let⟨L,hL⟩:=aq (C++G);rw[<-hL]at a Q l o ql S;let⟨M,hM⟩:=aq (g++b);rw[<-hM]at a R FU p;let⟨W,hW⟩:=aq (varsOf (gj L));rw[<-hW]at a l o;let⟨T,EE⟩:=aq (lO ds M);rw[<-EE]at a p;clear hL hM hW EE;let⟨T1,V⟩:=aq (bw T (bw (aU Kg g) (bw (aU FP b) (bw (aU (Qd W) g) 0))));rw[<-V]at a;refine st aoB dE .v ?_;repeat' first|apply bk dE Q
 refine bD 1 1 [] (λq=>[(0,g7 O ds),(3,.pt 0 6 0 0),(5,fI O L),(6,.v (.int .i64 q))]) [] (λ_=>[(0,.arr 6 [lY O ⟨n,C,G,g,b,v⟩] 0 true)]) L.length (λk=>E=bw (aU (EB ds) (L.drop k)) T1) X λq k hi hk a=>?_;refine I dE ?_;by_cases au:k<L.length
 ·let⟨x,i,z⟩:=aA au;rw[z,aU,du]at a;have n0:=(S x (as_ i)).1.len;let⟨F,c⟩:=aq (EB ds x);rw[<-c]at a;have J:=M1 (Y:=Y) (O:=O) ds x.n x.a.length hd;rw[show rT ds x.n x.a.length=F from c.symm]at J;clear c;let⟨xn,K⟩:=x;dsimp only at J n0;let⟨q3,yf⟩:∃q:Int,q=K.length:=⟨_,rfl⟩;rw[<-yf]at J;refine H.int rfl (D.len rfl) λm0 qO=>?_;rw[az]at qO;refine I dE ?_;repeat' first|refine og dE (D.bh hi i) ?_|refine H.int rfl (D.len rfl) λm s=>?_;rw[az]at s;cases(Z:m=q3);refine I dE ?_|refine ig dE (pl J) λd sR=>?_|refine cg dE (λf=>?_) λf=>?_|refine ag dE λ_ _=>?_|refine xG dE ?_|refine rG dE ?_|refine fq ?_
  all_goals first|omega|rw[bX (show F=0 by omega)]at a;exact cB _ [] (k+1) a|rw[eB (show¬F=0 by omega)]at a;refine dx ?_;omega
 rw[aq_ Z,aU,bX rfl,V]at a;clear V;refine H.int rfl (D.len rfl) λm0 qO=>?_;rw[az]at qO;refine I dE ?_;repeat' first|apply bk dE R|refine ig dE (pl p) λd sR=>?_|refine cg dE (λf=>?_) λf=>?_|refine xG dE ?_|refine fq ?_
 all_goals first|omega|rw[eB (show¬T=0 by omega)]at a;refine dx ?_;omega|skip
 rw[bX (show T=0 by omega)]at a;let⟨T2,qQ⟩:=aq (bw (aU FP b) (bw (aU (Qd W) g) 0));rw[<-qQ]at a;refine bD 1 1 [] (λq=>[(3,.pt 0 6 0 0),(9,.v (.int .i64 q))]) [] (λ_=>[(0,.arr 6 [lY O ⟨n,C,G,g,b,v⟩] 0 true)]) g.length (λk=>E=bw (aU Kg (g.drop k)) T2) X λq k hi hk a=>?_;refine I dE ?_;by_cases au:k<g.length
 ·let⟨x,i,z⟩:=aA au;rw[z,aU,du]at a;have A:=Yy (Y:=Y) x.op;let⟨B,j⟩:=aq (nr x.op);let⟨F,c⟩:=aq (Kg x);rw[<-c]at a;rw[Kg,<-j]at c;rw[<-j]at A;clear j;let⟨N,xn,K⟩:=x;dsimp only at A c;repeat' first|refine og dE (D.bh hi i) ?_|refine bg dE (pl A) (λ_=>?_) λ_=>?_|refine cg dE (λf=>?_) λf=>?_|refine lg dE λm s=>?_|refine ag dE λ_ _=>?_|refine xG dE ?_|refine rG dE ?_|refine fq ?_
  all_goals first
   |omega
   |(have e:F=0:=by first|rw[c,show B=true by grind];rfl|rw[c,decide_eq_true (show N=1 by omega),cF_];rfl
     rw[bX e]at a;exact cB _ [] (k+1) a)
   |(have e:F=10:=by rw[c,show B=false by grind,decide_eq_false (show¬N=1 by omega)];rfl
     rw[eB Z]at a;refine dx ?_;omega)
 rw[aq_ Z,aU,bX rfl,qQ]at a;clear qQ;repeat' first|refine cg dE (λf=>?_) λf=>?_|refine lg dE λm s=>?_|refine xG dE ?_
 all_goals first|omega|skip
 let⟨T3,zN⟩:=aq (bw (aU (Qd W) g) 0);rw[<-zN]at a;refine bD 1 1 [] (λq=>[(3,.pt 0 6 0 0),(10,.v (.int .i64 q))]) [] (λ_=>[(0,.arr 6 [lY O ⟨n,C,G,g,b,v⟩] 0 true)]) b.length (λk=>E=bw (aU FP (b.drop k)) T3) X λq2 k2 ij eT a=>?_;refine I dE ?_;by_cases j9:k2<b.length
 ·let⟨x,i,z⟩:=aA j9;rw[z,aU,du]at a;have A:=Yy (Y:=Y) x.op;let⟨B,j⟩:=aq (nr x.op);let⟨F,c⟩:=aq (FP x);rw[<-c]at a;rw[FP,<-j]at c;rw[<-j]at A;clear j;let⟨N,xn,K⟩:=x;dsimp only at A c;repeat' first|refine og dE (D.bh ij i) ?_|refine bg dE (pl A) (λ_=>?_) λ_=>?_|refine cg dE (λf=>?_) λf=>?_|refine lg dE λm s=>?_|refine ag dE λ_ _=>?_|refine xG dE ?_|refine rG dE ?_|refine fq ?_
  all_goals first
   |omega
   |(have e:F=0:=by rw[c,show B=false by grind];rfl
     rw[bX e]at a;exact cB _ [] (k2+1) a)
   |(have e:F=10:=by rw[c,show B=true by grind];rfl
     rw[eB Z]at a;refine dx ?_;omega)
 rw[aq_ Z,aU,bX rfl,zN]at a;clear zN;repeat' first|apply bk dE l|refine cg dE (λf=>?_) λf=>?_|refine lg dE λm s=>?_|refine xG dE ?_
 all_goals first|omega|skip
 refine bD 1 1 [] (λq=>[(3,.pt 0 6 0 0),(11,aY O aV false W),(12,.v (.int .i64 q))]) [] (λ_=>[(0,.arr 6 [lY O ⟨n,C,G,g,b,v⟩] 0 true)]) g.length (λk=>E=bw (aU (Qd W) (g.drop k)) 0) X λq3 k3 dU Cm a=>?_;refine I dE ?_;by_cases sL:k3<g.length
 ·let⟨x,i,z⟩:=aA sL;have u:=YH x (as_ i);have hV:=J6 (Y:=Y) (O:=O) x u.1.len u.1.1 (wb u.1);have wW:=ug u.1;rw[z,aU,du,Qd]at a;let⟨P,mS⟩:=aq (varsOf x.a);rw[<-mS]at a hV wW;have vO:=jH (O:=O) x;let⟨N,xn,K⟩:=x;let⟨T4,Ue⟩:=aq (bw (aU (Qd W) (g.drop (k3+1))) 0);rw[<-Ue]at a;repeat' first|refine og dE (D.bh dU i) ?_|apply bk dE hV|refine cg dE (λf=>?_) λf=>?_|refine lg dE λm s=>?_|refine xG dE ?_|refine fq ?_
  all_goals first|omega|skip
  refine bD 1 1 [] (λt=>[(3,.pt 0 6 0 0),(11,aY O aV false W),(12,.v (.int .i64 q3)),(13,aY O aV false P),(14,.v (.int .i64 t))]) [] (λ_=>[(0,.arr 6 [lY O ⟨n,C,G,g,b,v⟩] 0 true)]) P.length (λk=>E=bw (aU (Ud W) (P.drop k)) T4) X λt k4 EG TY a=>?_;refine I dE ?_;by_cases abA:k4<P.length
  ·let⟨y,hy,d_⟩:=aA abA;rw[d_,aU,du]at a;have hI:=asU (Y:=Y) (O:=O) W y o;let⟨B,j⟩:=aq (W.contains y);let⟨F,c⟩:=aq (Ud W y);rw[<-c]at a;rw[Ud,<-j]at c;rw[<-j]at hI;clear j;repeat' first|refine og dE (D.bh EG hy) ?_|refine bg dE (pl hI) (λ_=>?_) λ_=>?_|refine cg dE (λf=>?_) λf=>?_|refine lg dE λm s=>?_|refine ag dE λ_ _=>?_|refine xG dE ?_|refine rG dE ?_|refine fq ?_
   all_goals first
    |omega
    |(have e:F=0:=by rw[c,show B=true by grind];rfl
      rw[bX e]at a;exact cB _ [] (k4+1) a)
    |(have e:F=17:=by rw[c,show B=false by grind];rfl
      rw[eB Z]at a;refine dx ?_;omega)
  rw[aq_ Z,aU,bX rfl,Ue]at a;repeat' first|refine cg dE (λf=>?_) λf=>?_|refine lg dE λm s=>?_|refine ag dE λ_ _=>?_|refine xG dE ?_
  all_goals first|omega|exact cB _ [] (k3+1) a
 rw[aq_ Z,aU,bX rfl]at a;repeat' first|refine cg dE (λf=>?_) λf=>?_|refine lg dE λm s=>?_|refine xG dE ?_|refine fq ?_
 all_goals first|omega|refine dx ?_;omega
def DF:List Int->Nat->Int|[],_=>0|v::l,k=>bw (cR (decide (v=k)) 2) (DF l (k+1))
def zO(r:Rl):List Int:=varsOf (gj (r.aQ++r.rem)++nG (r.guard++r.body))
def AW(ds:List Dc)(r:Rl):Int:=bw (cR (Cn r) 6) (bw (aU AK (r.aQ++r.rem)) (bw (aU zH (r.guard++r.body)) (bw (DF (zO r) 0) (bw (cR (decide (r.vars=(zO r).length)) 2) (bw (cR (r.n.toList==(⟨#[]⟩:ByteArray).toList||nR r.n) 7) (wi ds r))))))
set_option maxHeartbeats 4000000 in theorem agv(ds:List Dc)(r:Rl)(hd:ds.length<=1099511627776)(f:Co r)(hs:M4 r):ab Y 109 [g7 O ds,rl O r] (iv (AW ds r)):=by
 have z:=Hw (Y:=Y) (O:=O) r hs.h;have A:=LH (Y:=Y) (O:=O) r hs.g;have C:=VU (Y:=Y) (O:=O) r hs.h hs.g hs.a hs.k hs.v;have G:(zO r).length<=1099511627776:=aA_ (lL _ _) hs.v;have TN:=YG (Y:=Y) (O:=O) ds r hd f hs;have J:=Da (Y:=Y) r.n f.n;have ql:(r.aQ++r.rem).length<=549755813888:=by rw[av_];exact hs.h
 have FU:(r.guard++r.body).length<=549755813888:=by rw[av_];exact hs.g
 have K:∀x∈r.aQ++r.rem,pD x.a/\x.n.size<=1099511627776:=λx d=>by rcases aN_.1 d with h|h;exact f.kx x h;exact f.rx x h
 have p:∀x∈r.guard++r.body,Fu x:=λx d=>by rcases aN_.1 d with h|h;exact f.gx x h;exact f.bx x h
 have zE:=lh (O:=O) r;have AU:=f.g;have AS:=f.b;let⟨E,a⟩:=aq (AW ds r);rw[<-a];unfold AW at a;rw[<-zO]at C;let⟨i,mS⟩:=aq (zO r);rw[<-mS]at C G a;let⟨ME,u⟩:=aq (wi ds r);rw[<-u]at TN a;clear hs f mS u;let⟨n,j,l,g,b,v⟩:=r;dsimp only at a z A ql FU K p AU AS J;have N:Cn ⟨n,j,l,g,b,v⟩=(decide (0<j.length+l.length)&&decide (j.length+l.length<=4)&&decide (g.length<=12)&&decide (b.length<=12)):=rfl;have P:(j++l).length=j.length+l.length:=av_;let⟨L,hL⟩:=aq (j++l);rw[<-hL]at a z ql K P;let⟨M,hM⟩:=aq (g++b);rw[<-hM]at a A FU p;clear hL hM;let⟨Q,zI⟩:=aq (nR n);rw[<-zI]at a J;let⟨ne,R⟩:=aq (n.toList==(⟨#[]⟩:ByteArray).toList);rw[<-R]at a;let⟨T3,S⟩:=aq (bw (cR (ne||Q) 7) ME);let⟨T2,T⟩:=aq (bw (DF i 0) (bw (cR (decide (v=i.length)) 2) T3));let⟨T1,V⟩:=aq (bw (aU zH M) T2);rw[<-S,<-T,<-V]at a;refine st aoF fP .v ?_;repeat' first|apply bk fP z|apply bk fP A|refine cg fP (λc=>?_) λc=>?_|refine lg fP λm t=>?_|refine fq ?_
 all_goals first|rw[eB (by grind[cR])]at a;rw[a,N];refine dx ?_;simp[cR];omega|skip
 rw[bX (by rw[N];simp[cR];omega)]at a;clear N;refine bD 1 1 [] (λq=>[(0,g7 O ds),(3,.pt 0 6 0 0),(5,fI O L),(6,er O M),(7,.v (.int .i64 q))]) [] (λ_=>[(0,.arr 6 [lY O ⟨n,j,l,g,b,v⟩] 0 true)]) L.length (λk=>E=bw (aU AK (L.drop k)) T1) (by simpa using a) λq k hi hk a=>?_;refine I fP ?_;by_cases au:k<L.length
 ·let⟨x,d,w⟩:=aA au;rw[w,aU,du]at a;let⟨AJ,FI⟩:=K x (as_ d);have y:=IV (Y:=Y) (O:=O) x AJ FI;let⟨B,s⟩:=aq (fp x);let⟨F,o⟩:=aq (AK x);rw[<-o]at a;rw[AK,<-s]at o;rw[<-s]at y;clear s;let⟨xn,xa⟩:=x;repeat' first|refine og fP (D.bh hi d) ?_|refine bg fP (pl y) (λ_=>?_) λ_=>?_|refine cg fP (λc=>?_) λc=>?_|refine lg fP λm t=>?_|refine ag fP λ_ _=>?_|refine xG fP ?_|refine rG fP ?_|refine fq ?_
  all_goals first
   |omega
   |(have e:F=0:=by rw[o,show B=true by assumption];rfl
     rw[bX e]at a;exact cB _ [] (k+1) a)
   |(have e:F=2:=by rw[o,show B=false by grind];rfl
     rw[eB Z]at a;refine dx ?_;omega)
 rw[aq_ Z,aU,bX rfl,V]at a;clear V;repeat' first|refine cg fP (λc=>?_) λc=>?_|refine lg fP λm t=>?_|refine xG fP ?_
 all_goals first|omega|skip
 refine bD 1 1 [] (λq=>[(0,g7 O ds),(3,.pt 0 6 0 0),(6,er O M),(8,.v (.int .i64 q))]) [] (λ_=>[(0,.arr 6 [lY O ⟨n,j,l,g,b,v⟩] 0 true)]) M.length (λk=>E=bw (aU zH (M.drop k)) T2) (by simpa using a) λq2 k2 ij eT a=>?_;refine I fP ?_;by_cases j9:k2<M.length
 ·let⟨x,d,w⟩:=aA j9;rw[w,aU,du]at a;have ox:=p x (as_ d);have y:=zc (Y:=Y) (O:=O) x ox.1 ox.2;let⟨B,s⟩:=aq (de x);let⟨F,o⟩:=aq (zH x);rw[<-o]at a;rw[zH,<-s]at o;rw[<-s]at y;clear s;have vO:=jH (O:=O) x;let⟨xo,xn,xa⟩:=x;repeat' first|refine og fP (D.bh ij d) ?_|refine bg fP (pl y) (λ_=>?_) λ_=>?_|refine cg fP (λc=>?_) λc=>?_|refine lg fP λm t=>?_|refine ag fP λ_ _=>?_|refine xG fP ?_|refine rG fP ?_|refine fq ?_
  all_goals first
   |omega
   |(have e:F=0:=by rw[o,show B=true by assumption];rfl
     rw[bX e]at a;exact cB _ [] (k2+1) a)
   |(have e:F=2:=by rw[o,show B=false by grind];rfl
     rw[eB Z]at a;refine dx ?_;omega)
 rw[aq_ Z,aU,bX rfl,T]at a;clear T;repeat' first|apply bk fP C|refine cg fP (λc=>?_) λc=>?_|refine lg fP λm t=>?_|refine xG fP ?_
 all_goals first|omega|skip
 let⟨T4,W⟩:=aq (bw (cR (decide (v=i.length)) 2) T3);rw[<-W]at a;refine bD 1 1 [] (λq=>[(0,g7 O ds),(3,.pt 0 6 0 0),(9,aY O aV false i),(10,.v (.int .i64 q))]) [] (λ_=>[(0,.arr 6 [lY O ⟨n,j,l,g,b,v⟩] 0 true)]) i.length (λk=>E=bw (DF (i.drop k) k) T4) (by simpa using a) λq3 k3 dU Cm a=>?_;refine I fP ?_;by_cases sL:k3<i.length
 ·let⟨x,d,w⟩:=aA sL;rw[w,DF,du]at a;repeat' first|refine og fP (D.bh dU d) ?_|refine cg fP (λc=>?_) λc=>?_|refine lg fP λm t=>?_|refine ag fP λ_ _=>?_|refine xG fP ?_|refine rG fP ?_|refine fq ?_
  all_goals first|omega|rw[decide_eq_true (show x=k3 by omega),show cR true 2=0 from rfl,bX rfl]at a;exact cB _ [] (k3+1) a|rw[decide_eq_false (show¬x=k3 by omega),show cR false 2=2 from rfl,eB aD]at a;refine dx ?_;omega
 rw[aq_ Z,DF,bX rfl,W,S]at a;clear W S;repeat' first|refine H.bif (e:=n.toList != (⟨#[]⟩:ByteArray).toList) rfl (D.bit rfl) (λhs=>?_) λhs=>?_<;>refine I fP ?_|refine bg fP (pl J) (λ_=>?_) λ_=>?_|apply bk fP TN|refine cg fP (λc=>?_) λc=>?_|refine lg fP λm t=>?_|refine xG fP ?_|refine fq ?_
 all_goals first|omega|rw[decide_eq_false (show¬v=i.length by omega),show cR false 2=2 from rfl,eB aD]at a;refine dx ?_;omega|skip
 all_goals rw[decide_eq_true (show v=i.length by omega),show cR true 2=0 from rfl,bX rfl]at a
 all_goals first|rw[show Q=true by assumption,cF_,show cR true 7=0 from rfl,bX rfl]at a;rw[a];exact aI.of_eq rfl|rw[show Q=false by assumption,show ne=false by rw[R];simpa using hs]at a;rw[a];exact aI.of_eq rfl|rw[show ne=true by rw[R];simpa using hs,cy_,show cR true 7=0 from rfl,bX rfl]at a;rw[a];exact aI.of_eq rfl
def as4:=aC func51 call51
def o6:List Nat:=[1,5,4,6,7,2,3,0,11,16,24,29,38,51,56,68]
def Oi(s:List Dc)(d:Dc):Int:=if nR d.n then if decide (0<=d.ar)&&decide (d.ar<=6) then if i_ s d.n d.ar then 8 else 0 else 9 else 7
def vj(ds:List Dc):List Dc->Nat->Int|[],_=>0|d::l,k=>bw (Oi (ds.take k) d) (vj ds l (k+1))
def zP(ds:List Dc):List Rl->Nat->Int×Int|[],_=>(0,0)|r::l,k=>if AW ds r=0 then zP ds l (k+1) else(k,AW ds r)
def vk(p:Pg):Int×Int:=if p.ds.length<=30 then if vj p.ds p.ds 0=0 then if p.rs.length<=40 then zP p.ds p.rs 0 else(-1,6) else(-1,vj p.ds p.ds 0) else(-1,6)
set_option maxHeartbeats 1000000 in theorem abB(p:Pg)(T:Cs p)(hs:∀r∈p.rs,M4 r):ab Y 51 [pg O p] (.aL [iv (vk p).1,iv (vk p).2]):=by
 let⟨R,d⟩:=aq (vk p);rw[<-d];unfold vk at d;let⟨f,t⟩:=p;let⟨C,V,E,G⟩:=T;dsimp only at C V E G d hs;refine st as4 o6 (.aL λa J=>by simp only[al_,ax_,or_false]at J;rcases J with rfl|rfl<;>exact .v) ?_;repeat' first|refine cg o6 (λj=>?_) λj=>?_|refine lg o6 λm y=>?_|refine fq ?_
 rw[if_neg Z]at d;rw[d];exact aI.of_eq rfl;rw[if_pos Z]at d;let⟨h,z⟩:=aq (vj f f 0);rw[<-z]at d;refine bD 1 1 [] (λq=>[(1,.pt 0 2 0 0),(4,.v (.int .i64 q))]) [] (λ_=>[(0,.arr 2 [jk O ⟨f,t⟩] 0 true)]) f.length (λk=>h=vj f (f.drop k) k) (by simpa using z) λq k W hk c=>?_;clear z;refine I o6 ?_;by_cases au:k<f.length
 ·let⟨x,s,A⟩:=aA au;rw[A,vj]at c;have B:=Da (Y:=Y) x.n (E x (as_ s));have l:=yB (Y:=Y) (O:=O) (f.take k) x.n x.ar (by rw[bc_];omega);let⟨F,i⟩:=aq (Oi (f.take k) x);rw[<-i]at c;unfold Oi at i;let⟨u,K⟩:=aq (nR x.n);let⟨L,w⟩:=aq (i_ (f.take k) x.n x.ar);rw[<-K]at B i;rw[<-w]at l i;clear K w;let⟨tk,M⟩:=aq (f.take k);rw[<-M]at l;let⟨xn,o⟩:=x;dsimp only at B l i;repeat' first|refine og o6 (D.bh W s) ?_|refine bg o6 (pl B) (λ_=>?_) λ_=>?_|refine H.gen (g7 O) rfl (D.BC rfl rfl rfl (λ_=>rfl) aD Z Z) λN um=>?_;cases(by rw[um,M,co_,bD_];try congr 1;omega:N=tk);refine I o6 ?_|refine bg o6 (pl l) (λ_=>?_) λ_=>?_|refine cg o6 (λj=>?_) λj=>?_|refine lg o6 λm y=>?_|refine ag o6 λ_ _=>?_|refine xG o6 ?_|refine rG o6 ?_|refine fq ?_
  all_goals first
   |omega
   |(have e:F=7:=by rw[i,show u=false by grind];rfl
     rw[eB Z]at c;rw[if_neg (show¬h=0 by omega)]at d;rw[d,c,e];exact aI.of_eq rfl)
   |(have e:F=9:=by rw[i,show u=true by grind,decide_eq_false (show¬0<=o by omega)];rfl
     rw[eB Z]at c;rw[if_neg (show¬h=0 by omega)]at d;rw[d,c,e];exact aI.of_eq rfl)
   |(have e:F=9:=by rw[i,show u=true by grind,decide_eq_true (show 0<=o by omega),decide_eq_false (show¬o<=6 by omega)];rfl
     rw[eB Z]at c;rw[if_neg (show¬h=0 by omega)]at d;rw[d,c,e];exact aI.of_eq rfl)
   |(have e:F=8:=by rw[i,show u=true by grind,decide_eq_true (show 0<=o by omega),decide_eq_true (show o<=6 by omega),show L=true by grind];rfl
     rw[eB Z]at c;rw[if_neg (show¬h=0 by omega)]at d;rw[d,c,e];exact aI.of_eq rfl)
   |(have e:F=0:=by rw[i,show u=true by assumption,decide_eq_true (show 0<=o by omega),decide_eq_true (show o<=6 by omega),show L=false by assumption];rfl
     rw[bX e]at c;exact cB _ [] (k+1) c)
 rw[aq_ Z,vj]at c;rw[if_pos c]at d;clear c;repeat' first|refine cg o6 (λj=>?_) λj=>?_|refine lg o6 λm y=>?_|refine xG o6 ?_|refine fq ?_
 all_goals first|omega|rw[if_neg Z]at d;rw[d];exact aI.of_eq rfl|skip
 rw[if_pos Z]at d;refine bD 1 1 [] (λq=>[(1,.pt 0 2 0 0),(6,.v (.int .i64 q))]) [] (λ_=>[(0,.arr 2 [jk O ⟨f,t⟩] 0 true)]) t.length (λk=>R=zP f (t.drop k) k) (by simpa using d) λN P Q eT c=>?_;clear d;refine I o6 ?_;by_cases j9:P<t.length
 ·let⟨x,s,A⟩:=aA j9;rw[A,zP]at c;have S:=agv (Y:=Y) (O:=O) f x C (G x (as_ s)) (hs x (as_ s));let⟨F,EE⟩:=aq (AW f x);rw[<-EE]at c S;have vO:=lh (O:=O) x;let⟨n,ke,re,g,b,v⟩:=x;repeat' first|refine og o6 (D.bh Q s) ?_|refine ig o6 (pl S) λd2 sR=>?_|refine cg o6 (λj=>?_) λj=>?_|refine lg o6 λm y=>?_|refine ag o6 λ_ _=>?_|refine xG o6 ?_|refine rG o6 ?_|refine fq ?_
  all_goals first|omega|rw[if_pos (show F=0 by omega)]at c;exact cB _ [] (P+1) c|rw[if_neg (show¬F=0 by omega)]at c;subst sR;rw[c,<-Q];exact aI.of_eq rfl
 rw[aq_ Z,zP]at c;repeat' first|refine cg o6 (λj=>?_) λj=>?_|refine lg o6 λm y=>?_|refine xG o6 ?_|refine fq ?_
 all_goals first|omega|rw[c];exact aI.of_eq rfl
end
end Go.Proofs.YtbdcmpknicjopaaGreat
