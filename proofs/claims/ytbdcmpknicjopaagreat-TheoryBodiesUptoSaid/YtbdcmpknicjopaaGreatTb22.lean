import Derived.Test.YtbdcmpknicjopaaGreatTb21
namespace Go.Proofs.YtbdcmpknicjopaaGreat
set_option linter.all false
set_option maxRecDepth 100000
open Go.RowKit Proofs.Tryz
variable{O:Hd}{T:ah}{U:AA}{Y:World}
section
attribute [local irreducible] ao aF D H
def apD:=aD func182 call182
def dE:List Nat:=[3,6,9,5,10,12,14,0,7,8,13,4,1,20,37,44,50,69,74,83,90,102,11,111]
theorem acD(ds:List Dc)(n:ByteArray)(a:Int):sB ds n a=if jh ds n a=true then 0 else if ds.any (named n)=true then 9 else 7:=by grind[sB,jh,named]
theorem NS(ds:List Dc)(n:ByteArray)(a:Int)(l:ds.length<=1099511627776):ab Y 244 [h_ O ds,.v (.string n),iv a] (iv (sB ds n a)):=by
 have d:=yV (Y:=Y) (O:=O) ds n a l;rw[acD];let⟨o,f⟩:=aq (jh ds n a);rw[<-f]at d⊢;clear f;let⟨v,g⟩:=aq (ds.any (named n));rw[<-g];refine st apu uc .v ?_;refine cr (τ:=Int) 0 0 [] (λp=>[(0,h_ O ds),(1,.v (.string n)),(2,.v (.int .i64 a)),(7,.v (.int .i64 p.2)),(8,.v (.int .i64 p.1))]) [] (λ_=>[]) ds.length (λk p=>p.2=if(ds.take k).any (named n)=true then 9 else 7) 7 rfl ?_;rintro i k c h y b;simp only at h b;refine Z uc ?_;by_cases q:k<ds.length
 ·let⟨x,r,z⟩:=aA q;have s:(ds.take (k+1)).any (named n)=((ds.take k).any (named n)||named n x):=I;let⟨A,B⟩:=x;let⟨P,t⟩:=aq ((ds.take k).any (named n));rw[<-t]at b s;repeat' first|refine og uc (D.bh h r) ?_|refine bg uc (D.bit rfl) (λu=>?_) λu=>?_|refine lg uc λm j=>?_|refine ag uc λ_ _=>?_|refine xG uc ?_
  all_goals first|exfalso;simp only[decide_eq_true_eq,decide_eq_false_iff_not]at*;omega|refine H.bO (_,_) [] ?_ ?_ cq;grind[named];simp only;omega
 rw[aW_ X,<-g]at b;cases o
 ·skip;repeat' first|apply a8 uc d|refine cg uc (λe=>?_) λe=>?_|refine lg uc λm j=>?_|refine xG uc ?_|refine fq ?_
  all_goals first|omega|rw[b];exact aH.of_eq rfl
 ·skip;repeat' first|apply a8 uc d|refine cg uc (λe=>?_) λe=>?_|refine lg uc λm j=>?_|refine xG uc ?_|refine fq ?_
  all_goals first|omega|exact aH.of_eq rfl
theorem ahp(ds:List Dc)(l:List Gl)(v:ds.length<=1099511627776)(G:l.length<=1099511627776)(w:∀g∈l,g.a.length<=1099511627776):ab Y 245 [h_ O ds,dJ O l] (iv (lZ ds l)):=by
 let⟨R,f⟩:=aq (lZ ds l);rw[<-f];refine st apv wG .v ?_;refine bE 0 0 [] (λi=>[(0,h_ O ds),(1,dJ O l),(5,.v (.int .i64 i))]) [] (λ_=>[]) l.length (λk=>R=lZ ds (l.drop k)) (by simpa using f) λi k y J b=>?_;clear f;refine Z wG ?_;by_cases z:k<l.length
 ·let⟨x,r,A⟩:=aA z;rw[A,lZ]at b;have B:=w x (am_ r);let⟨o,n,a⟩:=x;dsimp only at B;have h:=NS (Y:=Y) (O:=O) ds n a.length v;have c:vl ds ⟨o,n,a⟩=if o=0 then sB ds n a.length else 0:=rfl;let⟨j,s⟩:=aq (sB ds n a.length);rw[<-s]at c h;let⟨C,t⟩:=aq (vl ds ⟨o,n,a⟩);rw[<-t]at c b;let⟨q,E⟩:∃q:Int,q=a.length:=⟨_,rfl⟩;rw[<-E]at h;clear s t;refine H.int rfl (D.len rfl) λK F=>?_;rw[az]at F;refine Z wG ?_;repeat' first|refine og wG (D.bh y r) ?_|refine H.int rfl (D.len rfl) λm u=>?_;rw[az]at u;cases(X:m=q);refine Z wG ?_|refine ig wG (pl h) λd L=>?_|refine cg wG (λp=>?_) λp=>?_|refine ag wG λ_ _=>?_|refine xG wG ?_|refine rG wG ?_|refine fq ?_
  all_goals first
   |omega
   |(have e:C=0:=by rw[c];split<;>omega
     rw[bZ e]at b;exact cw _ [] (k+1) b)
   |(have e:C=j:=by rw[c];split<;>omega
     rw[eD X]at b;refine dx ?_;omega)
 ·skip;repeat' first|refine cg wG (λp=>?_) λp=>?_|refine lg wG λm u=>?_|refine xG wG ?_|refine fq ?_
  all_goals first|omega|rw[b,al_ X];exact dx rfl
def apE:=aD func109 call109
def fQ:List Nat:=[3,5,10,7,8,9,6,4,1,34,38,46,50,58,64,72,77,86,0]
def U8(vs:List Int)(x:Int):Int:=cT (vs.contains x) 17
def Q6(vs:List Int)(x:Gl):Int:=aV (U8 vs) (varsOf x.a)
def WW(r:Rl):Int:=bw (aV (Q6 (varsOf (gk (r.aQ++r.rem)))) r.guard) 0
def WX(r:Rl):Int:=bw (aV K2 r.guard) (bw (aV Gu r.body) (WW r))
def wI(ds:List Dc)(r:Rl):Int:=bw (aV (E_ ds) (r.aQ++r.rem)) (bw (lZ ds (r.guard++r.body)) (WX r))
structure NT(r:Rl):Prop where h:r.aQ.length+r.rem.length<=549755813888g:r.guard.length+r.body.length<=549755813888a:(gk (r.aQ++r.rem)++nQ (r.guard++r.body)).length<=549755813888k:dS (gk (r.aQ++r.rem)++nQ (r.guard++r.body))v:(aZ (gk (r.aQ++r.rem)++nQ (r.guard++r.body))).length<=1099511627776
def Q7:∀{a b:List Tm},dS (a++b)->dS a|[],_,_=>trivial|_::_,_,h=>⟨h.1,Q7 h.2⟩
theorem D6(a b:List Tm):aZ (a++b)=aZ a++aZ b:=by induction a with|nil=>rfl|cons x a c=>rw[aP_,aZ,aZ,c,bn_]
theorem ZF(r:Rl)(h:NT r):ab Y 247 [rl O r] (aY O aR false (varsOf (gk (r.aQ++r.rem))))/\(varsOf (gk (r.aQ++r.rem))).length<=1099511627776:=by have a:=h.a;have b:=h.v;rw[ar_]at a;rw[D6,ar_]at b;exact⟨WT r h.h X (Q7 h.k) X,az_ (lW _ _) X⟩
set_option maxHeartbeats 4000000 in theorem ZG(ds:List Dc)(r:Rl)(hd:ds.length<=1099511627776)(w:CT r)(hs:NT r):ab Y 182 [h_ O ds,rl O r] (iv (wI ds r)):=by
 have Q:=H6 (Y:=Y) (O:=O) r hs.h;have R:=Mn (Y:=Y) (O:=O) r hs.g;let⟨l,o⟩:=ZF (Y:=Y) (O:=O) r hs;have qC:(r.aQ++r.rem).length<=549755813888:=by rw[ar_];exact hs.h
 have Gw:(r.guard++r.body).length<=549755813888:=by rw[ar_];exact hs.g
 have S:∀x∈r.aQ++r.rem,o6 x.a/\x.n.size<=1099511627776:=λx i=>by rcases aN_.1 i with h|h;exact w.kx x h;exact w.rx x h
 have p:=ahp (Y:=Y) (O:=O) ds (r.guard++r.body) hd X (λx i=>by rcases aN_.1 i with h|h;exact(w.gx x h).1.len;exact(w.bx x h).1.len);have v7:=jr (O:=O) r;have ZH:=w.gx;have Bn:=w.g;have Bm:=w.b;let⟨E,a⟩:=aq (wI ds r);rw[<-a];unfold wI WX WW at a;clear hs w;let⟨n,C,G,g,b,v⟩:=r;dsimp only at a Q R l o qC Gw S p ZH Bn Bm;let⟨L,hL⟩:=aq (C++G);rw[<-hL]at a Q l o qC S;let⟨M,hM⟩:=aq (g++b);rw[<-hM]at a R Gw p;let⟨W,hW⟩:=aq (varsOf (gk L));rw[<-hW]at a l o;let⟨T,Fb⟩:=aq (lZ ds M);rw[<-Fb]at a p;clear hL hM hW Fb;let⟨T1,V⟩:=aq (bw T (bw (aV K2 g) (bw (aV Gu b) (bw (aV (Q6 W) g) 0))));rw[<-V]at a;refine st apD dE .v ?_;repeat' first|apply a8 dE Q
 refine bE 1 1 [] (λq=>[(0,h_ O ds),(3,.pt 0 6 0 0),(5,fI O L),(6,.v (.int .i64 q))]) [] (λ_=>[(0,.arr 6 [lY O ⟨n,C,G,g,b,v⟩] 0 true)]) L.length (λk=>E=bw (aV (E_ ds) (L.drop k)) T1) I λq k hi hk a=>?_;refine Z dE ?_;by_cases au:k<L.length
 ·let⟨x,i,z⟩:=aA au;rw[z,aV,du]at a;have oc:=(S x (am_ i)).1.len;let⟨F,c⟩:=aq (E_ ds x);rw[<-c]at a;have J:=NS (Y:=Y) (O:=O) ds x.n x.a.length hd;rw[show sB ds x.n x.a.length=F from c.symm]at J;clear c;let⟨xn,K⟩:=x;dsimp only at J oc;let⟨q3,xI⟩:∃q:Int,q=K.length:=⟨_,rfl⟩;rw[<-xI]at J;refine H.int rfl (D.len rfl) λm0 q8=>?_;rw[az]at q8;refine Z dE ?_;repeat' first|refine og dE (D.bh hi i) ?_|refine H.int rfl (D.len rfl) λm s=>?_;rw[az]at s;cases(X:m=q3);refine Z dE ?_|refine ig dE (pl J) λd tc=>?_|refine cg dE (λf=>?_) λf=>?_|refine ag dE λ_ _=>?_|refine xG dE ?_|refine rG dE ?_|refine fq ?_
  all_goals first|omega|rw[bZ (show F=0 by omega)]at a;exact cw _ [] (k+1) a|rw[eD (show¬F=0 by omega)]at a;refine dx ?_;omega
 rw[al_ X,aV,bZ rfl,V]at a;clear V;refine H.int rfl (D.len rfl) λm0 q8=>?_;rw[az]at q8;refine Z dE ?_;repeat' first|apply a8 dE R|refine ig dE (pl p) λd tc=>?_|refine cg dE (λf=>?_) λf=>?_|refine xG dE ?_|refine fq ?_
 all_goals first|omega|rw[eD (show¬T=0 by omega)]at a;refine dx ?_;omega|skip
 rw[bZ (show T=0 by omega)]at a;let⟨T2,q_⟩:=aq (bw (aV Gu b) (bw (aV (Q6 W) g) 0));rw[<-q_]at a;refine bE 1 1 [] (λq=>[(3,.pt 0 6 0 0),(9,.v (.int .i64 q))]) [] (λ_=>[(0,.arr 6 [lY O ⟨n,C,G,g,b,v⟩] 0 true)]) g.length (λk=>E=bw (aV K2 (g.drop k)) T2) I λq k hi hk a=>?_;refine Z dE ?_;by_cases au:k<g.length
 ·let⟨x,i,z⟩:=aA au;rw[z,aV,du]at a;have A:=ZA (Y:=Y) x.op;let⟨B,j⟩:=aq (nC x.op);let⟨F,c⟩:=aq (K2 x);rw[<-c]at a;rw[K2,<-j]at c;rw[<-j]at A;clear j;let⟨N,xn,K⟩:=x;dsimp only at A c;repeat' first|refine og dE (D.bh hi i) ?_|refine bg dE (pl A) (λ_=>?_) λ_=>?_|refine cg dE (λf=>?_) λf=>?_|refine lg dE λm s=>?_|refine ag dE λ_ _=>?_|refine xG dE ?_|refine rG dE ?_|refine fq ?_
  all_goals first
   |omega
   |(have e:F=0:=by first|rw[c,show B=true by grind];rfl|rw[c,decide_eq_true (show N=1 by omega),cF_];rfl
     rw[bZ e]at a;exact cw _ [] (k+1) a)
   |(have e:F=10:=by rw[c,show B=false by grind,decide_eq_false (show¬N=1 by omega)];rfl
     rw[eD X]at a;refine dx ?_;omega)
 rw[al_ X,aV,bZ rfl,q_]at a;clear q_;repeat' first|refine cg dE (λf=>?_) λf=>?_|refine lg dE λm s=>?_|refine xG dE ?_
 all_goals first|omega|skip
 let⟨T3,Af⟩:=aq (bw (aV (Q6 W) g) 0);rw[<-Af]at a;refine bE 1 1 [] (λq=>[(3,.pt 0 6 0 0),(10,.v (.int .i64 q))]) [] (λ_=>[(0,.arr 6 [lY O ⟨n,C,G,g,b,v⟩] 0 true)]) b.length (λk=>E=bw (aV Gu (b.drop k)) T3) I λq2 k2 iw eX a=>?_;refine Z dE ?_;by_cases ko:k2<b.length
 ·let⟨x,i,z⟩:=aA ko;rw[z,aV,du]at a;have A:=ZA (Y:=Y) x.op;let⟨B,j⟩:=aq (nC x.op);let⟨F,c⟩:=aq (Gu x);rw[<-c]at a;rw[Gu,<-j]at c;rw[<-j]at A;clear j;let⟨N,xn,K⟩:=x;dsimp only at A c;repeat' first|refine og dE (D.bh iw i) ?_|refine bg dE (pl A) (λ_=>?_) λ_=>?_|refine cg dE (λf=>?_) λf=>?_|refine lg dE λm s=>?_|refine ag dE λ_ _=>?_|refine xG dE ?_|refine rG dE ?_|refine fq ?_
  all_goals first
   |omega
   |(have e:F=0:=by rw[c,show B=false by grind];rfl
     rw[bZ e]at a;exact cw _ [] (k2+1) a)
   |(have e:F=10:=by rw[c,show B=true by grind];rfl
     rw[eD X]at a;refine dx ?_;omega)
 rw[al_ X,aV,bZ rfl,Af]at a;clear Af;repeat' first|apply a8 dE l|refine cg dE (λf=>?_) λf=>?_|refine lg dE λm s=>?_|refine xG dE ?_
 all_goals first|omega|skip
 refine bE 1 1 [] (λq=>[(3,.pt 0 6 0 0),(11,aY O aR false W),(12,.v (.int .i64 q))]) [] (λ_=>[(0,.arr 6 [lY O ⟨n,C,G,g,b,v⟩] 0 true)]) g.length (λk=>E=bw (aV (Q6 W) (g.drop k)) 0) I λq3 k3 dU CQ a=>?_;refine Z dE ?_;by_cases sX:k3<g.length
 ·let⟨x,i,z⟩:=aA sX;have u:=ZH x (am_ i);have hV:=KI (Y:=Y) (O:=O) x u.1.len u.1.1 (wA u.1);have xw:=uC u.1;rw[z,aV,du,Q6]at a;let⟨P,m9⟩:=aq (varsOf x.a);rw[<-m9]at a hV xw;have yI:=iX (O:=O) x;let⟨N,xn,K⟩:=x;let⟨T4,U9⟩:=aq (bw (aV (Q6 W) (g.drop (k3+1))) 0);rw[<-U9]at a;repeat' first|refine og dE (D.bh dU i) ?_|apply a8 dE hV|refine cg dE (λf=>?_) λf=>?_|refine lg dE λm s=>?_|refine xG dE ?_|refine fq ?_
  all_goals first|omega|skip
  refine bE 1 1 [] (λt=>[(3,.pt 0 6 0 0),(11,aY O aR false W),(12,.v (.int .i64 q3)),(13,aY O aR false P),(14,.v (.int .i64 t))]) [] (λ_=>[(0,.arr 6 [lY O ⟨n,C,G,g,b,v⟩] 0 true)]) P.length (λk=>E=bw (aV (U8 W) (P.drop k)) T4) I λt k4 Fc U0 a=>?_;refine Z dE ?_;by_cases acE:k4<P.length
  ·let⟨y,hy,dR⟩:=aA acE;rw[dR,aV,du]at a;have hI:=aug (Y:=Y) (O:=O) W y o;let⟨B,j⟩:=aq (W.contains y);let⟨F,c⟩:=aq (U8 W y);rw[<-c]at a;rw[U8,<-j]at c;rw[<-j]at hI;clear j;repeat' first|refine og dE (D.bh Fc hy) ?_|refine bg dE (pl hI) (λ_=>?_) λ_=>?_|refine cg dE (λf=>?_) λf=>?_|refine lg dE λm s=>?_|refine ag dE λ_ _=>?_|refine xG dE ?_|refine rG dE ?_|refine fq ?_
   all_goals first
    |omega
    |(have e:F=0:=by rw[c,show B=true by grind];rfl
      rw[bZ e]at a;exact cw _ [] (k4+1) a)
    |(have e:F=17:=by rw[c,show B=false by grind];rfl
      rw[eD X]at a;refine dx ?_;omega)
  rw[al_ X,aV,bZ rfl,U9]at a;repeat' first|refine cg dE (λf=>?_) λf=>?_|refine lg dE λm s=>?_|refine ag dE λ_ _=>?_|refine xG dE ?_
  all_goals first|omega|exact cw _ [] (k3+1) a
 rw[al_ X,aV,bZ rfl]at a;repeat' first|refine cg dE (λf=>?_) λf=>?_|refine lg dE λm s=>?_|refine xG dE ?_|refine fq ?_
 all_goals first|omega|refine dx ?_;omega
end
def xd(p:Pg)(s:cH)(x:Gl):Bool:=de x&&jn (varsOf x.a) s.fresh s.binds&&(ij x.op||decide (x.op=0)&&jh p.ds x.n x.a.length)
def Bo(p:Pg)(s:cH)(x:Im):Bool:=decide (x.id<s.next)&&jn (varsOf x.a) s.fresh s.binds&&jh p.ds x.n x.a.length
def vD(s:cH)(x:Gl):Bool:=nC x.op&&de x&&jn (varsOf x.a) s.fresh s.binds
set_option maxHeartbeats 1000000 in theorem akm(p:Pg)(s:cH)(c:List Int)(y:∀v,c.contains v=kh s.binds v)(z:p.ds.length<=1099511627776)(x:Gl)(b:zO x):aF prog Y 61 [.pt 0 11 0 0,gl O x] (aw [(0,v_ O p s),(1,uI O (kg c))] 2) (.v (.bool (xd p s x))) (aw [(0,v_ O p s),(1,uI O (kg c))] 2):=by
 have A:=vB (O:=O) (N:=2) aC p s;have q1:=vC (O:=O) (N:=2) (kg c);have g:=Cq (Y:=Y) (O:=O) x ⟨b.1.len,b.1.1⟩ b.2;have h:=DO (Y:=Y) (O:=O) x b.1.len b.1.1 (wA b.1);have d:=Q3 (Y:=Y) (O:=O) p s c y (varsOf x.a) (uC b.1);have i:=U6 (Y:=Y) (O:=O) x;have e:=DL (Y:=Y) (O:=O) p.ds x.n x.a.length z;have K:=b.1.len;have j:=iX (O:=O) x;let⟨R,f⟩:=aq (xd p s x);rw[<-f];unfold xd at f;let⟨G,k⟩:=aq (de x);let⟨F,l⟩:=aq (jn (varsOf x.a) s.fresh s.binds);let⟨n,o⟩:=aq (ij x.op);let⟨r,t⟩:=aq (jh p.ds x.n x.a.length);let⟨u,w⟩:=aq (decide (x.op=0));rw[<-k,<-l,<-o,<-t,<-w]at f;rw[<-k]at g;rw[<-l]at d;rw[<-o]at i;rw[<-t]at e;let⟨P,B⟩:=aq (varsOf x.a);rw[<-B]at h d;let⟨q,C⟩:∃q:Int,q=x.a.length:=⟨_,rfl⟩;rw[<-C]at e;clear k l o t B y b;let⟨Q,S⟩:=p;let⟨goals,store,T,V,W,next,fresh,failed⟩:=s;let⟨xo,xn,xa⟩:=x;dsimp only at w C e K z;let⟨kv,E⟩:=aq (kg c);rw[<-E]at d q1⊢;clear E;unfold v_ uI ckR;refine sc 2 2 aul ?_;refine Z NQ ?_;repeat' first|refine bg NQ (D.bM rfl g ⟨j,trivial⟩) (λ_=>?_) λ_=>?_|refine og NQ (D.bM rfl h ⟨j,trivial⟩) ?_|refine bg NQ (D.H5 d rfl (CD rfl rfl rfl A q1) (λa J=>by simp only[ae_,aw_,or_false]at J;rcases J with rfl|rfl;exact .pt aC;exact Pure.bu (bJ _)) .v) (λ_=>?_) λ_=>?_|refine bg NQ (D.bM rfl i ⟨j,trivial⟩) (λ_=>?_) λ_=>?_|refine H.int rfl (D.len rfl) λm L=>?_;rw[az]at L;cases(X:m=q);refine Z NQ ?_|refine bg NQ (D.bM rfl e ⟨eN _,.v,.v,trivial⟩) (λ_=>?_) λ_=>?_|refine cg NQ (λM=>?_) λM=>?_|refine fq ?_
 all_goals clear g h d i e;subst f;cases G<;>cases F<;>cases n<;>cases r<;>cases u<;>first|exfalso;contradiction|exfalso;simp at w;omega|exact⟨[],.aK .v,⟨.inl ⟨_,rfl,.same A.1⟩,.inl ⟨_,rfl,.same q1.1⟩,trivial⟩,rfl⟩
set_option maxHeartbeats 1000000 in theorem akn(p:Pg)(s:cH)(b:List Int)(n:∀v,b.contains v=kh s.binds v)(o:p.ds.length<=1099511627776)(x:Im)(c:x.ok):aF prog Y 63 [.pt 0 11 0 0,it O x] (aw [(0,v_ O p s),(1,uI O (kg b))] 2) (.v (.bool (Bo p s x))) (aw [(0,v_ O p s),(1,uI O (kg b))] 2):=by
 have r:=vB (O:=O) (N:=2) aC p s;have q1:=vC (O:=O) (N:=2) (kg b);have d:=KH (Y:=Y) (O:=O) ⟨x.n,x.a⟩ c.1.len c.1.1 (wA c.1);have e:=Q3 (Y:=Y) (O:=O) p s b n (varsOf x.a) (uC c.1);have f:=DL (Y:=Y) (O:=O) p.ds x.n x.a.length o;have A:=c.1.len;have t:=uB (O:=O) ⟨x.n,x.a⟩;let⟨R,g⟩:=aq (Bo p s x);rw[<-g];unfold Bo at g;let⟨F,h⟩:=aq (jn (varsOf x.a) s.fresh s.binds);let⟨i,j⟩:=aq (jh p.ds x.n x.a.length);let⟨k,l⟩:=aq (decide (x.id<s.next));rw[<-h,<-j,<-l]at g;rw[<-h]at e;rw[<-j]at f;let⟨E,u⟩:=aq (varsOf x.a);dsimp only at d;rw[<-u]at d e;let⟨q,w⟩:∃q:Int,q=x.a.length:=⟨_,rfl⟩;rw[<-w]at f;clear h j u n c;let⟨G,J⟩:=p;let⟨goals,store,K,L,M,next,fresh,failed⟩:=s;let⟨P,Q,S⟩:=x;dsimp only at l w f A o d t;let⟨T,y⟩:=aq (kg b);rw[<-y]at e q1⊢;clear y;unfold v_ uI ckR;refine sc 2 2 aum ?_;refine Z U5 ?_;repeat' first|refine og U5 (D.bM rfl d ⟨t,trivial⟩) ?_|refine bg U5 (D.H5 e rfl (CD rfl rfl rfl r q1) (λa z=>by simp only[ae_,aw_,or_false]at z;rcases z with rfl|rfl;exact .pt aC;exact Pure.bu (bJ _)) .v) (λ_=>?_) λ_=>?_|refine H.int rfl (D.len rfl) λm B=>?_;rw[az]at B;cases(X:m=q);refine Z U5 ?_|refine bg U5 (D.bM rfl f ⟨eN _,.v,.v,trivial⟩) (λ_=>?_) λ_=>?_|refine cg U5 (λC=>?_) λC=>?_|refine fq ?_
 all_goals clear d e f;subst g;cases F<;>cases i<;>cases k<;>first|exfalso;contradiction|exfalso;simp at l;omega|exact⟨[],.aK .v,⟨.inl ⟨_,rfl,.same r.1⟩,.inl ⟨_,rfl,.same q1.1⟩,trivial⟩,rfl⟩
set_option maxHeartbeats 1000000 in theorem ahq(p:Pg)(s:cH)(c:List Int)(r:∀v,c.contains v=kh s.binds v)(x:Gl)(b:zO x):aF prog Y 64 [.pt 0 11 0 0,gl O x] (aw [(0,v_ O p s),(1,uI O (kg c))] 2) (.v (.bool (vD s x))) (aw [(0,v_ O p s),(1,uI O (kg c))] 2):=by
 have f:=vB (O:=O) (N:=2) aC p s;have q1:=vC (O:=O) (N:=2) (kg c);have g:=Cq (Y:=Y) (O:=O) x ⟨b.1.len,b.1.1⟩ b.2;have h:=DO (Y:=Y) (O:=O) x b.1.len b.1.1 (wA b.1);have d:=Q3 (Y:=Y) (O:=O) p s c r (varsOf x.a) (uC b.1);have t:=iX (O:=O) x;let⟨R,e⟩:=aq (vD s x);rw[<-e];unfold vD nC at e;let⟨G,i⟩:=aq (de x);let⟨F,j⟩:=aq (jn (varsOf x.a) s.fresh s.binds);let⟨k,l⟩:=aq (decide (5<=x.op));let⟨m,n⟩:=aq (decide (x.op<=12));rw[<-i,<-j,<-l,<-n]at e;rw[<-i]at g;rw[<-j]at d;let⟨z,u⟩:=aq (varsOf x.a);rw[<-u]at h d;clear i j u r b;let⟨A,o⟩:=aq (v_ O p s);let⟨B,q⟩:=aq (uI O (kg c));rw[<-o,<-q]at d⊢;rw[<-o]at f;rw[<-q]at q1;clear o q;let⟨C,E,J⟩:=x;dsimp only at n l;refine sc 2 2 aun ?_;refine Z ZB ?_;repeat' first|refine bg ZB (D.bM rfl g ⟨t,trivial⟩) (λ_=>?_) λ_=>?_|refine og ZB (D.bM rfl h ⟨t,trivial⟩) ?_|refine bg ZB (D.H5 d rfl (CD rfl rfl rfl f q1) (λa w=>by simp only[ae_,aw_,or_false]at w;rcases w with rfl|rfl;exact .pt aC;exact Pure.bu (bJ _)) .v) (λ_=>?_) λ_=>?_|refine cg ZB (λy=>?_) λy=>?_|refine fq ?_
 all_goals clear g h d;subst e;cases G<;>cases F<;>cases k<;>cases m<;>first|exfalso;contradiction|exfalso;simp at n l;omega|exact⟨[],.aK .v,⟨.inl ⟨_,rfl,.same f.1⟩,.inl ⟨_,rfl,.same q1.1⟩,trivial⟩,rfl⟩
section
attribute [local irreducible] ao aF D H
def aup:=aD func30 call30
def sS:List Nat:=[3,7,71,2,4,0,1,6,16,46,62,70,72,69,9]
theorem K_{T:Type}{ok:T->Bool}{lt:T->T->Bool}:∀{l:List T}{pr:Option T},lu ok lt pr l=true->∀x∈l,ok x=true|[],_,_,x,a=>I|y::l,pr,h,x,a=>by rw[j6,as_,as_]at h;rcases ae_.1 a with rfl|a;grind;exact K_ h.2 x a
theorem GC{l:List Fi}(h:lz l=true):∀x∈l,0<=x.tV:=by intro x a;unfold lz at h;rw[as_]at h;have:=K_ h.2 x a;by_cases c:0<=x.tV;grind;let⟨r,b⟩:=x;rw[JL (.inl I)]at this;cases this
theorem ZI{s:List Int}{i:Int}(h:s.contains i=true):g9 (kg s) i true=kg s:=by induction s with|nil=>cases h|cons x s a =>by_cases e:x=i;grind[kg,g9];grind[kg,g9]
def Q_(s:List Int)(i:Int):List Int:=if s.contains i=true then s else s++[i]
theorem acF(s:List Int)(i:Int):g9 (kg s) i true=kg (Q_ s i):=by grind[Q_,ZI,P1]
theorem acG(s:List Int)(i v:Int):(Q_ s i).contains v=(s.contains v||i==v):=by grind[Q_]
def ZJ(O:Hd)(p:Pg)(s:cH):Ob:=.arr 11 [[h_ O p.ds,UT O p.rs,dJ O s.goals,lj O s.store,bf O s.binds,kJ O s.a7,dJ O s.known,iv s.next,iv s.fresh,.v (.bool s.failed),.mp 2]] 0 true
def GD(s:cH):Bool:=decide (s.goals.length<=1000)&&decide (s.known.length<=500)&&decide (1<=s.next)&&decide (s.next<=2147483648)&&decide (0<=s.fresh)&&decide (s.fresh<=1048576)
def eh(p:Pg)(s:cH):Bool:=decide ((tv p).2=0)&&(GD s&&(nV s.store&&(nh s.binds&&(lz s.a7&&(s.goals.all (xd p s)&&(s.store.all (Bo p s)&&(s.known.all (vD s)&&(s.a7.all (A9 p s)&&s.binds.all (D0 s)))))))))
structure GF(s:cH):Prop where
 gl:s.goals.length<=1099511627776st:s.store.length<=1099511627776bl:s.binds.length<=1099511627776fl:s.a7.length<=1099511627776kl:s.known.length<=1099511627776gx:∀x∈s.goals,zO x
 sx:∀x∈s.store,x.ok
 bx:∀x∈s.binds,x.ok
 fx:∀x∈s.a7,x.ok
 kx:∀x∈s.known,zO x
theorem Ra(kv:List (Int×Bool)):∀e∈O.h (dX fB) kv,Pure e.2:=by rw[O.eq];intro e a;obtain⟨p,_,rfl⟩:=aB_.1 a;exact .v
theorem D.evS{f:QO}{c:List QO}{g h:FuncId}{L:AV}{b:Bool}{p:Pg}{s:cH}{kv:List (Int×Bool)}(d:aF prog Y g [L,.fn (.func h) [.pt 0 11 0 0] []] (aw [(0,v_ O p s),(1,uI O kv)] 2) (.v (.bool b)) (aw [(0,v_ O p s),(1,uI O kv)] 2))(e:Pure L)(a:fp (f.ev U.tm) (c.map (·.ev U.tm))=some (g,[L,.fn (.func h) [.pt 3 11 0 0] []]))(h3:T.get 3=some (ZJ O p s))(h2:T.get 2=some (uI O kv))(i:Nat.ble 4 T.nx=true)(j:∀k o,T.get k=some o->k<T.nx):D prog Y false (.call f c) U T (.v (.bool b)) ⟨eH T.get [(3,some (ZJ O p s)),(2,some (uI O kv))],T.nx+2⟩:=by have l:=ax_ i;refine D.n0 (m:=[(0,3),(1,2)]) d a ⟨Rn.pure e,Rn.fn ⟨Rn.pt rfl rfl,trivial⟩ trivial,trivial⟩ (Rb.pure .v) rfl ?_ ⟨⟨_,h3,?_⟩,⟨_,h2,?_⟩,trivial⟩ ⟨⟨0,_,rfl,rfl,?_⟩,⟨1,_,rfl,rfl,?_⟩,trivial⟩ rfl j (.inr rfl);have h3:Nat.blt 3 T.nx=true:=bZ_ X;have h2:Nat.blt 2 T.nx=true:=bZ_ X;show(Nat.blt 3 T.nx&&(Nat.blt 2 T.nx&&true))=true;rw[h3,h2];rfl;exact lU.row ⟨Rn.pure (eN _),Rn.pure (qd _),Rn.pure (a6 _),Rn.pure (dH _),Rn.pure (bC _),Rn.pure (eu _),Rn.pure (a6 _),Rn.pure .v,Rn.pure .v,Rn.pure .v,Rn.mp rfl rfl,trivial⟩;exact lU.mp (Ra kv);exact m7.row ⟨Rb.pure (eN _),Rb.pure (qd _),Rb.pure (a6 _),Rb.pure (dH _),Rb.pure (bC _),Rb.pure (eu _),Rb.pure (a6 _),Rb.pure .v,Rb.pure .v,Rb.pure .v,Rb.mp rfl,trivial⟩;exact m7.mp (Ra kv)
end
end Go.Proofs.YtbdcmpknicjopaaGreat
