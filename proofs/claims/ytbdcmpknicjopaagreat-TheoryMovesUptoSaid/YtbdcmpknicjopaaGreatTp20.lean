import Derived.Laws.CopyRow
import Derived.Test.YtbdcmpknicjopaaGreatTp17
import Derived.Test.YtbdcmpknicjopaaGreatTp19
namespace Go.Proofs.YtbdcmpknicjopaaGreat
set_option linter.all false
set_option maxRecDepth 100000
open Go.RowKit Proofs.Tryz
variable{FJ:List (List AV)}{LQ n sz:Nat}{O:Hd}{P:Program}{S S':ah}{U:AA}{Y:World}{ex:Bool}{o:Oper}{r:AV}
variable{rows:List (List AV)}
section
attribute [local irreducible] ao aF D H
def grT(O:Hd)(LR:List Tm):Ob:=.arr 4 (O.h (List.map lX) LR) 0 false
def gj(l:List At):List Tm:=l.flatMap (·.a)
def nG(l:List Gl):List Tm:=l.flatMap (·.a)
theorem Jd(x:Tm):(lX x).all db=true:=by rw[qK (O:=.plain)];rfl
def ago{B fz:Nat}{s:List Tm}:kp B (.arr sz (O.h (List.map lX) s) fz ex):=ko λx _ a b=>zL x a b
theorem VT(r:Rl)(h:r.aQ.length+r.rem.length<=549755813888)(z:(gj (r.aQ++r.rem)).length<=549755813888)(d:dR (gj (r.aQ++r.rem)))(o:(aX (gj (r.aQ++r.rem))).length<=1099511627776):ab Y 247 [rl O r] (aY O aV false (varsOf (gj (r.aQ++r.rem)))):=by
 have q:=Hw (Y:=Y) (O:=O) r h;have e:=Dn (Y:=Y) (O:=O) (gj (r.aQ++r.rem)) Z d o;have N:=lh (O:=O) r;have B:(r.aQ++r.rem).length<=549755813888:=X;let⟨A,j⟩:=aq (gj (r.aQ++r.rem));rw[<-j]at e z⊢;clear d o;let⟨L,s⟩:=aq (r.aQ++r.rem);rw[<-s]at j q B;clear s h;let⟨V,u⟩:=aq (varsOf A);rw[<-u]at e⊢;clear u;let⟨n,P,Q,g,b,v⟩:=r;refine st an6 wc (bZ _) ?_;repeat' first|apply bk wc q
 refine cC (τ:=List Tm×Nat) 1 2 [] (λp=>[(3,.gr 1 4 p.2.2),(4,fI O L),(5,.v (.int .i64 p.1))]) [] (λp=>[(1,grT O p.2.1)]) L.length (λk p=>A=p.2.1++gj (L.drop k)/\p.2.2=p.2.1.length) ([],0) ⟨X,rfl⟩ ?_;rintro i k⟨C,len⟩w d⟨a,l⟩;simp only at w a l;clear j;refine I wc ?_;by_cases E:k<L.length
 ·let⟨x,F,G⟩:=aA E;rw[G,gj,aW_,<-gj]at a;have J:C.length+x.a.length<=549755813888:=X;let⟨S,T⟩:=x;dsimp only at a J;repeat' first|refine og wc (D.bh w F) ?_|refine H.xI (f:=lX) rfl rfl rfl l (λ_=>rfl) rfl yV Jd Z λK M W mJ=>?_;refine I wc ?_|refine cg wc (λc=>?_) λc=>?_|refine lg wc λm y=>?_|refine ag wc λ_ _=>?_|refine xG wc ?_
  all_goals first|omega|refine H.bK (_,K,M) [(1,2)] ?_ ?_ cz;grind;simp only;omega
 rw[aq_ Z,gj,bu_,aI_]at a;subst a;refine H.int rfl (D.len rfl) λm y=>?_;rw[az]at y;refine I wc ?_;refine H.bif rfl (D.bit rfl) (λc=>?_) λc=>?_<;>(try simp only[decide_eq_true_eq,decide_eq_false_iff_not]at c);grind;refine I wc ?_;refine xG wc ?_;refine H.B6 (Cv.freeze (t:=21) rfl rfl (.inl rfl) (l.trans (az (O:=O) (f:=lX)).symm) (aF_ _)) ?_;apply bk wc e;refine fq ?_;exact aI.of_eq rfl
def aov:=aC func244 call244
def tN:List Nat:=[8,0,1,6,12,21,2,25,7]
def aow:=aC func245 call245
def wg:List Nat:=[5,1,6,4,10,18,0,33]
def aox:=aC func246 call246
def ajo:List Nat:=[0,2]
def aoy:=aC func248 call248
def zM:List Nat:=[5,0,4,9,1,17]
theorem VU(r:Rl)(h:r.aQ.length+r.rem.length<=549755813888)(F:r.guard.length+r.body.length<=549755813888)(s:(gj (r.aQ++r.rem)++nG (r.guard++r.body)).length<=549755813888)(l:dR (gj (r.aQ++r.rem)++nG (r.guard++r.body)))(G:(aX (gj (r.aQ++r.rem)++nG (r.guard++r.body))).length<=1099511627776):ab Y 181 [rl O r] (aY O aV false (varsOf (gj (r.aQ++r.rem)++nG (r.guard++r.body)))):=by
 have J:=Hw (Y:=Y) (O:=O) r h;have K:=LH (Y:=Y) (O:=O) r F;have a:=Dn (Y:=Y) (O:=O) (gj (r.aQ++r.rem)++nG (r.guard++r.body)) Z l G;have zE:=lh (O:=O) r;have ql:(r.aQ++r.rem).length<=549755813888:=X;have FU:(r.guard++r.body).length<=549755813888:=X;clear l G h F;let⟨L,N⟩:=aq (r.aQ++r.rem);let⟨M,P⟩:=aq (r.guard++r.body);rw[<-N]at J ql a s⊢;rw[<-P]at K FU a s⊢;clear N P;let⟨A,Q⟩:=aq (gj L++nG M);rw[<-Q]at a s⊢;let⟨V,R⟩:=aq (varsOf A);rw[<-R]at a⊢;clear R;let⟨n,ke,re,g,b,v⟩:=r;refine st an7 mL (bZ _) ?_;repeat' first|apply bk mL J
 refine cC (τ:=List Tm×Nat) 1 2 [] (λp=>[(1,.pt 0 6 0 0),(3,.gr 1 4 p.2.2),(4,fI O L),(5,.v (.int .i64 p.1))]) [] (λp=>[(0,.arr 6 [lY O ⟨n,ke,re,g,b,v⟩] 0 true),(1,grT O p.2.1)]) L.length (λk p=>A=p.2.1++(gj (L.drop k)++nG M)/\p.2.2=p.2.1.length) ([],0) ⟨X,rfl⟩ ?_;rintro i k⟨S,len⟩u l⟨c,o⟩;simp only at u c o;clear Q;refine I mL ?_;by_cases au:k<L.length
 ·let⟨x,w,y⟩:=aA au;rw[y,gj,aW_,<-gj]at c;have z:S.length+x.a.length<=549755813888:=X;let⟨xn,xa⟩:=x;dsimp only at c z;repeat' first|refine og mL (D.bh u w) ?_|refine H.xI (f:=lX) rfl rfl rfl o (λ_=>rfl) rfl yV Jd Z λB C Km mJ=>?_;refine I mL ?_|refine cg mL (λd=>?_) λd=>?_|refine lg mL λm T=>?_|refine ag mL λ_ _=>?_|refine xG mL ?_
  all_goals first|omega|refine H.bK (_,B,C) [(1,2)] ?_ ?_ cz;grind;simp only;omega
 rw[aq_ Z,gj,bu_,aO_]at c;repeat' first|apply bk mL K|refine cg mL (λd=>?_) λd=>?_|refine lg mL λm T=>?_|refine xG mL ?_
 all_goals first|omega|skip
 refine H.g5 (σ:=Int×List Tm×Nat) 2 3 [(2,1)] (λp=>[(3,.gr 2 4 p.2.2),(6,er O M),(7,.v (.int .i64 p.1))]) [] (λp=>[(2,grT O p.2.1)]) (λp=>∃k:Nat,p.1=k/\k<=M.length/\A=p.2.1++nG (M.drop k)/\p.2.2=p.2.1.length) (λp=>M.length-p.1.toNat) (0,S,len) ⟨0,rfl,aB,X,o⟩ rfl cz ?_;clear c o u l;rintro⟨j,dH,ff⟩ ⟨q,W,hq,e,E⟩;simp only at W e E;refine I mL ?_;by_cases j9:q<M.length
 ·let⟨x,w,y⟩:=aA j9;rw[y,nG,aW_,<-nG]at e;have z:dH.length+x.a.length<=549755813888:=X;let⟨xo,xn,xa⟩:=x;dsimp only at e z;repeat' first|refine og mL (D.bh W w) ?_|refine H.xI (f:=lX) rfl rfl rfl E (λ_=>rfl) rfl yV Jd Z λB C Km mJ=>?_;refine I mL ?_|refine cg mL (λd=>?_) λd=>?_|refine lg mL λm T=>?_|refine ag mL λ_ _=>?_|refine xG mL ?_
  all_goals first|omega|refine H.bK (_,B,C) [(2,3)] ?_ ?_ cz;grind;simp only;omega
 rw[aq_ Z,nG,bu_,aI_]at e;subst e;refine H.int rfl (D.len rfl) λm2 iL=>?_;rw[az]at iL;refine I mL ?_;refine H.bif rfl (D.bit rfl) (λbY=>?_) λbY=>?_<;>(try simp only[decide_eq_true_eq,decide_eq_false_iff_not]at bY);grind;refine I mL ?_;refine xG mL ?_;refine H.B6 (Cv.freeze (t:=38) rfl rfl (.inl rfl) (E.trans (az (O:=O) (f:=lX)).symm) (aF_ _)) ?_;apply bk mL a;refine fq ?_;exact aI.of_eq rfl
theorem Yy(o:Int):ab Y 246 [iv o] (.v (.bool (nr o))):=by
 refine st aox ajo .v ?_;repeat' first|refine cg ajo (λa=>?_) λa=>?_|refine fq ?_
 all_goals subst_vars;refine aK ?_;rw[nr,bH_];simp;omega
theorem asU(l:List Int)(v:Int)(j:l.length<=1099511627776):ab Y 248 [aY O aV false l,iv v] (.v (.bool (l.contains v))):=by
 let⟨R,b⟩:=aq (l.contains v);rw[<-b];rw[<-Ff]at b;refine st aoy zM .v ?_;refine bD 0 0 [] (λi=>[(0,aY O aV false l),(1,.v (.int .i64 v)),(5,.v (.int .i64 i))]) [] (λ_=>[]) l.length (λk=>R=(l.drop k).any λx=>v==x) X λi k d n a=>?_;clear b;refine I zM ?_;by_cases e:k<l.length
 ·let⟨x,f,g⟩:=aA e;rw[g,bI_]at a;repeat' first|refine og zM (D.bh d f) ?_|refine cg zM (λc=>?_) λc=>?_|refine lg zM λm h=>?_|refine ag zM λ_ _=>?_|refine xG zM ?_|refine rG zM ?_|refine fq ?_
  all_goals first|omega|rw[a,show(v==x)=true from beq_iff_eq.2 Z];exact aK rfl|rw[show(v==x)=false from beq_eq_false_iff_ne.2 Z,Bool.false_or]at a;exact cB _ [] (k+1) a
 ·skip;repeat' first|refine cg zM (λc=>?_) λc=>?_|refine lg zM λm h=>?_|refine xG zM ?_|refine fq ?_
  all_goals first|omega|rw[a,aq_ Z];exact aK rfl
def aoz:=aC func196 call196
def abu:List Nat:=[0,1,3]
def aoA:=aC func126 call126
def ajp:List Nat:=[4,0,1,2]
def asV:=aC func71 call71
def g71:List Nat:=[1,2,0]
def asW:=aC func61 call61
def MY:List Nat:=[3,0,4,1]
def asX:=aC func63 call63
def T8:List Nat:=[3,0,4,1]
def asY:=aC func64 call64
def Yz:List Nat:=[3,4,1,0]
def ckR(O:Hd)(p:Pg)(s:c_):List AV:=[g7 O p.ds,Ty O p.rs,er O s.goals,kS O s.store,a8 O s.binds,ky O s.bf,er O s.known,iv s.next,iv s.fresh,.v (.bool s.failed),.mp 1]
def vN(O:Hd)(p:Pg)(s:c_):Ob:=.arr 11 [ckR O p s] 0 true
def uq(O:Hd)(kv:List (Int×Bool)):Ob:=.mp (O.h (dT fB) kv)
def ptO:Ob:=.arr 1 [[.pt 0 11 0 0]] 0 true
def g8(o:Int):Bool:=decide (1<=o)&&decide (o<=4)
theorem vd{N:Nat}(h:2<=N)(p:Pg)(s:c_):vM N (vN O p s):=by refine⟨λrow c a b=>?_,λJ h=>by cases h⟩;cases ar_.1 c;simp only[ckR,al_,ax_,or_false]at b;rcases b with rfl|rfl|rfl|rfl|rfl|rfl|rfl|rfl|rfl|rfl|rfl;exact(eL _).bu;exact(pP _).bu;exact(a7 _).bu;exact(dQ _).bu;exact(bI _).bu;exact(eN _).bu;exact(a7 _).bu;exact .v;exact .v;exact .v;exact .mp Z
theorem ve{N:Nat}(s:List (Int×Bool)):vM N (uq O s):=⟨Ht,λJ h=>by cases h⟩
theorem YA:vM 3 ptO:=⟨λrow b a c=>by cases ar_.1 b;cases ar_.1 c;exact .pt aD,λJ h=>by cases h⟩
theorem agp(p:Pg)(s:c_)(a:List Int)(v:Int):aF prog Y 196 [iv v,.pt 2 1 0 0] (aw [(0,vN O p s),(1,uq O (j7 a)),(2,ptO)] 3) (.v (.bool (decide (s.fresh<=v)||a.contains v))) (aw [(0,vN O p s),(1,uq O (j7 a)),(2,ptO)] 3):=by
 have k0:=vd (O:=O) (N:=3) aD p s;have c:=ve (O:=O) (N:=3) (j7 a);have d:=YA;let⟨R,f⟩:=aq (decide (s.fresh<=v)||a.contains v);rw[<-f];let⟨j,k⟩:=p;let⟨goals,store,l,m,n,next,fresh,failed⟩:=s;dsimp only at f;have b:=Fg a v;unfold uq vN at*;let⟨o,h⟩:=aq (j7 a);rw[<-h]at b c⊢;refine sc 3 3 aoz ?_;refine I abu ?_;repeat' first|refine H.look rfl rfl rfl rfl (λx e=>?_) λe=>?_<;>refine I abu ?_|refine cg abu (λi=>?_) λi=>?_|refine fq ?_
 all_goals first|rw[show R=true by grind];exact⟨[],.aJ .v,⟨.inl ⟨_,rfl,.same k0.1⟩,.inl ⟨_,rfl,.same c.1⟩,.inl ⟨_,rfl,.same d.1⟩,trivial⟩,rfl⟩|skip
 rw[e]at b;have g:a.contains v=true:=X;rw[if_pos g]at b;cases oJ_ b;rw[show R=true by grind];exact⟨[],.aJ .v,⟨.inl ⟨_,rfl,.same k0.1⟩,.inl ⟨_,rfl,.same c.1⟩,.inl ⟨_,rfl,.same d.1⟩,trivial⟩,rfl⟩;rw[e]at b;have g:a.contains v=false:=X;rw[show R=false by grind];exact⟨[],.aJ .v,⟨.inl ⟨_,rfl,.same k0.1⟩,.inl ⟨_,rfl,.same c.1⟩,.inl ⟨_,rfl,.same d.1⟩,trivial⟩,rfl⟩
theorem agq(vs:List Int)(fresh:Int)(b:List Bd)(a:List Int)(c:∀v,a.contains v=j8 b v):je vs fresh b=!vs.any λv=>decide (fresh<=v)||a.contains v:=by grind[je]
theorem P7(p:Pg)(s:c_)(b:List Int)(h:∀v,b.contains v=j8 s.binds v)(vs:List Int)(l:vs.length<=1099511627776):aF prog Y 126 [.pt 0 11 0 0,aY O aV false vs] (aw [(0,vN O p s),(1,uq O (j7 b))] 2) (.v (.bool (je vs s.fresh s.binds))) (aw [(0,vN O p s),(1,uq O (j7 b))] 2):=by
 have k0:=vd (O:=O) (N:=3) aD p s;have d:=ve (O:=O) (N:=3) (j7 b);have i:=YA;have j:=vd (O:=O) (N:=2) aD p s;have q1:=ve (O:=O) (N:=2) (j7 b);have m:eC 3 (.fn (.func 196) [] [.pt 2 1 0 0]):=.fn (λa c=>by cases c) λa c=>by cases ar_.1 c;exact .pt aD
 have e:=asK (Y:=Y) (O:=O) k0 d i (λv=>decide (s.fresh<=v)||b.contains v) vs _ _ _ l m λx _=>⟨_,_,rfl,λa c=>by simp only[al_,aO_,aI_,aP_,ax_,or_false]at c;rcases c with rfl|rfl;exact .v;exact .pt aD,agp p s b x⟩;rw[agq vs s.fresh s.binds b h];let⟨B,k⟩:=aq (vs.any λv=>decide (s.fresh<=v)||b.contains v);rw[<-k]at e⊢;clear k h;let⟨n,f⟩:=aq (vN O p s);let⟨o,g⟩:=aq (uq O (j7 b));rw[<-f,<-g]at e⊢;rw[<-f]at k0 j;rw[<-g]at d q1;clear f g;refine sc 2 2 aoA ?_;refine I ajp ?_;repeat' first|refine bg ajp (D.Hu e rfl (LM rfl rfl rfl rfl k0 d i) λa c=>by grind[Pure.bu,bZ] .v) (λ_=>?_) λ_=>?_|refine fq ?_
 all_goals rw[show B=_ by assumption];exact⟨[],.aJ .v,⟨.inl ⟨_,rfl,.same j.1⟩,.inl ⟨_,rfl,.same q1.1⟩,trivial⟩,rfl⟩
theorem T9(x:Gl):ab Y 71 [gl O x] (.v (.bool (g8 x.op))):=by
 let⟨o,n,a⟩:=x;refine st asV g71 .v ?_;repeat' first|refine cg g71 (λb=>?_) λb=>?_|refine fq ?_
 all_goals subst_vars;refine aK ?_;rw[g8,bH_];simp;omega
end
section
def h_:List Nat:=[3,0,2,6,10,35]
attribute [local irreducible] ao aF D H
def P9(p x:Fi):Bool:=decide (oY p x<0)
theorem Ko(l:List Fi):k_ l=(decide ((l.length:Int)<=5000)&&kW tH P9 none l):=rfl
theorem YB(l:List Fi)(A:l.length<=1099511627776)(e:∀x∈l,x.ok):ab Y 59 [ky O l] (.v (.bool (k_ l))):=by
 let⟨R,c⟩:=aq (k_ l);rw[<-c];rw[Ko]at c;refine st asF uj .v ?_;repeat' first|refine cg uj (λb=>?_) λb=>?_|refine lg uj λm B=>?_|refine fq ?_
 grind[aK];rw[decide_eq_true Z,az_]at c;refine H.g5 (σ:=Int) 0 0 [] (λi=>[(0,ky O l),(8,.v (.int .i64 m)),(9,.v (.int .i64 i))]) [] (λ_=>[]) (λi=>∃(k:Nat) (f:Option Fi),i=k/\k<=l.length/\R=kW tH P9 f (l.drop k)/\B5 l k f) (λi=>l.length-i.toNat) 0 ⟨0,none,rfl,aB,X,.inl ⟨rfl,rfl⟩⟩ rfl cq ?_;rintro i⟨k,f,j,E,a,t⟩;clear c;refine I uj ?_;by_cases u:k<l.length
 ·let⟨x,d,v⟩:=aA u;rw[v,jT]at a;have g:=abf (Y:=Y) (O:=O) x (e x (aZ d));let⟨V,w⟩:=aq (tH x);rw[<-w]at g a;let⟨n,o⟩:=x;rcases t with⟨rfl,rfl⟩|⟨⟨p,q⟩,y,r,rfl⟩
  ·simp only[Ay,bG_]at a;repeat' first|refine og uj (D.bh j d) ?_|refine bg uj (pl g) (λ_=>?_) λ_=>?_|refine cg uj (λb=>?_) λb=>?_|refine ag uj λ_ _=>?_|refine xG uj ?_|refine rG uj ?_|refine fq ?_
   all_goals first|omega|refine aK ?_;rw[a,show V=false by grind];rfl|refine H.bK (σ:=Int) _ [] ?_ ?_ cq;grind[jU];omega
  ·have s:=Yc (Y:=Y) (O:=O) ⟨p,q⟩ ⟨n,o⟩ (e _ (aZ r)) (e _ (aZ d));simp only[Ay,P9]at a;let⟨C,z⟩:=aq (oY ⟨p,q⟩ ⟨n,o⟩);rw[<-z]at s a;repeat' first|refine og uj (D.bh j d) ?_|refine og uj (D.ind rfl rfl (fm (l:=l) (k:=k-1) Z r) (ec λ_=>rfl)) ?_|refine bg uj (pl g) (λ_=>?_) λ_=>?_|refine ig uj (pl s) λ_ _=>?_|refine cg uj (λb=>?_) λb=>?_|refine ag uj λ_ _=>?_|refine xG uj ?_|refine rG uj ?_|refine fq ?_
   all_goals first|omega|refine aK ?_;rw[a,show V=false by grind];rfl|refine aK ?_;rw[a,decide_eq_false (show¬C<0 by omega)];simp;done|refine H.bK (σ:=Int) _ [] ?_ ?_ cq;grind[jU];omega
 ·skip;repeat' first|refine cg uj (λb=>?_) λb=>?_|refine xG uj ?_|refine fq ?_
  all_goals first|omega|rw[a,aq_ Z,rN];exact aK rfl
theorem YC(l:List Fi)(B:l.length<=1099511627776)(g:∀x∈l,x.ok):ab Y 112 [ky O l] (.v (.bool (k_ l))):=by
 let⟨R,d⟩:=aq (k_ l);rw[<-d];rw[Ko]at d;refine st aog h_ .v ?_;repeat' first|exact dy a|refine cg h_ (λa=>?_) λa=>?_|refine lg h_ λm h=>?_|refine ag h_ λ_ _=>?_|refine im λ_ _=>?_;refine I h_ ?_|refine H.str rfl (D.cat rfl rfl X) λ_ _=>?_;refine I h_ ?_|refine xG h_ ?_|refine rG h_ ?_|refine fq ?_
 refine aK ?_;rw[d,decide_eq_false Z];rfl;rw[decide_eq_true Z,az_]at d;refine H.g5 (σ:=Int) 0 0 [] (λi=>[(0,ky O l),(3,.v (.int .i64 i))]) [] (λ_=>[]) (λi=>∃(k:Nat) (j:Option Fi),i=k/\k<=l.length/\R=kW tH P9 j (l.drop k)/\B5 l k j) (λi=>l.length-i.toNat) 0 ⟨0,none,rfl,aB,X,.inl ⟨rfl,rfl⟩⟩ rfl cq ?_;rintro i⟨k,j,p,E,b,u⟩;clear d;refine I h_ ?_;by_cases v:k<l.length
 ·let⟨x,c,w⟩:=aA v;rw[w,jT]at b;have n:=agf (Y:=Y) (O:=O) x (g x (aZ c));let⟨V,y⟩:=aq (tH x);rw[<-y]at n b;let⟨e,f⟩:=x;rcases u with⟨rfl,rfl⟩|⟨⟨q,r⟩,z,s,rfl⟩
  ·simp only[Ay,bG_]at b;repeat' first|refine og h_ (D.bh p c) ?_|refine bg h_ (pl n) (λ_=>?_) λ_=>?_|exact dy a|refine cg h_ (λa=>?_) λa=>?_|refine lg h_ λm h=>?_|refine ag h_ λ_ _=>?_|refine im λ_ _=>?_;refine I h_ ?_|refine H.str rfl (D.cat rfl rfl X) λ_ _=>?_;refine I h_ ?_|refine xG h_ ?_|refine rG h_ ?_|refine fq ?_
   all_goals first|omega|refine aK ?_;rw[b,show V=false by grind];rfl|refine H.bK (σ:=Int) _ [] ?_ ?_ cq;refine⟨0+1,some ⟨e,f⟩,Z,Z,?_,jU c⟩;rw[b,show V=true by grind];rfl;omega
  ·have t:=Ye (Y:=Y) (O:=O) ⟨q,r⟩ ⟨e,f⟩ (g _ (aZ s)) (g _ (aZ c));simp only[Ay,P9]at b;let⟨C,A⟩:=aq (oY ⟨q,r⟩ ⟨e,f⟩);rw[<-A]at t b;repeat' first|refine og h_ (D.bh p c) ?_|refine og h_ (D.ind rfl rfl (fm (l:=l) (k:=k-1) Z s) (ec λ_=>rfl)) ?_|refine bg h_ (pl n) (λ_=>?_) λ_=>?_|refine ig h_ (pl t) λ_ _=>?_|exact dy a|refine cg h_ (λa=>?_) λa=>?_|refine lg h_ λm h=>?_|refine ag h_ λ_ _=>?_|refine im λ_ _=>?_;refine I h_ ?_|refine H.str rfl (D.cat rfl rfl X) λ_ _=>?_;refine I h_ ?_|refine xG h_ ?_|refine rG h_ ?_|refine fq ?_
   all_goals first|omega|refine aK ?_;rw[b,show V=false by grind];rfl|refine aK ?_;rw[b,decide_eq_false (show¬C<0 by omega)];simp;done|refine H.bK (σ:=Int) _ [] ?_ ?_ cq;refine⟨k+1,some ⟨e,f⟩,Z,Z,?_,jU c⟩;rw[b,show V=true by grind,decide_eq_true (show C<0 by omega)];rfl;omega
 ·skip;repeat' first|exact dy a|refine cg h_ (λa=>?_) λa=>?_|refine lg h_ λm h=>?_|refine ag h_ λ_ _=>?_|refine im λ_ _=>?_;refine I h_ ?_|refine H.str rfl (D.cat rfl rfl X) λ_ _=>?_;refine I h_ ?_|refine xG h_ ?_|refine rG h_ ?_|refine fq ?_
  all_goals first|omega|rw[b,aq_ Z,rN];exact aK rfl
end
theorem St.LV{A:Nat->Prop}{g:Gh}{w:World}{k fz p:Nat}{cs:Array Value}{ty:TypeId}{JF:List Value}(t:St Y A g S w)(u:S.get k=some (.arr sz rows fz ex))(v:g.al k)(V:w.heap[g.ob k]?=some (.cells cs ty (0,0)))(E:∀r∈FJ,r.length=sz)(F:JF.length=FJ.length*sz)(G:∀(i:Nat) (row:List AV) (j:Nat) (a:AV),FJ[i]?=some row->row[j]?=some a->∃x,JF[i*sz+j]?=some x/\aO g w a x)(K:p+FJ.length<=rows.length)(L:fz<=p):Ext A g w g (w.setRow (g.ob k) (cs.toList.take (p*sz)++JF++cs.toList.drop (p*sz+JF.length)).toArray)/\St Y A g (S.set k (some (.arr sz (rows.take p++FJ++rows.drop (p+FJ.length)) fz ex))) (w.setRow (g.ob k) (cs.toList.take (p*sz)++JF++cs.toList.drop (p*sz+JF.length)).toArray):=by
 let⟨W,k3,d,o,y,M,h3,h4,m,h6,z⟩:=t.cX k _ u v;obtain⟨rfl,rfl⟩:d=cs/\o=ty:=X;have hm:p*sz+FJ.length*sz<=g.cp k*sz:=by rw[<-aL_];exact aT_ sz Z
 have jy:p*sz+JF.length<=d.toList.length:=X;let⟨b,N⟩:=aq (d.toList.take (p*sz)++JF++d.toList.drop (p*sz+JF.length)).toArray;rw[<-N];have B:∀q,b[q]?=if q<p*sz then d[q]? else if q<p*sz+JF.length then JF[q-p*sz]? else d[q]?:=by grind[BU]
 have P:b.size=d.size:=X;have C:(rows.take p++FJ++rows.drop (p+FJ.length)).length=rows.length:=X;exact t.row u v y (cs':=b) (ob:=.arr sz (rows.take p++FJ++rows.drop (p+FJ.length)) fz ex) (λJ=>⟨aB,aB⟩) λq Q=>by have:=(z q).1 Q;rw[B,if_pos (aE_ this (aT_ sz L))] λs=>by
  refine⟨b,o,setRow_heap w _ d b o (0,0) y,P.trans M,X,λh=>X,λi row c=>?_,X,z⟩;rw[BU _ _ _ K]at c;split at c;rename_i R;refine⟨(m i row c).1,λj a f=>?_⟩;let⟨x,n,l⟩:=(m i row c).2 j a f;have hj:j<sz:=X;exact⟨x,by grind[nj],l.later s⟩;rename_i R;split at c;rename_i T;have C:=E row (as_ c);refine⟨C,λj a f=>?_⟩;let⟨x,n,l⟩:=G _ row j a c f;have au:=(aB_.1 n).1;have e:i*sz=p*sz+(i-p)*sz:=by rw[<-aL_];congr 1;omega
  exact⟨x,by rw[B,if_neg Z,if_pos Z,show i*sz+j-p*sz=(i-p)*sz+j by omega];exact n,l.later s⟩;rename_i T;refine⟨(m i row c).1,λj a f=>?_⟩;let⟨x,n,l⟩:=(m i row c).2 j a f;have e:p*sz+JF.length<=i*sz:=by rw[F,<-aL_];exact aT_ sz Z
  exact⟨x,X,l.later s⟩
theorem xc{t e:TypeId}(h:lV P t=some e):P.underlying t=some (.slice e):=by grind[lV]
theorem Je{a b:QO}{o:Op}(h:res P.toTables o=some (.copy sz a b)):∃c t t2 u v e d,o=.call c/\c.callee=.builtin .copy/\c.argTypes=#[t,t2]/\c.args=#[u,v]/\a=qo u/\b=qo v/\lV P t=some e/\lV P t2=some d/\eJ P e=some sz:=by cases o<;>simp only[res,n4,gE]at h<;>(repeat' split at h)<;>(try cases h);exact⟨_,_,_,_,_,_,_,rfl,X,by rw[<-dy_ (xs:=Call.argTypes _)];congr,X,rfl,rfl,by assumption,by assumption,X⟩
theorem S7{t e:TypeId}{l c:Operand}{z:Value}{p kb:IntKind}{a b:Int}(C:o.op=.makeSlice t l c)(E:P.underlying t=some (.slice e))(hz:eu P e=some z)(hs:eJ P e=some sz)(AM:kQ P e=some LQ)(F:z.cells.size=sz)(MZ:0<sz)(G:U.ev l=.v (.int p a))(K:U.ev c=.v (.int kb b))(h1:0<=a)(h0:a<=b)(h2:b*LQ<=35184372088832)(h3:b<=9223372036854775807):a_ P Y n o U S (.ob S.nx sz 0 a.toNat none) (S.new (.arr sz (List.replicate b.toNat (z.cells.toList.map b9)) 0 true)):=by
 intro A g q w r s;let⟨i,L,M⟩:=oo hs;have N:i.zero=some z:=by grind[eu]
 have AN:i.bytes=LQ:=by grind[kQ]
 have d:=s.ev l;have f:=s.ev c;rw[G]at d;rw[K]at f;have d:=cA d;have f:=cA f;have Q:=run_make (P:=P) w t e i z E L N p kb a b h1 h0 X h3;have R:∀q,¬g.fz w.heap.size q:=λq T=>absurd (r.dL _ _ T) (bU_ _);let⟨V,W⟩:=r.new (.cells (madeCells z.cells (b.toNat*i.size)) e) (.arr sz (List.replicate b.toNat (z.cells.toList.map b9)) 0 true) b.toNat (λJ=>aB) (λhL=>by
  refine⟨_,e,eg,?_,aB,λ_=>aB,λm row hr=>?_,aF_ _,λq=>⟨λh=>absurd h (R q),λh=>X⟩⟩;rw[size_madeCells,M];obtain⟨u,rfl⟩:=aB_.1 hr;simp only[bA_]at u;simp only[cQ_];refine⟨X,λj b' v=>?_⟩;simp only[aY_,bb_]at v;obtain⟨y,hy,rfl⟩:=v;have x:j<sz:=X;refine⟨y,?_,nQ y⟩;have au:m*sz+j<b.toNat*sz:=nj u x;have B:j<z.cells.size:=Z;have e1:(m*sz+j)%z.cells.size=j:=by rw[F,bX_,cd_];exact ce_ x
  have e2:(madeCells z.cells (b.toNat*i.size))[m*sz+j]?=some z.cells[(m*sz+j)%z.cells.size]!:=by unfold madeCells;rw[bW_,cc_,if_pos X];rfl
  rw[e2,e1,getElem!_pos z.cells j B,<-hy,bh_,aM_ B]);refine⟨.slice (some ⟨w.heap.size,0,none⟩) a.toNat b.toNat,_,_,.inl ?_,?_,W,V⟩;simp only[execOp,C,d,f,Sem.run_bind,Q];rfl;have:=aO.ob (g:=g.new S.nx w.heap.size b.toNat) (w:=w.alloc (.cells (madeCells z.cells (b.toNat*i.size)) e)) (k:=S.nx) (sz:=sz) (off:=0) (len:=a.toNat) (c:=b.toNat) (cx:=none) (.inr rfl) (λm h=>X) (by rw[aG_];exact bY_ (aG _ _ _).symm) (λ_=>by rw[aG_];exact(aG _ _ _).symm) Z;rw[show(g.new S.nx w.heap.size b.toNat).ob S.nx=w.heap.size from aG _ _ _,bd_]at this;exact this
theorem D.ajr{z:List AV}{l c:QO}{k f:IntKind}{a b:Int}(h1:l.ev U.tm=.v (.int k a))(h2:c.ev U.tm=.v (.int f b))(h3:0<=a)(h4:a<=b)(h5:b*LQ<=35184372088832)(h6:b<=9223372036854775807):D P Y false (.rV z LQ l c) U S (.ob S.nx z.length 0 a.toNat none) (S.new (.arr z.length (List.replicate b.toNat z) 0 true)):=D.run λn o g=>by
 obtain⟨t,u,v,e,h,sz,i,rfl,rfl,j,m,p,q,rfl,d,r⟩:=T_ g;have s:(h.cells.toList.map b9).length=sz:=by rw[<-aS_ d];simp
 rw[aT]at h1 h2;rw[s];exact S7 i (xc j) m p q (aS_ d) (ay_ r) h1 h2 h3 h4 h5 h6
theorem D.asZ{k fz len:Nat}{a b:QO}{x:List AV}(h1:a.ev U.tm=.ob k sz 0 len none)(M:S.get k=some (.arr sz rows fz ex))(s:iB S (b.ev U.tm)=some (x::FJ))(h0:fz<=len)(h2:len+(x::FJ).length<=rows.length)(h3:∀row∈x::FJ,row.length=sz/\row.all db=true):D P Y false (.append sz LQ a b) U S (.ob k sz 0 (len+(x::FJ).length) none) (S.set k (some (.arr sz (rows.take len++x::FJ++rows.drop (len+(x::FJ).length)) fz ex))):=D.run λn o l=>by
 obtain⟨c,t,t2,u,v,e,e2,z,ho,hc,C,E,rfl,rfl,y,F,hz,hs,AM,sD,AS⟩:=rM l;rw[aT]at h1 s;let⟨s,GL⟩:=jV s;have C:c.argTypes=#[t,t2]:=by rw[<-dy_ (xs:=c.argTypes),C]
 have E:c.args=#[u,v]:=by rw[<-dy_ (xs:=c.args),E]
 have y:=xc y;have F:=xc F;intro A g q w G N;have Q:=N.ev u;have g2:=N.ev v;rw[h1]at Q;let⟨cc,e1,J,mF,AD,R,hle⟩:=j_ Q;let⟨b2,q2,c2,d,e3,P5,f⟩:=rU G s g2 aB (λr l=>(h3 r l).1) GL;let⟨k2,k3,B,sZ,T,p2,p3,p4,p5,p6,p7⟩:=G.cX k _ M J;let⟨i,K,L⟩:=oo hs;have oy:=R rfl;have V:len+(x::FJ).length<=cc:=Z;have iL:len*sz+(x::FJ).length*sz<=g.cp k*sz:=by rw[<-aL_];exact aT_ sz Z
 have W:0+len*i.size+d.length<=B.size:=by rw[f.1,p2,L];omega
 have dB:=zK (P:=P) w t o.type e sZ i y K (g.ob k) 0 len cc B T ⟨b2,q2,none⟩ (x::FJ).length c2 d (by rw[f.1,L]) f.2.1 (Jb f h3) V W;simp only[aG_,L]at dB W;let⟨hE,dF⟩:=G.LV (p:=len) (FJ:=x::FJ) (JF:=d) M J T (λr l=>(h3 r l).1) f.1 (λi row j a K ha=>f.2.2 i row K j a ha) h2 h0;refine⟨.slice (some ⟨g.ob k,0,none⟩) (len+(x::FJ).length) cc,_,g,.inl ?_,?_,dF,hE⟩;have hx:(execOp q.eval o).run P w=((Builtin.append_ #[t,t2] o.type #[q.eval u,q.eval v]).run P w).andThen λv w'=>.ok (.value v) w':=by simp[execOp,ho,resolve,hc,C,E,invoke,builtin]
 rw[hx,e1,e3,u_ y F,bd_,dB];rfl;have:=aO.ob (g:=g) (w:=w.setRow (g.ob k) (B.toList.take (len*sz)++d++B.toList.drop (len*sz+d.length)).toArray) (k:=k) (sz:=sz) (off:=0) (len:=len+(x::FJ).length) (c:=cc) (cx:=none) J (λm h=>X) AD R V;rw[bd_]at this;exact this
end Go.Proofs.YtbdcmpknicjopaaGreat
