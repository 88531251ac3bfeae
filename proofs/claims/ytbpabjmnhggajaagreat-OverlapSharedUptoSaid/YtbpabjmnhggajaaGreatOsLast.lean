/- OverlapShared holds: for every input whose bulk is at most 1048576 the call returns true and the input reads as it did. -/
import Derived.Test.YtbpabjmnhggajaaGreatOs53
namespace Go.Proofs.YtbpabjmnhggajaaGreat
set_option linter.unusedVariables false
set_option linter.unusedSimpArgs false
open Go.RowKit
section
set_option maxRecDepth 100000
attribute [local irreducible] ah aC af ad
def En (l:List Gl):Bool:=decide ((l.length:Int)<=6) && l.all xS
def Hr (r:Rl):Bool:=decide (r.aU.length<=3) && (decide (r.rem.length<=3) && (decide (r.aU.length+r.rem.length<=3) && (decide (r.guard.length<=6) && (decide (r.body.length<=6) && (r.aU.all vl && (r.rem.all vl && (En r.guard && En r.body)))))))
def Hs (p:Pg):Bool:=decide (p.ds.length<=12) && (decide (p.rs.length<=8) && p.rs.all Hr)
section
variable {w0:World}{ρ:Hd}
set_option maxHeartbeats 2000000 in
theorem ON (p:Pg) (nc:DB p):ah Tryz.prog w0 5 [pg ρ p] (.v (.bool (Hs p))):=by
 obtain⟨hd,jH,_,P1⟩:=nc;obtain⟨R,hR⟩:∃ R,R=Hs p:=⟨_,rfl⟩;rw[<-hR];unfold Hs at hR;obtain⟨ds,rs⟩:=p;dsimp only at hR hd jH P1;refine st qf5 g5 .v ?_
 repeat' (first
  |refine cg g5 (fun hb=>?_) fun hb=>?_
  |refine lg g5 fun m hm=>?_
  |(refine fq ?_))
 all_goals first
  |rw[hR,decide_eq_false (show ¬ ds.length<=12 by omega)];exact eA rfl
  |refine eA ?_;rw[hR,decide_eq_false (show ¬ rs.length<=8 by omega)];simp;done
  |skip
 rw[decide_eq_true (show ds.length<=12 by omega),decide_eq_true (show rs.length<=8 by omega),Bool.true_and,Bool.true_and] at hR;refine ad.bu (σ:=Int) 1 1 [] (fun q=>[(1,.pt 0 2 0 0),(3,.v (.int .i64 q))]) [] (fun _=>[(0,.arr 2 [tg ρ ⟨ds,rs⟩] 0 true)]) (fun q=>∃ k:Nat,q=k/\k<=rs.length/\R=(rs.drop k).all Hr) (fun q=>rs.length - q.toNat) 0 ⟨0,rfl,by simp,by grind⟩ rfl (by exact⟨sq,rfl,⟨.inl ⟨_,rfl,.arr (by exact⟨kq,trivial⟩)⟩,trivial⟩,rfl,rfl,rfl⟩) ?_;rintro q ⟨k,hi,hk,hp⟩;clear hR;refine gq g5 ?_;by_cases aA:k < rs.length
 ·obtain⟨x,hx,bK⟩:=bf aA;have pZ:=P1 x (eU hx);have h1:=Mw (w0:=w0) (ρ:=ρ) x.aU pZ.ke fun y hy=>(pZ.kx y hy).1;have h2:=Mw (w0:=w0) (ρ:=ρ) x.rem pZ.re fun y hy=>(pZ.rx y hy).1;have h3:=Kx (w0:=w0) (ρ:=ρ) x.guard 6 pZ.g fun y hy=>(pZ.gx y hy).1;have h4:=Kx (w0:=w0) (ρ:=ρ) x.body 6 pZ.b fun y hy=>(pZ.bx y hy).1;have e1:=pZ.ke;have e2:=pZ.re;have e3:=pZ.g;have e4:=pZ.b;rw[bK,List.all_cons,Hr] at hp;obtain⟨x1,lQ⟩:∃ b,b=x.aU.all vl:=⟨_,rfl⟩;obtain⟨x2,UJ⟩:∃ b,b=x.rem.all vl:=⟨_,rfl⟩;obtain⟨x3,Iq⟩:∃ b,b=En x.guard:=⟨_,rfl⟩;obtain⟨x4,hx4⟩:∃ b,b=En x.body:=⟨_,rfl⟩;rw[<-lQ,<-UJ,<-Iq,<-hx4] at hp;rw[<-lQ] at h1;rw[<-UJ] at h2;rw[show (decide ((x.guard.length:Int)<=6) && x.guard.all xS)=x3 from Iq.symm] at h3;rw[show (decide ((x.body.length:Int)<=6) && x.body.all xS)=x4 from hx4.symm] at h4;obtain⟨T,hT⟩:∃ T,T=(rs.drop (k+1)).all Hr:=⟨_,rfl⟩;rw[<-hT] at hp;clear lQ UJ Iq hx4 pZ;obtain⟨n,ke,re,g,b,v⟩:=x;dsimp only at hp h1 h2 h3 h4 e1 e2 e3 e4;refine ad.int rfl (af.len rfl) fun m0 DQ=>?_;rw[aE] at DQ;refine gq g5 ?_
  repeat' (first
   |refine og g5 (af.ind rfl rfl (aY (l:=rs) hi hx) (aZ fun _=>rfl)) ?_
   |refine bg g5 (af.aw rfl h1 ⟨b_ _,trivial⟩) (fun _=>?_) fun _=>?_
   |refine bg g5 (af.aw rfl h2 ⟨b_ _,trivial⟩) (fun _=>?_) fun _=>?_
   |refine bg g5 (af.aw rfl h3 ⟨cL _,.v,trivial⟩) (fun _=>?_) fun _=>?_
   |refine bg g5 (af.aw rfl h4 ⟨cL _,.v,trivial⟩) (fun _=>?_) fun _=>?_
   |refine cg g5 (fun hb=>?_) fun hb=>?_
   |refine lg g5 fun m hm=>?_
   |refine ag g5 fun _ _=>?_
   |refine ad.aH ?_;refine gq g5 ?_
   |refine ad.cP ?_;refine gq g5 ?_
   |(refine fq ?_))
  all_goals first
   |exfalso;omega
   |refine eA ?_;rw[hp,decide_eq_false (show ¬ ke.length<=3 by omega)];simp;done
   |refine eA ?_;rw[hp,decide_eq_false (show ¬ re.length<=3 by omega)];simp;done
   |refine eA ?_;rw[hp,decide_eq_false (show ¬ ke.length+re.length<=3 by omega)];simp;done
   |refine eA ?_;rw[hp,decide_eq_false (show ¬ g.length<=6 by omega)];simp;done
   |refine eA ?_;rw[hp,decide_eq_false (show ¬ b.length<=6 by omega)];simp;done
   |refine eA ?_;rw[hp,show x1=false by grind];simp;done
   |refine eA ?_;rw[hp,show x2=false by grind];simp;done
   |refine eA ?_;rw[hp,show x3=false by grind];simp;done
   |refine eA ?_;rw[hp,show x4=false by grind];simp;done
   |(rw[decide_eq_true (show ke.length<=3 by omega),decide_eq_true (show re.length<=3 by omega),decide_eq_true (show ke.length+re.length<=3 by omega),decide_eq_true (show g.length<=6 by omega),decide_eq_true (show b.length<=6 by omega),show x1=true by grind,show x2=true by grind,show x3=true by grind,show x4=true by grind] at hp
     simp only[Bool.true_and] at hp;rw[hT] at hp;refine ad.aO (σ:=Int) _ [] ?_ ?_ (by exact⟨sq,rfl,⟨.inl ⟨_,rfl,.arr (by exact⟨kq,trivial⟩)⟩,trivial⟩,rfl,rfl,rfl⟩)<;>first|omega|exact⟨k+1,by omega,by omega,hp⟩)
 rw[List.drop_eq_nil_of_le (by omega),List.all_nil] at hp
 repeat' (first
  |refine cg g5 (fun hb=>?_) fun hb=>?_
  |refine lg g5 fun m hm=>?_
  |refine ad.aH ?_;refine gq g5 ?_
  |(refine fq ?_))
 all_goals first
  |exfalso;omega
  |rw[hp];exact eA rfl
end
end
section
set_option maxRecDepth 100000
attribute [local irreducible] ah aC af ad
def qf4:FQ 4 Tryz.f4:=a_ Tryz.func4 Tryz.call4
def g4:List Nat:=[10,3,1,2,35,69,76,7,11,12,13,6,0,16,8,26,34,36,33,64,68,70,75,77,120]
def Ax (ka kb:Nat) (a:Nat) (u:Int):List Int->Nat->Bool
 |[],_=>false
 |v::B,b=>(decide (u=v) && (decide (ka<=a) || decide (kb<=b))) || Ax ka kb a u B (b+1)
def xW (ka kb:Nat) (B:List Int):List Int->Nat->Bool
 |[],_=>false
 |u::A,a=>Ax ka kb a u B 0 || xW ka kb B A (a+1)
theorem My {ka kb a:Nat}{u:Int}:∀ {B:List Int}{k b:Nat},B[b]?=some u->ka<=a\/kb<=k+b->Ax ka kb a u B k=true
 |[],k,b,h,_=>by grind
 |v::B,k,0,h,h2=>by grind[Ax]
 |v::B,k,b+1,h,h2=>by
  rw[Ax,My (k:=k+1) (by simpa using h) (by omega),Bool.or_true]
theorem Mz {ka kb:Nat}{B:List Int}{u:Int}:∀ {A:List Int}{k a b:Nat},A[a]?=some u->B[b]?=some u->ka<=k+a\/kb<=b->xW ka kb B A k=true
 |[],k,a,b,h,_,_=>by grind
 |v::A,k,0,b,h,h1,h2=>by grind[xW,My]
 |v::A,k,a+1,b,h,h1,h2=>by
  rw[xW,Mz (k:=k+1) (by simpa using h) h1 (by omega),Bool.or_true]
structure shP (i j:Int) (ka kb:Nat) (x:Pr):Prop where
 i:x.i=i
 j:x.j=j
 n:x.st.store.length < x.h0.length+x.h1.length
 z:x.h0.length<=4/\x.h1.length<=4
 yL:xW ka kb x.h1 x.h0 0=true
theorem X4 {p:Pg}{i j:Int}(nc:DB p):((uh p i j).2 ≠ 0->(uh p i j).1=[])/\((uh p i j).2=0->∃ a b,0<=i/\0<=j/\p.rs[i.toNat]?=some a/\p.rs[j.toNat]?=some b/\(uh p i j).1.length<=625/\∀ x ∈ (uh p i j).1,shP i j a.aU.length b.aU.length x):=by
 unfold uh;split;rotate_left
 ·grind
 rename_i hc;split
 ·rename_i a b ha hb;refine⟨fun h=>Kk _ _ h,fun _=>⟨a,b,hc.2.1,by omega,ha,hb,?_,fun x hx=>?_⟩⟩
  all_goals
   have hA:=Ei (sR hc.1 a (List.mem_of_getElem? ha)) (nc.rr a (List.mem_of_getElem? ha));have hB:=(Ei (sR hc.1 b (List.mem_of_getElem? hb)) (nc.rr b (List.mem_of_getElem? hb))).sh a.vars;have h1:(lJ i j a b).F.length<=4:=hA.hn;have h2:(lJ i j a b).T.length<=4:=hB.hn
  ·have h3:=Kl (c:=lJ i j a b) (kK (lJ i j a b).T (lJ i j a b).F []) [];have h4:=Nat.le_trans (xR h2 (lJ i j a b).F []) (Nat.le_trans (Nat.pow_le_pow_right (by decide) h1) (by decide:5 ^ 4<=625));rw[List.length_nil] at h3;omega
  ·have h3:=Q6 x hx;obtain⟨qa,qb,m,k1,k2,k3⟩:=h3.yL;have e:(lJ i j a b).b.aU.length=b.aU.length:=by unfold lJ vI;simp
   rw[e] at k3;exact⟨h3.i,h3.j,h3.n,by rw[h3.z.1,h3.z.2];exact⟨h1,h2⟩,Mz k1 k2 (by grind[lJ])⟩
 ·grind
section
variable {w0:World}{ρ:Hd}
theorem UK (p:Pg) (i j:Int) (nc:DB p) (hK:ah Tryz.prog w0 6 [] (.v (.bool true))):ah Tryz.prog w0 4 [pg ρ p,iv i,iv j] (.v (.bool true)):=by
 have hP:=ON (w0:=w0) (ρ:=ρ) p nc;have hR:=XZ (w0:=w0) (ρ:=ρ) p i j nc;have hO:=X4 (p:=p) (i:=i) (j:=j) nc;have xZ:=sU (ρ:=ρ) p;have IJ:=wS (ρ:=ρ) p;obtain⟨⟨l,e⟩,hl⟩:∃ z,z=uh p i j:=⟨_,rfl⟩;rw[<-hl] at hR hO;obtain⟨tp,htp⟩:∃ t,t=Hs p:=⟨_,rfl⟩;rw[<-htp] at hP;clear hl htp nc;unfold Mu at hR;simp only at hR hO;have wH:=Ku (ρ:=ρ) l;obtain⟨ds,rs⟩:=p;simp only at hO;refine st qf4 g4 .v ?_;refine ad.op rfl (af.aw rfl hP ⟨xZ,trivial⟩) ?_;cases tp with
 |false =>
  refine gq g4 ?_;refine ad.op rfl (af.aw rfl hK trivial) ?_;refine gq g4 ?_;refine fq ?_;exact .refl _
 |true =>
 refine gq g4 ?_;refine ad.op rfl (af.aw rfl hR ⟨xZ,.v,.v,trivial⟩) ?_;refine gq g4 ?_;refine bq (fun b8=>?_) (fun b8=>?_)<;>(try simp only[bX] at b8)
 ·have h1:=hO.1 b8;subst h1;refine gq g4 ?_;refine cF fun m hm=>?_;rw[aE] at hm;have hm:m=0:=hm;refine gq g4 ?_;refine bq (fun cy=>?_) (fun cy=>?_)<;>(try simp only[bX] at cy)
  rotate_left
  ·grind
  refine gq g4 ?_;refine ad.op rfl (af.aw rfl hK trivial) ?_;refine gq g4 ?_;refine fq ?_;exact .refl _
 obtain⟨a,b,h1,h2,ha,hb,h3,h4⟩:=hO.2 b8;clear hO hR hP b8;have kp:∀ B,fR B (.arr 2 [tg ρ ⟨ds,rs⟩] 0 true):=fun B=>eG IJ;have hA:=aY (ρ:=ρ) (f:=lu ρ) (l:=rs) (i:=i) (k:=i.toNat) (by omega) ha;have hB:=aY (ρ:=ρ) (f:=lu ρ) (l:=rs) (i:=j) (k:=j.toNat) (by omega) hb;have hl0:Pure (Fx ρ rs):=qq rs;obtain⟨an,ak,ar,ag,ab,av⟩:=a;obtain⟨bn,bk,br,bg,bb,bv⟩:=b;simp only at h4;unfold RC tg at *;refine gq g4 ?_;refine cF fun m hm=>?_;rw[aE] at hm;refine gq g4 ?_
 refine ad.bu (σ:=Int) 1 1 [] (fun q=>[(1,iv i),(2,iv j),(3,.pt 0 2 0 0),(33,aX ρ (sA ρ) false l),(34,.v (.int .i64 m)),(35,.v (.int .i64 q))]) [] (fun _=>[(0,.arr 2 [[gk ρ ds,Fx ρ rs]] 0 true)]) (fun q=>0<=q/\q<=l.length) (fun q=>l.length - q.toNat) 0 ⟨by omega,by omega⟩ rfl
  ⟨⟨.ao rfl .v,.ao rfl .v,.ao rfl (.pt (by decide)),.ao rfl (Pure.aV wH),.ao rfl .v,.ao rfl .v,trivial⟩,rfl,⟨.inl ⟨_,rfl,.same (kp _)⟩,trivial⟩,rfl,rfl,rfl⟩ ?_
 rintro q ⟨hq0,x9⟩;refine gq g4 ?_;refine bq (fun b8=>?_) (fun b8=>?_)<;>(try simp only[bX] at b8)
 rotate_left
 ·refine gq g4 ?_;refine ad.aH ?_;refine gq g4 ?_;refine ad.op rfl (af.aw rfl hK trivial) ?_;refine gq g4 ?_;refine fq ?_;exact .refl _
 obtain⟨x,hx,bK⟩:=bf (l:=l) (k:=q.toNat) (by omega);have hxx:=h4 x (List.mem_of_getElem? hx);have LM:=qN (ρ:=ρ) x;obtain⟨xi,xj,⟨sg,ss,sb,sf,sk,sn,sr,sx⟩,x0,x1⟩:=x;obtain⟨e1,e2,e3,e4,e5⟩:=hxx;simp only at e1 e2 e3 e4 e5;subst e1 e2;have kx:∀ B,fR B (.arr 12 [sA ρ ⟨xi,xj,⟨sg,ss,sb,sf,sk,sn,sr,sx⟩,x0,x1⟩] 0 true):=fun B=>eG LM;unfold sA at LM kx;simp only at kx;refine gq g4 ?_;refine ad.op rfl (af.ind rfl rfl (aY (l:=l) (by omega) hx) (aZ fun _=>rfl)) ?_;refine gq g4 ?_;refine bq (fun cy=>?_) (fun cy=>?_)<;>(try simp only[bX] at cy)
 ·grind
 refine gq g4 ?_;refine bq (fun jo=>?_) (fun jo=>?_)<;>(try simp only[bX] at jo)
 ·grind
 refine gq g4 ?_;refine cF fun n1 kT=>?_;rw[aE] at kT;refine gq g4 ?_;refine ad.op rfl (af.k_ rfl rfl (by decide) (by decide)) ?_;refine gq g4 ?_;refine cF fun n2 jb=>?_;rw[aE] at jb;refine gq g4 ?_;refine ad.op rfl (af.k_ rfl rfl (by decide) (by decide)) ?_;refine gq g4 ?_;refine cF fun n3 yh=>?_;rw[aE] at yh;refine gq g4 ?_;refine cz (fun n4 We=>?_);refine gq g4 ?_;refine bq (fun Ae=>?_) (fun Ae=>?_)<;>(try simp only[bX] at Ae)
 ·grind
 refine gq g4 ?_;refine ad.op rfl (af.k_ rfl rfl (by decide) (by decide)) ?_;refine gq g4 ?_;refine cF fun n5 hn5=>?_;rw[aE] at hn5;refine gq g4 ?_
 refine ad.bu (σ:=Int × Bool) 2 2 [] (fun s=>[(1,iv xi),(2,iv xj),(3,.pt 0 2 0 0),(10,.pt 1 12 0 0),(11,.v (.bool s.2)),(33,aX ρ (sA ρ) false l),(34,.v (.int .i64 m)),(35,.v (.int .i64 q)),(68,.v (.int .i64 n5)),(69,.v (.int .i64 s.1))]) [] (fun _=>[(0,.arr 2 [[gk ρ ds,Fx ρ rs]] 0 true),(1,.arr 12 [[iv xi,iv xj,cX ρ sg,C0 ρ ss,kQ ρ sb,O5 ρ sf,cX ρ sk,iv sn,iv sr,.v (.bool sx),aX ρ aP false x0,aX ρ aP false x1]] 0 true)])
  (fun s=>∃ z:Nat,s.1=z/\z<=x0.length/\(s.2 || xW ak.length bk.length x1 (x0.drop z) z)=true) (fun s=>x0.length - s.1.toNat) (0,false) ⟨0,rfl,by omega,by grind⟩ rfl ⟨⟨.ao rfl .v,.ao rfl .v,.ao rfl (.pt (by decide)),.ao rfl (.pt (by decide)),.ao rfl .v,.ao rfl (Pure.aV wH),.ao rfl .v,.ao rfl .v,.ao rfl .v,.ao rfl .v,trivial⟩,rfl,⟨.inl ⟨_,rfl,.same (kp _)⟩,.inl ⟨_,rfl,.same (kx _)⟩,trivial⟩,rfl,rfl,rfl⟩ ?_
 rintro⟨a2,h⟩ ⟨z,hz,zT,hp⟩;simp only at hz hp;clear e5;refine gq g4 ?_;refine bq (fun u6=>?_) (fun u6=>?_)<;>(try simp only[bX] at u6)
 rotate_left
 ·rw[List.drop_of_length_le (by omega),xW,Bool.or_false] at hp;subst hp;refine gq g4 ?_;refine ad.aH ?_;refine gq g4 ?_;refine cz (fun i3 iC=>?_);refine gq g4 ?_;refine ad.aO (σ:=Int) i3 [] ⟨by omega,by omega⟩ (by omega) ⟨⟨.ao rfl .v,.ao rfl .v,.ao rfl (.pt (by decide)),.ao rfl (Pure.aV wH),.ao rfl .v,.ao rfl .v,trivial⟩,rfl,⟨.inl ⟨_,rfl,.same (kp _)⟩,trivial⟩,rfl,rfl,rfl⟩
 obtain⟨u,hu,jN⟩:=bf (l:=x0) (k:=z) (by omega);rw[jN,xW] at hp;refine gq g4 ?_;refine ad.op rfl (af.k_ rfl rfl (by decide) (by decide)) ?_;refine gq g4 ?_;refine cF fun n6 hn6=>?_;rw[aE] at hn6;refine gq g4 ?_
 refine ad.bu (σ:=Int × Bool) 2 2 [] (fun s=>[(1,iv xi),(2,iv xj),(3,.pt 0 2 0 0),(10,.pt 1 12 0 0),(11,.v (.bool s.2)),(33,aX ρ (sA ρ) false l),(34,.v (.int .i64 m)),(35,.v (.int .i64 q)),(68,.v (.int .i64 n5)),(69,.v (.int .i64 a2)),(12,.v (.int .i64 a2)),(75,.v (.int .i64 n6)),(76,.v (.int .i64 s.1))]) [] (fun _=>[(0,.arr 2 [[gk ρ ds,Fx ρ rs]] 0 true),(1,.arr 12 [[iv xi,iv xj,cX ρ sg,C0 ρ ss,kQ ρ sb,O5 ρ sf,cX ρ sk,iv sn,iv sr,.v (.bool sx),aX ρ aP false x0,aX ρ aP false x1]] 0 true)])
  (fun s=>∃ y:Nat,s.1=y/\y<=x1.length/\((s.2 || Ax ak.length bk.length z u (x1.drop y) y) || xW ak.length bk.length x1 (x0.drop (z+1)) (z+1))=true) (fun s=>x1.length - s.1.toNat) (0,h) ⟨0,rfl,by omega,by grind⟩ rfl ⟨⟨.ao rfl .v,.ao rfl .v,.ao rfl (.pt (by decide)),.ao rfl (.pt (by decide)),.ao rfl .v,.ao rfl (Pure.aV wH),.ao rfl .v,.ao rfl .v,.ao rfl .v,.ao rfl .v,.ao rfl .v,.ao rfl .v,.ao rfl .v,trivial⟩,rfl,⟨.inl ⟨_,rfl,.same (kp _)⟩,.inl ⟨_,rfl,.same (kx _)⟩,trivial⟩,rfl,rfl,rfl⟩ ?_
 clear hp;rintro⟨b2,h⟩ ⟨y,hy,Pw,hp⟩;simp only at hy hp;refine gq g4 ?_;refine bq (fun hb6=>?_) (fun hb6=>?_)<;>(try simp only[bX] at hb6)
 rotate_left
 ·rw[List.drop_of_length_le (l:=x1) (by omega),Ax,Bool.or_false] at hp;refine gq g4 ?_;refine ad.aH ?_;refine gq g4 ?_;refine cz (fun i3 iC=>?_);refine gq g4 ?_;refine ad.aO (σ:=Int × Bool) (i3,h) [] ⟨z+1,by grind,by omega,hp⟩ (by grind) ⟨⟨.ao rfl .v,.ao rfl .v,.ao rfl (.pt (by decide)),.ao rfl (.pt (by decide)),.ao rfl .v,.ao rfl (Pure.aV wH),.ao rfl .v,.ao rfl .v,.ao rfl .v,.ao rfl .v,trivial⟩,rfl,⟨.inl ⟨_,rfl,.same (kp _)⟩,.inl ⟨_,rfl,.same (kx _)⟩,trivial⟩,rfl,rfl,rfl⟩
 obtain⟨v,hv,hv2⟩:=bf (l:=x1) (k:=y) (by omega);rw[hv2,Ax] at hp;cases h with
 |true =>
  refine gq g4 ?_;refine cz (fun i3 iC=>?_);refine gq g4 ?_;refine ad.aO (σ:=Int × Bool) (i3,true) [] ⟨y+1,by grind,by omega,by simp⟩ ?_ ⟨⟨.ao rfl .v,.ao rfl .v,.ao rfl (.pt (by decide)),.ao rfl (.pt (by decide)),.ao rfl .v,.ao rfl (Pure.aV wH),.ao rfl .v,.ao rfl .v,.ao rfl .v,.ao rfl .v,.ao rfl .v,.ao rfl .v,.ao rfl .v,trivial⟩,rfl,⟨.inl ⟨_,rfl,.same (kp _)⟩,.inl ⟨_,rfl,.same (kx _)⟩,trivial⟩,rfl,rfl,rfl⟩;simp only;omega
 |false =>
 refine gq g4 ?_;refine ad.op rfl (af.k_ rfl rfl (by decide) (by decide)) ?_;refine gq g4 ?_;refine ad.op rfl (af.ind rfl rfl (aY (l:=x0) hz hu) (aZ fun _=>rfl)) ?_;refine gq g4 ?_;refine ad.op rfl (af.k_ rfl rfl (by decide) (by decide)) ?_;refine gq g4 ?_;refine ad.op rfl (af.ind rfl rfl (aY (l:=x1) hy hv) (aZ fun _=>rfl)) ?_;refine gq g4 ?_;refine bq (fun Ws=>?_) (fun Ws=>?_)<;>(try simp only[bX] at Ws)
 rotate_left
 ·rw[decide_eq_false Ws,Bool.false_and,Bool.false_or] at hp;refine gq g4 ?_;refine cz (fun i3 iC=>?_);refine gq g4 ?_;refine ad.aO (σ:=Int × Bool) (i3,false) [] ⟨y+1,by grind,by omega,hp⟩ ?_ ⟨⟨.ao rfl .v,.ao rfl .v,.ao rfl (.pt (by decide)),.ao rfl (.pt (by decide)),.ao rfl .v,.ao rfl (Pure.aV wH),.ao rfl .v,.ao rfl .v,.ao rfl .v,.ao rfl .v,.ao rfl .v,.ao rfl .v,.ao rfl .v,trivial⟩,rfl,⟨.inl ⟨_,rfl,.same (kp _)⟩,.inl ⟨_,rfl,.same (kx _)⟩,trivial⟩,rfl,rfl,rfl⟩;simp only;omega
 rw[decide_eq_true Ws,Bool.true_and] at hp;refine gq g4 ?_;refine ad.op rfl (af.ind rfl rfl hA (aZ fun _=>rfl)) ?_;refine gq g4 ?_;refine cF fun n7 hn7=>?_;rw[aE] at hn7;refine gq g4 ?_;refine bq (fun hb8=>?_) (fun hb8=>?_)<;>(try simp only[bX] at hb8)
 ·skip;refine gq g4 ?_;refine cz (fun i3 iC=>?_);refine gq g4 ?_;refine ad.aO (σ:=Int × Bool) (i3,true) [] ⟨y+1,by grind,by omega,by simp⟩ ?_ ⟨⟨.ao rfl .v,.ao rfl .v,.ao rfl (.pt (by decide)),.ao rfl (.pt (by decide)),.ao rfl .v,.ao rfl (Pure.aV wH),.ao rfl .v,.ao rfl .v,.ao rfl .v,.ao rfl .v,.ao rfl .v,.ao rfl .v,.ao rfl .v,trivial⟩,rfl,⟨.inl ⟨_,rfl,.same (kp _)⟩,.inl ⟨_,rfl,.same (kx _)⟩,trivial⟩,rfl,rfl,rfl⟩;simp only;omega
 rw[decide_eq_false (p:=ak.length<=z) (by omega),Bool.false_or] at hp;refine gq g4 ?_;refine ad.op rfl (af.ind rfl rfl hB (aZ fun _=>rfl)) ?_;refine gq g4 ?_;refine cF fun n8 hn8=>?_;rw[aE] at hn8;refine gq g4 ?_;refine bq (fun hb9=>?_) (fun hb9=>?_)<;>(try simp only[bX] at hb9)
 ·skip;refine gq g4 ?_;refine cz (fun i3 iC=>?_);refine gq g4 ?_;refine ad.aO (σ:=Int × Bool) (i3,true) [] ⟨y+1,by grind,by omega,by simp⟩ ?_ ⟨⟨.ao rfl .v,.ao rfl .v,.ao rfl (.pt (by decide)),.ao rfl (.pt (by decide)),.ao rfl .v,.ao rfl (Pure.aV wH),.ao rfl .v,.ao rfl .v,.ao rfl .v,.ao rfl .v,.ao rfl .v,.ao rfl .v,.ao rfl .v,trivial⟩,rfl,⟨.inl ⟨_,rfl,.same (kp _)⟩,.inl ⟨_,rfl,.same (kx _)⟩,trivial⟩,rfl,rfl,rfl⟩;simp only;omega
 rw[decide_eq_false (p:=bk.length<=y) (by omega),Bool.false_or] at hp;refine gq g4 ?_;refine cz (fun i3 iC=>?_);refine gq g4 ?_;refine ad.aO (σ:=Int × Bool) (i3,false) [] ⟨y+1,by grind,by omega,hp⟩ ?_ ⟨⟨.ao rfl .v,.ao rfl .v,.ao rfl (.pt (by decide)),.ao rfl (.pt (by decide)),.ao rfl .v,.ao rfl (Pure.aV wH),.ao rfl .v,.ao rfl .v,.ao rfl .v,.ao rfl .v,.ao rfl .v,.ao rfl .v,.ao rfl .v,trivial⟩,rfl,⟨.inl ⟨_,rfl,.same (kp _)⟩,.inl ⟨_,rfl,.same (kx _)⟩,trivial⟩,rfl,rfl,rfl⟩;simp only;omega
end
end
section
namespace OverlapShared
open Go.ChangeShapes Go.WideShapes Go.ChangeAt Go.RowKit
open Go.ChangeMaps (open_string shut_string)
set_option maxRecDepth 100000 in
theorem UL (H:Type) (enc:TypeId × Value->H) (W:World) (base:Nat) (args:Array Value) (ds gs:List (DataW H)) (before:List MemPlace)
  (qt:∀ (j:Nat) t v,Tryz.f4.params[j]?=some t->args[j]?=some v->Value.okWide Tryz.prog W .any base t v)
  (hW:DataW.Whole enc Tryz.prog Tryz.f4.params.toList Rows.overlapSharedSpec.vars false W args.toList ds gs before) (hB:Rows.uptoBulkAll (ds++gs)<=1048576) :
  Calls Tryz.prog 4 args W fun e W'=>∃ v,e=.returned v/\Rows.overlapSharedSpec.post enc Tryz.prog Tryz.f4 false true false false W args v W':=by
 have hW0:=hW;obtain⟨p,q,hA,hV,rfl,Bj,DC⟩:=hW;obtain⟨rfl,rfl⟩:=trodVars_none hV;have yI:=hA;rw[Tryz.params4] at hA qt;obtain⟨v0,vs0,d0,ds0,p0,q0,bj,rfl,rfl,h0,r0⟩:=trodAll_cons hA;obtain⟨v1,lD,d1,ds1,p1,q1,rfl,rfl,rfl,h1,r1⟩:=trodAll_cons r0;obtain⟨v2,u5,d2,ds2,p2,q2,rfl,rfl,rfl,h2,r2⟩:=trodAll_cons r1;obtain⟨rfl,rfl,rfl⟩:=trodAll_nil r2;obtain rfl:args=#[v0,v1,v2]:=by grind
 simp only[List.cons_append,List.nil_append,Rows.uptoBulkAll] at hB;obtain⟨x0,w0,e0⟩:=YG (qt 0 25 v0 rfl rfl) h0;obtain⟨x1,e1⟩:=Lf h1 (qt 1 3 v1 rfl rfl);obtain⟨x2,e2⟩:=Lf h2 (qt 2 3 v2 rfl rfl);have k0:=Z4 (p:=x0) (by omega);refine ((UK (w0:=W) x0 x1 x2 k0.1 ajj).calls (ada e0 e1 e2)).mono fun e W' ⟨he,hb⟩=>?_;subst he;exact⟨_,rfl,Tb laidOut (by rw[Tryz.params4];simp only[List.mem_cons,List.not_mem_nil,or_false];intro t ht;rcases ht with rfl|rfl|rfl<;>exact⟨by kernel_rfl,by decide +kernel⟩) rfl rfl Tryz.underlying4 rfl hW0 hb⟩
theorem UM (os:Os):laidMet Tryz.prog Rows.overlapSharedUptoRow.laid ((zC os).forCall (fun _ _=>0) ⟨#[],#[.agg #[.slice none 0 0,.slice none 0 0],.int .i64 0,.int .i64 0],[]⟩).memory :=
 laidMet_of_run' 8 (by kernel_rfl) (by kernel_rfl)
theorem reads (os:Os) {H:Type}(enc:TypeId × Value->H):∃ RM,DataW.whole enc Tryz.prog ((zC os).forCall (fun _ _=>0) ⟨#[],#[.agg #[.slice none 0 0,.slice none 0 0],.int .i64 0,.int .i64 0],[]⟩).memory Tryz.f4.params.toList Rows.overlapSharedSpec.vars false ((#[.agg #[.slice none 0 0,.slice none 0 0],.int .i64 0,.int .i64 0]:Array Value)).toList 8=some ([.agg [.nil,.nil],.lit (.int .i64 0),.lit (.int .i64 0)],[],RM) :=
 ⟨[],by kernel_rfl⟩
set_option maxRecDepth 100000 in
theorem lifted (os:Os) (started:os.Started) (H:Type) (enc:TypeId × Value->H) (F:Stop.Interp) :
  ReturnsInHanded {} Tryz.checked os 4 .any ((Rows.OpenSpec.upto Rows.overlapSharedSpec).preRow enc Tryz.prog Tryz.f4 Rows.overlapSharedUptoRow.domain false Rows.overlapSharedUptoRow.laid) (((Rows.OpenSpec.upto Rows.overlapSharedSpec).at F).post enc Tryz.prog Tryz.f4 false true false false):=by
 obtain⟨RM,hx⟩:=reads os enc
 refine returnsInHanded_of_row (C:=Tryz.checked) (s:=Rows.OpenSpec.upto Rows.overlapSharedSpec) own started (by kernel_rfl) Tryz.func4
  (witness_row_at (enc:=enc) (C:=Tryz.checked) false (zC os) #[.agg #[.slice none 0 0,.slice none 0 0],.int .i64 0,.int .i64 0] rfl (by kernel_rfl) (by kernel_rfl) (by kernel_rfl)
   (OpenSpec.preRow_of_cond 8 hx (by kernel_rfl) (fun k hk=>by obtain rfl:=oJ_ hk;kernel_rfl) (by kernel_rfl) (UM os))) ?_
 intro W base args ds gs before qt hW _ hk _ _ _ _;exact UL H enc W base args ds gs before qt hW (of_decide_eq_true (hk _ rfl))
set_option maxRecDepth 100000 in
theorem closed:joinedFacts Tryz.prog 4 Tryz.f4 (Rows.OpenSpec.upto Rows.overlapSharedSpec).bare Rows.overlapSharedUptoRow=true:=by
 unfold joinedFacts;exact ep (ep (ep (ep (ep (ep (ep (ep (ep (ep (ep (ep (ep (ep (ep (ep (ep (ep (ep (ep (ep (ep (ep (ep (ep (ep (ep (ep (ep (ep (ep k0 laidOut) KD) k3) k4) k5) k6) k7) k8) k9) k10) k11) k12) k13) k14) k15) k16) k17) k18) k19) k20) k21) k22) k23) WR) WS) k26) k27) k28) k29) k30) k31
theorem said:Rows.OverlapSharedUptoSaid :=
 OpenClaim.holds_of_cond 4 Tryz.f4 rfl rfl rfl rfl rfl rfl rfl ⟨rfl,rfl,rfl,rfl,rfl⟩ rfl rfl rfl rfl rfl (by kernel_rfl) Tryz.func4 closed
  (of_decide_eq_true (by kernel_rfl)) (by unfold Func.isWrapper;first|(rw[if_pos (by grind)];kernel_rfl)|(rw[if_neg (by decide +kernel)];exact⟨rfl,rfl⟩))
  (fun os started H enc _ F=>by rw[OpenClaim.pre_eq_preRow];exact lifted os started H enc F)
end OverlapShared
end
end Go.Proofs.YtbpabjmnhggajaaGreat
