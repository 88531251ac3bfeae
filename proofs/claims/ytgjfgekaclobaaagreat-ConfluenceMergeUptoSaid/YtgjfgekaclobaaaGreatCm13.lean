import Derived.Test.YtgjfgekaclobaaaGreatCm12
namespace Go.Proofs.YtgjfgekaclobaaaGreat
set_option linter.unusedVariables false
set_option linter.unusedSimpArgs false
open Go.RowKit
structure Dt where
 F:List (Nat × Ob)
 W:List (Nat × Option Ob)
 m:Bool
def Dt.none_:Dt:=⟨[],[],false⟩
def fu (T:aa) (F:List (Nat × Ob)):Prop:=∀ p ∈ F,T.get p.1=some p.2
def cR (G:Nat->Option Ob):List (Nat × Option Ob)->Nat->Option Ob
 |[]=>G
 |p::W=>aX (cR G W) p.1 p.2
def yx:List (Nat × Option Ob)->Bool->Nat
 |_::_::_::_,true=>16
 |_,true=>1
 |_,false=>0
theorem rh {W:List (Nat × Option Ob)}:yx W false=0:=by
 unfold yx;split<;>first|rfl|(rename_i h;cases h)|simp_all
def cJ (T:aa) (W:List (Nat × Option Ob)) (m:Bool):aa:=match T,m with|⟨G,x⟩,true=>⟨cR G W,x+yx W true⟩|⟨G,x⟩,false=>⟨cR G W,x⟩
theorem dp {T:aa}{W:List (Nat × Option Ob)}{m:Bool}:cJ T W m=⟨cR T.get W,T.nx+yx W m⟩:=by
 cases T;cases m
 ·rw [rh];rfl
 ·rfl
def uG (l m:List Nat):Bool:=l.all fun x=>m.all fun y=>!Nat.beq x y
theorem vU {l m:List Nat}(h:uG l m=true) {x y:Nat}(hx:x ∈ l) (hy:y ∈ m):x ≠ y:=by
 intro e
 subst e
 have:=List.all_eq_true.1 (List.all_eq_true.1 h x hx) x hy
 rw [Nat.beq_refl] at this
 cases this
def dj (x y:List Nat × List Nat × Bool):Bool:=uG x.2.1 y.1 && uG x.2.1 y.2.1 && uG x.1 y.2.1 && !(x.2.2 && y.2.2)
def Dt.ns (d:Dt):List Nat × List Nat × Bool:=(d.F.map (·.1),d.W.map (·.1),d.m)
theorem fX {G:Nat->Option Ob}:∀ {W:List (Nat × Option Ob)}{k:Nat},k ∉ W.map (·.1)->cR G W k=G k
 |[],_,_=>rfl
 |p::W,k,h=>by
  simp only [List.map_cons,List.mem_cons,not_or] at h
  rw [cR,aq _ _ h.1,fX h.2]
theorem IZ {G:Nat->Option Ob}{W V:List (Nat × Option Ob)}(h:∀ x ∈ W.map (·.1),∀ y ∈ V.map (·.1),x ≠ y):cR (cR G W) V=cR (cR G V) W:=by
 have key:∀ {G H:Nat->Option Ob}{W:List (Nat × Option Ob)}{k:Nat},k ∈ W.map (·.1)->cR G W k=cR H W k:=by
  intro G H W k
  induction W with
  |nil=>intro h;cases h
  |cons p W ih =>
   intro h
   by_cases e:k=p.1
   ·subst e;rw [cR,cR,ah,ah]
   ·rw [cR,cR,aq _ _ e,aq _ _ e]
    exact ih ((List.mem_cons.1 h).resolve_left e)
 funext k
 by_cases h1:k ∈ V.map (·.1)
 ·have h2:k ∉ W.map (·.1):=fun hw=>h k hw k h1 rfl
  rw [fX h2]
  exact key h1
 ·rw [fX h1]
  by_cases h2:k ∈ W.map (·.1)
  ·exact key h2
  ·rw [fX h2,fX h2,fX h1]
section
variable {P:Program}{w0:World}{n B:Nat}{α ag:AA}{S S':aa}{r:AV}{ops:Array Oper}{D:Nat->Dt}
def l8:Op->Bool
 |.buildSlice ..=>false
 |o=>kE o
theorem yy {o:Op}(h:kE o=false):l8 o=false:=by cases o<;>first|rfl|exact h
def kZ (P:Program) (w0:World) (n:Nat) (ops:Array Oper) (B:Nat) (i:Nat) (d:Dt) (α:AA) (S:aa) (α1:AA) (S1:aa):Prop :=
 ∃ o,ops[i]?=some o/\(match o.dst with|some d=>Nat.blt d n|none=>true)=true/\(l8 o.op=true->d=.none_)/\B<=S.nx/\fu S d.F/\S1=cJ S d.W d.m /\
  ((∃ (j:Nat) (want:Bool) (b:Option Bool),o.guard=some (j,want)/\lO ops α j=some b/\b ≠ some want/\α1=α.put o.dst (.v undef)/\d=.none_) \/
   ((o.guard=none\/∃ j want,o.guard=some (j,want)/\lO ops α j=some (some want))/\∃ r,α1=α.put o.dst r/\∀ T,B<=T.nx->fu T d.F->(d.m=true->T.nx=S.nx)->de P w0 n o (α.only (bU o)) T r (cJ T d.W d.m)))
theorem cE:cJ S [] false=S:=by cases S;rfl
theorem kZ.shape {i:Nat}{d:Dt}{α1:AA}{S1:aa}(h:kZ P w0 n ops B i d α S α1 S1):∃ o a,ops[i]?=some o/\α1=α.put o.dst a/\fu S d.F/\S1=cJ S d.W d.m/\B<=S.nx:=by
 obtain⟨o,h1,_,_,hB,h2,h3,h⟩:=h
 rcases h with ⟨j,want,b,hg,hy,aP,rfl,_⟩|⟨hg,r,rfl,_⟩
 ·exact⟨o,_,h1,rfl,h2,h3,hB⟩
 ·exact⟨o,r,h1,rfl,h2,h3,hB⟩
theorem kZ.anyS {i:Nat}{d:Dt}{α1:AA}{S1 T:aa}(h:kZ P w0 n ops B i d α S α1 S1) (hB:B<=T.nx) (hT:fu T d.F) (hm:d.m=true->T.nx=S.nx):kZ P w0 n ops B i d α T α1 (cJ T d.W d.m):=by
 obtain⟨o,h1,hn,hp,_,h2,h3,h⟩:=h
 refine⟨o,h1,hn,hp,hB,hT,rfl,?_⟩
 rcases h with h|⟨hg,r,h4,h5⟩
 ·exact .inl h
 ·exact .inr ⟨hg,r,h4,fun T' hb ht RG=>h5 T' hb ht fun e=>(RG e).trans (hm e)⟩
theorem kZ.frame {i:Nat}{dt:Dt}{α1:AA}{S1:aa}{d:Option Tmp}{a:AV}(h:kZ P w0 n ops B i dt α S α1 S1) (hd:∀ o,ops[i]?=some o->∀ e,d=some e->e ∉ o.looksAt ops/\o.dst ≠ some e):kZ P w0 n ops B i dt (α.put d a) S (α1.put d a) S1:=by
 obtain⟨o,hi,hn,hp,h0,h8,h9,h⟩:=h
 have h1:∀ e,d=some e->e ∉ bU o:=fun e he hm=>(hd o hi e he).1 (nn hm)
 have h2:∀ j want,o.guard=some (j,want)->∀ e,d=some e->(ops[j]?).bind (·.dst) ≠ some e:=by
  intro j want hg e he h3
  refine (hd o hi e he).1 (List.mem_append.2 (.inr ?_))
  rw [hg]
  simp only
  rw [h3]
  simp
 have hc:∀ x,(α.put o.dst x).put d a=(α.put d a).put o.dst x:=fun x=>(put_comm fun t ht e=>(hd o hi t ht).2 e).symm
 refine⟨o,hi,hn,hp,h0,h8,h9,?_⟩
 rcases h with ⟨j,want,b,hg,hy,aP,rfl,h7⟩|⟨hg,r,rfl,h3⟩
 ·exact .inl ⟨j,want,b,hg,by rw [jU (h2 j want hg)];exact hy,aP,hc _,h7⟩
 ·refine .inr ⟨?_,r,hc _,by rw [jV h1];exact h3⟩
  rcases hg with hg|⟨j,want,hg,hy⟩
  ·exact .inl hg
  ·exact .inr ⟨j,want,hg,by rw [jU (h2 j want hg)];exact hy⟩
theorem kZ.swap {i j:Nat}{di jW:Dt}{oi oj:Oper}{α1 kF:AA}{S1 S2:aa}(hi:ops[i]?=some oi) (hj:ops[j]?=some oj) (nX:oi.apart ops oj=true) (hd:dj di.ns jW.ns=true) (h:kZ P w0 n ops B i di α S α1 S1) (k:kZ P w0 n ops B j jW α1 S1 kF S2) :
  ∃ oH sU,kZ P w0 n ops B j jW α S oH sU/\kZ P w0 n ops B i di oH sU kF S2:=by
 obtain⟨e1,e2,e3⟩:=Oper.apart_spec nX
 obtain⟨kG,a,eL,rfl,jX,rfl,Y0⟩:=h.shape
 obtain rfl:kG=oi:=by rw [hi] at eL;exact (Option.some.inj eL).symm
 obtain⟨mG,b,eJ,rfl,RH,rfl,hBj⟩:=k.shape
 obtain rfl:mG=oj:=by rw [hj] at eJ;exact (Option.some.inj eJ).symm
 simp only [dj,Dt.ns,Bool.and_eq_true,Bool.not_eq_true',Bool.and_eq_false_iff] at hd
 obtain⟨⟨⟨d1,d2⟩,d3⟩,d4⟩:=hd
 have qu:fu S jW.F:=fun p hp=>by
  have:=RH p hp
  rw [dp] at this
  rw [<-this]
  exact (fX fun hm=>vU d1 hm (List.mem_map.2 ⟨p,hp,rfl⟩) rfl).symm
 have yz:fu (cJ S jW.W jW.m) di.F:=fun p hp=>by
  rw [<-jX p hp,dp]
  exact fX fun hm=>vU d3 (List.mem_map.2 ⟨p,hp,rfl⟩) hm rfl
 have aaf:cJ (cJ S jW.W jW.m) di.W di.m=cJ (cJ S di.W di.m) jW.W jW.m:=by
  simp only [dp]
  congr 1
  ·exact IZ fun x hx y hy e=>vU d2 hy hx e.symm
  ·omega
 have kj:kZ P w0 n ops B j jW α S (α.put mG.dst b) (cJ S jW.W jW.m):=by
  obtain⟨o,ho,hn,hp,q0,q1,q2,hk⟩:=k
  obtain rfl:o=mG:=by rw [hj] at ho;exact (Option.some.inj ho).symm
  have h1:∀ e,kG.dst=some e->e ∉ bU o:=fun e he hm=>e1 e he (nn hm)
  have h2:∀ q want,o.guard=some (q,want)->∀ e,kG.dst=some e->(ops[q]?).bind (·.dst) ≠ some e:=by
   intro q want hg e he h3
   refine e1 e he (List.mem_append.2 (.inr ?_))
   rw [hg]
   simp only
   rw [h3]
   simp
  have inj:∀ x y:AV,(α.put kG.dst a).put o.dst x=(α.put kG.dst a).put o.dst y->α.put o.dst x=α.put o.dst y:=by
   intro x y ib
   cases l9:o.dst with
   |none=>rfl
   |some d =>
    rw [l9] at ib
    have:x=y:=by
     have h3:=congrArg (fun z:AA=>z.tm d) ib
     simpa [AA.put,ah] using h3
    rw [this]
  refine⟨o,ho,hn,hp,Y0,qu,rfl,?_⟩
  rcases hk with ⟨q,want,c,hg,hy,aP,h3,h4⟩|⟨hg,r,h3,h4⟩
  ·exact .inl ⟨q,want,c,hg,by rw [<-jU (h2 q want hg)];exact hy,aP,inj _ _ h3,h4⟩
  ·rw [jV h1] at h4
   refine .inr ⟨?_,r,inj _ _ h3,fun T hb ht hm=>h4 T hb ht fun e=>?_⟩
   ·rcases hg with hg|⟨q,want,hg,hy⟩
    ·exact .inl hg
    ·exact .inr ⟨q,want,hg,by rw [<-jU (h2 q want hg)];exact hy⟩
   ·rw [hm e,dp]
    have:di.m=false:=d4.resolve_right (by rw [e];simp)
    simp [this,rh]
 have ki:=(h.anyS (by rw [dp];exact Nat.le_trans Y0 (Nat.le_add_right _ _)) yz (fun e=>by
   rw [dp]
   have:jW.m=false:=d4.resolve_left (by rw [e];simp)
   simp [this,rh])).frame (d:=mG.dst) (a:=b) fun o ho e he=>by
  obtain rfl:o=kG:=by rw [hi] at ho;exact (Option.some.inj ho).symm
  exact⟨e3 e he,fun h3=>e2 e h3 he⟩
 rw [aaf,show (α.put kG.dst a).put mG.dst b=(α.put kG.dst a).put mG.dst b from rfl] at ki
 exact⟨_,_,kj,ki⟩
inductive fY (P:Program) (w0:World) (n:Nat) (ops:Array Oper) (B:Nat) (D:Nat->Dt):List Nat->AA->aa->AA->aa->Prop where
 |nil (α:AA) (S:aa):fY P w0 n ops B D [] α S α S
 |cons {i:Nat}{rest:List Nat}{α α1 ag:AA}{S S1 S':aa}(h:kZ P w0 n ops B i (D i) α S α1 S1) (t:fY P w0 n ops B D rest α1 S1 ag S'):fY P w0 n ops B D (i::rest) α S ag S'
def RI (ops:Array Oper) (D:Nat->Dt) (i j:Nat):Prop:=∃ oi oj,ops[i]?=some oi/\ops[j]?=some oj/\oi.apart ops oj=true/\dj (D i).ns (D j).ns=true
theorem fY.front {j:Nat}:∀ {C1 C2:List Nat}{α ag:AA}{S S':aa},(∀ x ∈ C1,RI ops D x j)->fY P w0 n ops B D (C1++j::C2) α S ag S'->fY P w0 n ops B D (j::(C1++C2)) α S ag S'
 |[],C2,α,ag,S,S',_,h=>h
 |x::C1,C2,α,ag,S,S',hx,h=>by
  cases h with
  |@cons _ _ _ α1 _ _ S1 _ h t =>
   have t':=fY.front (fun y hy=>hx y (by simp [hy])) t
   cases t' with
   |@cons _ _ _ kF _ _ S2 _ k t2 =>
    obtain⟨oi,oj,hi,hj,h1,h2⟩:=hx x (by simp)
    obtain⟨oH,sU,h3,h4⟩:=h.swap hi hj h1 h2 k
    exact .cons h3 (.cons h4 t2)
theorem fY.perm:∀ {L C:List Nat}{α ag:AA}{S S':aa},C.Pairwise (· < ·)->L.Pairwise (fun y x=>x < y->RI ops D x y)->(∀ x,x ∈ L ↔ x ∈ C)->L.Nodup->fY P w0 n ops B D C α S ag S'->fY P w0 n ops B D L α S ag S'
 |[],C,α,ag,S,S',_,_,hm,_,h=>by
  have:C=[]:=by
   cases C with
   |nil=>rfl
   |cons x C=>have:=(hm x).2 (by simp);cases this
  subst this
  exact h
 |y::L,C,α,ag,S,S',hC,hL,hm,hn,h=>by
  obtain⟨C1,C2,rfl⟩:=List.append_of_mem ((hm y).1 (by simp))
  rw [List.pairwise_cons] at hL
  rw [List.nodup_cons] at hn
  rw [List.pairwise_append,List.pairwise_cons] at hC
  obtain⟨p1,⟨p2,p3⟩,p4⟩:=hC
  have mH:∀ x ∈ C1,x < y:=fun x hx=>p4 x hx y (by simp)
  have iN:∀ x ∈ C2,y < x:=p2
  have fI:∀ x,x ∈ L ↔ x ∈ C1++C2:=by
   intro x
   have h0:=hm x
   simp only [List.mem_cons,List.mem_append] at h0 ⊢
   constructor
   ·intro hx
    rcases h0.1 (.inr hx) with h1|h1|h1
    ·exact .inl h1
    ·subst h1;exact absurd hx hn.1
    ·exact .inr h1
   ·intro hx
    have aP:x ≠ y:=by
     rintro rfl
     rcases hx with hx|hx
     ·exact absurd (mH x hx) (Nat.lt_irrefl _)
     ·exact absurd (iN x hx) (Nat.lt_irrefl _)
    rcases h0.2 (hx.elim .inl fun h=>.inr (.inr h)) with h1|h1
    ·exact absurd h1 aP
    ·exact h1
  have hf:=fY.front (fun x hx=>hL.1 x ((fI x).2 (by simp [hx])) (mH x hx)) h
  cases hf with
  |cons h1 h2 =>
   refine .cons h1 (fY.perm (L:=L) ?_ hL.2 fI hn.2 h2)
   rw [List.pairwise_append]
   exact⟨p1,p3,fun a ha b hb=>p4 a ha b (by simp [hb])⟩
theorem fY.sI:∀ {L:List Nat}{α ag:AA}{S S':aa},fY P w0 n ops B D L α S ag S'->nG P w0 n ops L α S ag S'
 |[],_,_,_,_,.nil α S=>fun F m A g a w Q hF hS hA hQ=>hQ a w g hS hA (Ext.refl ..)
 |i::rest,α,ag,S,S',.cons (α1:=α1) (S1:=S1) h t=>by
  have ih:=fY.sI t
  obtain⟨o,hi,hd,hp,hB,qu,er,h⟩:=h
  rcases h with ⟨j,want,b,hg,hy,aP,rfl,RJ⟩|⟨hg,r,rfl,h3⟩
  ·have e:S1=S:=by rw [er,RJ];exact cE
   subst e
   intro F m A g a w Q hF hS hA hQ
   have vk:¬ Region.wanted o (yielded ops a.tmps)=true:=by simp [Region.wanted,hg,kW hA hy,aP]
   simp only [wpOpsIn,hi]
   rw [if_neg vk]
   exact⟨fun f _=>hF.1 f,ih F m A g _ w Q hF hS (gV hA hd .v) hQ⟩
  ·intro F m A g a w Q hF hS hA hQ
   have hw:Region.wanted o (yielded ops a.tmps)=true:=by
    rcases hg with hg|⟨j,want,hg,hy⟩
    ·simp [Region.wanted,hg]
    ·simp [Region.wanted,hg,kW hA hy]
   simp only [wpOpsIn,hi]
   rw [if_pos hw]
   have h4:=h3 S hB qu (fun _=>rfl)
   rw [<-er] at h4
   refine⟨fun f _=>hF.1 f,h4 F m A g a w _ Q hF hS (hA.only _) fun v w' g' hr dO hE=>?_⟩
   exact ih F m A g' _ w' Q hF dO (gV (hA.later hE.toLater) hd hr) fun a' iY qv h1 h2 h3=>hQ a' iY qv h1 h2 (hE.trans h3)
def pd (ops:Array Oper) (m:List Nat):Nat->List (Nat × Nat)
 |0=>[]
 |y+1=>((List.range y).filter fun x=>!(m.getD y 0).testBit x).map (fun x=>(x,y))++pd ops m y
def nH (ops:Array Oper) (i:Nat):Bool:=match ops[i]? with|some o=>l8 o.op|none=>true
def RK (ops:Array Oper) (x y:Nat):Bool:=match ops[x]?,ops[y]? with|some a,some b=>a.apart ops b|_,_=>false
def Np (ops:Array Oper):List (Nat × Nat):=pd ops (beforeL [] ops.toList) ops.size
def rm (ops:Array Oper):List (Nat × Nat):=(Np ops).filter fun p=>!nH ops p.1 && !nH ops p.2
def mR (ops:Array Oper):Bool:=lN 0 ops.toList && (Np ops).all fun p=>RK ops p.1 p.2
theorem sV {m:List Nat}:∀ {k x y:Nat},y < k->x < y->(m.getD y 0).testBit x=false->(x,y) ∈ pd ops m k
 |0,x,y,h,_,_=>by omega
 |k+1,x,y,h,hx,hb=>by
  simp only [pd,List.mem_append]
  by_cases c:y=k
  ·subst c
   refine .inl (List.mem_map.2 ⟨x,List.mem_filter.2 ⟨by simpa using hx,by simp only [hb];rfl⟩,rfl⟩)
  ·exact .inr (sV (by omega) hx hb)
theorem zp {y:List Nat × List Nat × Bool}:dj Dt.none_.ns y=true:=by simp [dj,Dt.none_,Dt.ns,uG]
theorem zq {x:List Nat × List Nat × Bool}:dj x Dt.none_.ns=true:=by simp [dj,Dt.none_,Dt.ns,uG]
theorem fY.xc:∀ {L:List Nat}{α ag:AA}{S S':aa},fY P w0 n ops B D L α S ag S'->∀ i ∈ L,nH ops i=true->D i=.none_
 |_,_,_,_,_,.nil ..,i,hi,_=>by cases hi
 |_,_,_,_,_,.cons h t,i,hi,hp=>by
  rcases List.mem_cons.1 hi with rfl|hi
  ·obtain⟨o,h1,_,h2,_⟩:=h
   simp only [nH,h1] at hp
   exact h2 hp
  ·exact fY.xc t i hi hp
theorem bI.Ux {rd:Bool}{id:Nat}(hm:P.follows .mixedOrders=true) (mD:mR ops=true) (hv:∀ p ∈ rm ops,dj (D p.1).ns (D p.2).ns=true) (h:fY P w0 n ops B D (List.range ops.size) α S ag S'):bI P w0 rd n (.region id ops true) α S .normal ag S':=by
 intro F m A g a w hF hR hS hA
 simp only [mR,Bool.and_eq_true] at mD
 obtain⟨he,hp⟩:=mD
 refine wpIn_region_draw fun t=>?_
 simp only [Region.schedule,hm,Bool.true_or,if_true]
 have hd:q9 ops (Array.replicate ops.size false):=⟨by simp,fun y x hy=>by
  simp only [Array.getD_eq_getD_getElem?,Array.getElem?_replicate] at hy
  split at hy<;>simp at hy⟩
 obtain⟨f1,f2,f3,f4⟩:=lY he ops.size t _ hd
 have jQ:∀ x,x ∈ Region.linearise .any ops t ↔ x ∈ List.range ops.size:=by
  intro x
  refine⟨fun hx=>by simpa using (f1 x hx).1,fun hx=>?_⟩
  have hx:x < ops.size:=by simpa using hx
  by_cases c:x ∈ Region.linearise .any ops t
  ·exact c
  ·exfalso
   have hl:=f4 ⟨x,hx,by simp [Array.getD_eq_getD_getElem?,Array.getElem?_replicate,hx],c⟩
   have mO:(x::Region.linearise.go .any ops ops.size t (Array.replicate ops.size false) []).Nodup:=by
    rw [List.nodup_cons];exact⟨c,f2⟩
   have hlen:=sH (x::Region.linearise.go .any ops ops.size t (Array.replicate ops.size false) []) mO ops.size (fun y hy=>by
    rcases List.mem_cons.1 hy with rfl|hy
    ·exact hx
    ·exact (f1 y hy).1)
   rw [List.length_cons,hl] at hlen
   omega
 have hL:(Region.linearise .any ops t).Pairwise (fun y x=>x < y->RI ops D x y):=by
  refine List.Pairwise.imp_of_mem ?_ f3
  intro y x hy hx hb ib
  have fI:=sV (ops:=ops) (f1 y hy).1 ib hb
  have nX:=List.all_eq_true.1 hp _ fI
  unfold RK at nX
  split at nX
  ·rename_i oi oj hi hj
   refine⟨oi,oj,hi,hj,nX,?_⟩
   have DG:x ∈ List.range ops.size:=(jQ x).1 hx
   have Nq:y ∈ List.range ops.size:=(jQ y).1 hy
   cases DH:nH ops x with
   |true=>rw [h.xc x DG DH];exact zp
   |false =>
    cases DI:nH ops y with
    |true=>rw [h.xc y Nq DI];exact zq
    |false=>exact hv (x,y) (List.mem_filter.2 ⟨fI,by simp [DH,DI]⟩)
  ·cases nX
 have hC:(List.range ops.size).Pairwise (· < ·):=List.pairwise_lt_range
 obtain⟨hE,er⟩:=hS.drew
 have er:St w0 A g S { w with drawn:=w.drawn+1 }:=er
 refine (fY.perm hC hL jQ f2 h).sI F m A g a _ _ hF er (hA.later hE.toLater) fun a' w' g' h1 h2 h3=>⟨rfl,g',h1,h2,hE.trans h3⟩
end
def a_ (P:Program) (w0:World) (B:Nat) (q:cB) (α:AA) (S:aa) (r:AV) (d:Dt):Prop :=
 ∀ (n:Nat) (o:Oper),res P.toTables o.op=some q->(l8 o.op=true->d=.none_)/\fu S d.F/\∀ T,B<=T.nx->fu T d.F->(d.m=true->T.nx=S.nx)->de P w0 n o (α.only (bU o)) T r (cJ T d.W d.m)
def yA:cB->Bool
 |.mv _|.pick ..|.build ..|.rows ..|.not _|.uE ..|.field ..|.extract ..|.A0 ..|.uF _=>true
 |_=>false
def dq (q:cB) (f:Nat->AV) (S:aa) (rs:List Nat):Option (AV × Dt × List Nat) :=
 match q with
 |.load k x=>match x.ev f with
  |.ip row=>match l7 k row 0 with
   |some a=>some (a,⟨[],[],false⟩,rs)
   |none=>none
  |.pt b sz i j=>match S.get b with
   |some (.arr sz' rows fz ex)=>match jt k S (.pt b sz i j) with
    |some a=>some (a,⟨[(b,.arr sz' rows fz ex)],[],false⟩,rs)
    |none=>none
   |_=>none
  |_=>none
 |.store n x b=>match b.ev f,x.ev f with
  |bv,.pt k sz 0 j=>match S.get k with
   |some (.arr sz' [row] 0 ex)=>match Nat.beq sz sz' && (aG bv).all bl && Nat.beq n (aG bv).length with
    |true=>match Nat.ble (j+(aG bv).length) row.length with
     |true=>some (.v undef,⟨[(k,.arr sz' [row] 0 ex)],[(k,some (.arr sz [kO row j (aG bv)] 0 ex))],false⟩,rs)
     |false=>none
    |false=>none
   |_=>none
  |_,_=>none
 |.alloc cs=>match rs with
  |k::rs=>match S.get k with
   |some .un=>some (.pt k cs.length 0 0,⟨[(k,.un)],[(k,some (.arr cs.length [cs] 0 true))],false⟩,rs)
   |_=>none
  |[]=>none
 |.box x=>match (aG (x.ev f)).all bl with
  |true=>some (.pt S.nx (aG (x.ev f)).length 0 0,⟨[],[(S.nx,some (.arr (aG (x.ev f)).length [aG (x.ev f)] 0 true))],true⟩,rs)
  |false=>none
 |.call ..=>none
 |q=>match yA q with
  |true=>match fT q f S with
   |some (r,_)=>some (r,⟨[],[],false⟩,rs)
   |none=>none
  |false=>none
section
variable {P:Program}{w0:World}{n B:Nat}{o:Oper}{α:AA}{S S':aa}{r:AV}{q:cB}{d:Dt}{rs lQ:List Nat}
theorem A6 {f:Nat->AV}(hp:yA q=true) (h:fT q f S=some (r,S')) (T:aa):fT q f T=some (r,T):=by
 have e:∀ {a:AV}{X Y:aa},some (a,X)=some (r,Y)->a=r:=fun h=>by injection h with h;injection h
 cases q<;>first|(exfalso;cases hp;done)|skip
 all_goals
  simp only [fT] at h ⊢
  repeat' split at h
  all_goals first
   |(cases h;done)
   |(obtain rfl:=e h;simp only [*];done)
   |(obtain rfl:=e h;rfl)
theorem a_.zr (h1:∀ o,res P.toTables o=some q->l8 o=true->d=.none_) (h2:fu S d.F) (h:∀ T,fu T d.F->(d.m=true->T.nx=S.nx)->∀ o,res P.toTables o=some q->aK P w0 o α T (nT r (cJ T d.W d.m))):a_ P w0 B q α S r d:=by
 intro n o hr
 refine⟨h1 _ hr,h2,fun T _ hT hm=>?_⟩
 obtain⟨r',S1,h4,rfl,rfl⟩:=jf (n:=n) (h T hT hm o.op hr)
 exact h4
theorem Dh {e:TypeId}{z:Value}{k:Nat}(ho:o.op=.alloc e) (hz:b8 P e=some z) (hk:S.get k=some .un) (aB:k < S.nx):aI P w0 n o α S (.pt k (z.cells.toList.map a8).length 0 0) (S.set k (some (.arr (z.cells.toList.map a8).length [z.cells.toList.map a8] 0 true))):=by
 intro A g a w hS hA
 obtain⟨cs,vn⟩:∃ cs,z.cells.toList.map a8=cs:=⟨_,rfl⟩
 have eX:=lC.a8 (g:=g) (w:=w) z.cells
 rw [vn] at eX ⊢
 have sD:¬ g.al k:=fun h=>(hS.bj k _ hk h).2.2
 have pe:St w0 A g (S.set k (some (.arr cs.length [cs] 0 true))) w:=hS.forget (Nat.le_refl _) fun j p hj ha=>by
  have hj:aX S.get k (some (.arr cs.length [cs] 0 true)) j=some p:=hj
  rwa [aq _ _ (fun e=>sD (by rw [<-e];exact ha))] at hj
 obtain⟨hE,b_⟩:=pe.newAt (.cells z.cells e) sD aB 1 (fun J hJ=>by
  have hJ:aX S.get k (some (.arr cs.length [cs] 0 true)) k=some (.fo J):=hJ
  rw [ah] at hJ
  cases hJ) (fun ob gK hL=>by
  have gK:aX S.get k (some (.arr cs.length [cs] 0 true)) k=some ob:=gK
  rw [ah] at gK
  obtain rfl:=Option.some.inj gK
  refine⟨z.cells,e,ct,by rw [eX.1];simp,by simp,fun _=>rfl,fun i row hr=>?_,Nat.zero_le _,fun q=>⟨fun hf=>?_,fun hf=>by simp at hf⟩⟩
  ·cases i with
   |succ i=>simp at hr
   |zero =>
    simp at hr
    subst hr
    refine⟨rfl,fun j a ha=>?_⟩
    have hj:j < z.cells.size:=by rw [eX.1];exact (List.getElem?_eq_some_iff.1 ha).1
    exact⟨z.cells[j],by simp,(eX.2 j a _ ha (Array.getElem?_eq_getElem hj)).later hL⟩
  ·exact absurd (hS.bM _ _ hf) (by omega))
 have hp:=aA.pt (g:=g.new k w.heap.size 1) (w:=w.alloc (.cells z.cells e)) (k:=k) (sz:=cs.length) (i:=0) (j:=0) (.inr rfl)
 rw [show (g.new k w.heap.size 1).ob k=w.heap.size from ah _ _ _] at hp
 refine⟨_,_,_,.inl ?_,by simpa using hp,b_,hE⟩
 simp [execOp,ho,Instr.alloc,iX hz,newVar,newRow]
theorem vV {f:Nat->AV}{df:List DE}(ju:∀ k ∈ rs,k < B) (h:dq q f S rs=some (r,d,lQ)):a_ P w0 B q ⟨f,df⟩ S r d/\∀ k ∈ lQ,k ∈ rs:=by
 have hq:∀ {T:aa},yA q=true->(match fT q f S with|some (r,_)=>some (r,(⟨[],[],false⟩:Dt),rs)|none=>none)=some (r,d,lQ)->a_ P w0 B q ⟨f,df⟩ S r d/\∀ k ∈ lQ,k ∈ rs:=by
  intro T hp h
  split at h
  ·rename_i a X hx
   simp only [Option.some.injEq,Prod.mk.injEq] at h
   obtain⟨rfl,rfl,rfl⟩:=h
   exact⟨a_.zr (fun _ _ _=>rfl) (fun p hp=>by cases hp) fun T _ _ o hr=>by
    rw [show cJ T [] false=T from cE]
    exact nm (α:=⟨f,df⟩) hr (A6 hp hx T),fun _ hk=>hk⟩
  ·cases h
 have nP:∀ {A:Prop},(∀ o,res P.toTables o=some q->l8 o=true->A)->∀ o,res P.toTables o=some q->l8 o=true->A:=fun h=>h
 cases q with
 |load k x =>
  have np:∀ o,res P.toTables o=some (.load k x)->l8 o=true->d=.none_:=fun o hr hp=>by
   cases o<;>simp only [res] at hr<;>(repeat' split at hr)<;>(try cases hr)<;>cases hp
  have fin:∀ {a:AV}{F:List (Nat × Ob)},(∀ T,fu T F->jt k T (x.ev f)=some a)->fu S F->some (a,(⟨F,[],false⟩:Dt),rs)=some (r,d,lQ)->a_ P w0 B (.load k x) ⟨f,df⟩ S r d/\∀ k ∈ lQ,k ∈ rs:=by
   intro a F h1 h2 h
   simp only [Option.some.injEq,Prod.mk.injEq] at h
   obtain⟨rfl,rfl,rfl⟩:=h
   refine⟨a_.zr np h2 fun T hT _ o hr=>?_,fun _ hk=>hk⟩
   rw [show cJ T [] false=T from cE]
   exact nm (α:=⟨f,df⟩) hr (by simp only [fT,h1 T hT])
  simp only [dq] at h
  split at h
  ·rename_i row hx
   split at h
   ·rename_i a ha
    exact fin (fun T _=>by rw [hx];exact ha) (fun p hp=>by cases hp) h
   ·cases h
  ·rename_i b sz i j hx
   split at h
   ·rename_i sz' rows fz ex hb
    split at h
    ·rename_i a ha
     refine fin (fun T hT=>?_) (fun p hp=>by simp only [List.mem_singleton] at hp;subst hp;exact hb) h
     have sW:T.get b=some (.arr sz' rows fz ex):=hT (b,_) (by simp)
     rw [hx]
     simp only [jt,hb,sW] at ha ⊢
     exact ha
    ·cases h
   ·cases h
  ·cases h
 |store m x b =>
  have np:∀ o,res P.toTables o=some (.store m x b)->l8 o=true->d=.none_:=fun o hr hp=>by
   cases o<;>simp only [res] at hr<;>(repeat' split at hr)<;>(try cases hr)<;>cases hp
  simp only [dq] at h
  split at h
  ·rename_i bv k sz j hx
   split at h
   ·rename_i sz' row ex hk
    split at h
    ·rename_i hc
     split at h
     ·rename_i hl
      simp only [Option.some.injEq,Prod.mk.injEq] at h
      obtain⟨rfl,rfl,rfl⟩:=h
      refine⟨a_.zr np (fun p hp=>by simp only [List.mem_singleton] at hp;subst hp;exact hk) fun T hT _ o hr=>?_,fun _ hk=>hk⟩
      refine nm (α:=⟨f,df⟩) hr ?_
      obtain⟨G,X⟩:=T
      have eY:G k=some (.arr sz' [row] 0 ex):=hT (k,_) (by simp)
      simp only [fT,hx,eY,hc,hl,cJ,cR]
     ·cases h
    ·cases h
   ·cases h
  ·cases h
 |alloc cs =>
  simp only [dq] at h
  split at h
  ·rename_i k Nr
   split at h
   ·rename_i hk
    simp only [Option.some.injEq,Prod.mk.injEq] at h
    obtain⟨rfl,rfl,rfl⟩:=h
    refine⟨fun n o hr=>⟨fun hp=>?_,fun p hp=>by simp only [List.mem_singleton] at hp;subst hp;exact hk,fun T hb hT _=>?_⟩,fun _ h=>by simp [h]⟩
    ·cases ho:o.op<;>rw [ho] at hr hp<;>simp only [res] at hr<;>(repeat' split at hr)<;>(try cases hr)<;>cases hp
    ·have eY:T.get k=some .un:=hT (k,_) (by simp)
     have aQ:∃ e z,o.op=.alloc e/\b8 P e=some z/\cs=z.cells.toList.map a8:=by
      cases ho:o.op<;>rw [ho] at hr<;>simp only [res,eK] at hr<;>(repeat' split at hr)<;>(try cases hr)
      exact⟨_,_,rfl,by assumption,rfl⟩
     obtain⟨e,z,ho,hz,rfl⟩:=aQ
     have e1:cJ T [(k,some (.arr (z.cells.toList.map a8).length [z.cells.toList.map a8] 0 true))] false=T.set k (some (.arr (z.cells.toList.map a8).length [z.cells.toList.map a8] 0 true)):=by cases T;rfl
     rw [e1]
     refine fun F mm A g a w nx Q hF hS hA hn=>?_
     have aB:k < T.nx:=Nat.lt_of_lt_of_le (ju k (by simp)) hb
     exact ((Dh (P:=P) (n:=n) ho hz eY aB).ops fun c e=>by rw [ho] at e;cases e) F mm A g a w nx Q hF hS hA hn
   ·cases h
  ·cases h
 |box x =>
  have np:∀ o,res P.toTables o=some (.box x)->l8 o=true->d=.none_:=fun o hr hp=>by
   cases o<;>simp only [res] at hr<;>(repeat' split at hr)<;>(try cases hr)<;>cases hp
  simp only [dq] at h
  split at h
  ·rename_i hc
   simp only [Option.some.injEq,Prod.mk.injEq] at h
   obtain⟨rfl,rfl,rfl⟩:=h
   refine⟨a_.zr np (fun p hp=>by cases hp) fun T hT hm o hr=>?_,fun _ hk=>hk⟩
   have hm:=hm rfl
   refine nm (α:=⟨f,df⟩) hr ?_
   obtain⟨G,X⟩:=T
   simp only at hm
   subst hm
   simp only [fT,hc,mP,lZ,cJ,cR]
   rfl
  ·cases h
 |call g aZ9=>cases h
 |_ =>
  first
  |exact hq (T:=S) rfl h
  |(simp only [dq,yA] at h;cases h)
end
end Go.Proofs.YtgjfgekaclobaaaGreat
