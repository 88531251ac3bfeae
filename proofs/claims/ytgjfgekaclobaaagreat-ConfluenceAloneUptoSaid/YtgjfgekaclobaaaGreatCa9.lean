import Derived.Test.YtgjfgekaclobaaaGreatCa8
namespace Go.Proofs.YtgjfgekaclobaaaGreat
set_option linter.unusedVariables false
set_option linter.unusedSimpArgs false
open Go.RowKit
structure Dt where
 F:List (Nat × Ob)
 W:List (Nat × Option Ob)
 m:Bool
def Dt.none_:Dt:=⟨[],[],false⟩
def fu (T:ad) (F:List (Nat × Ob)):Prop:=∀ p ∈ F,T.get p.1=some p.2
def dw (G:Nat->Option Ob):List (Nat × Option Ob)->Nat->Option Ob
 |[]=>G
 |p::W=>a8 (dw G W) p.1 p.2
def AE:List (Nat × Option Ob)->Bool->Nat
 |_::_::_::_,true=>16
 |_,true=>1
 |_,false=>0
theorem vT {W:List (Nat × Option Ob)}:AE W false=0:=by
 unfold AE;split<;>first|rfl|(rename_i h;cases h)|simp_all
def cY (T:ad) (W:List (Nat × Option Ob)) (m:Bool):ad:=match T,m with|⟨G,x⟩,true=>⟨dw G W,x+AE W true⟩|⟨G,x⟩,false=>⟨dw G W,x⟩
theorem dI {T:ad}{W:List (Nat × Option Ob)}{m:Bool}:cY T W m=⟨dw T.get W,T.nx+AE W m⟩:=by
 cases T;cases m
 ·rw [vT];rfl
 ·rfl
def y9 (l m:List Nat):Bool:=l.all fun x=>m.all fun y=>!Nat.beq x y
theorem AT {l m:List Nat}(h:y9 l m=true) {x y:Nat}(hx:x ∈ l) (hy:y ∈ m):x ≠ y:=by
 intro e
 subst e
 have:=List.all_eq_true.1 (List.all_eq_true.1 h x hx) x hy
 rw [Nat.beq_refl] at this
 cases this
def dj (x y:List Nat × List Nat × Bool):Bool:=y9 x.2.1 y.1 && y9 x.2.1 y.2.1 && y9 x.1 y.2.1 && !(x.2.2 && y.2.2)
def Dt.ns (d:Dt):List Nat × List Nat × Bool:=(d.F.map (·.1),d.W.map (·.1),d.m)
theorem gR {G:Nat->Option Ob}:∀ {W:List (Nat × Option Ob)}{k:Nat},k ∉ W.map (·.1)->dw G W k=G k
 |[],_,_=>rfl
 |p::W,k,h=>by
  simp only [List.map_cons,List.mem_cons,not_or] at h
  rw [dw,aC _ _ h.1,gR h.2]
theorem Qb {G:Nat->Option Ob}{W V:List (Nat × Option Ob)}(h:∀ x ∈ W.map (·.1),∀ y ∈ V.map (·.1),x ≠ y):dw (dw G W) V=dw (dw G V) W:=by
 have key:∀ {G H:Nat->Option Ob}{W:List (Nat × Option Ob)}{k:Nat},k ∈ W.map (·.1)->dw G W k=dw H W k:=by
  intro G H W k
  induction W with
  |nil=>intro h;cases h
  |cons p W ih =>
   intro h
   by_cases e:k=p.1
   ·subst e;rw [dw,dw,aq,aq]
   ·rw [dw,dw,aC _ _ e,aC _ _ e]
    exact ih ((List.mem_cons.1 h).resolve_left e)
 funext k
 by_cases h1:k ∈ V.map (·.1)
 ·have h2:k ∉ W.map (·.1):=fun hw=>h k hw k h1 rfl
  rw [gR h2]
  exact key h1
 ·rw [gR h1]
  by_cases h2:k ∈ W.map (·.1)
  ·exact key h2
  ·rw [gR h2,gR h2,gR h1]
section
variable {P:Program}{w0:World}{n B:Nat}{α aw:AA}{S S':ad}{r:AV}{ops:Array Oper}{D:Nat->Dt}
def nO:Op->Bool
 |.buildSlice ..=>false
 |o=>lX o
theorem rh {o:Op}(h:lX o=false):nO o=false:=by cases o<;>first|rfl|exact h
def nb (P:Program) (w0:World) (n:Nat) (ops:Array Oper) (B:Nat) (i:Nat) (d:Dt) (α:AA) (S:ad) (α1:AA) (S1:ad):Prop :=
 ∃ o,ops[i]?=some o/\(match o.dst with|some d=>Nat.blt d n|none=>true)=true/\(nO o.op=true->d=.none_)/\B<=S.nx/\fu S d.F/\S1=cY S d.W d.m /\
  ((∃ (j:Nat) (want:Bool) (b:Option Bool),o.guard=some (j,want)/\nU ops α j=some b/\b ≠ some want/\α1=α.put o.dst (.v undef)/\d=.none_) \/
   ((o.guard=none\/∃ j want,o.guard=some (j,want)/\nU ops α j=some (some want))/\∃ r,α1=α.put o.dst r/\∀ T,B<=T.nx->fu T d.F->(d.m=true->T.nx=S.nx)->ef P w0 n o (α.only (cB o)) T r (cY T d.W d.m)))
theorem cG:cY S [] false=S:=by cases S;rfl
theorem nb.shape {i:Nat}{d:Dt}{α1:AA}{S1:ad}(h:nb P w0 n ops B i d α S α1 S1):∃ o a,ops[i]?=some o/\α1=α.put o.dst a/\fu S d.F/\S1=cY S d.W d.m/\B<=S.nx:=by
 obtain⟨o,h1,_,_,hB,h2,h3,h⟩:=h
 rcases h with ⟨j,want,b,hg,hy,a_,rfl,_⟩|⟨hg,r,rfl,_⟩
 ·exact⟨o,_,h1,rfl,h2,h3,hB⟩
 ·exact⟨o,r,h1,rfl,h2,h3,hB⟩
theorem nb.anyS {i:Nat}{d:Dt}{α1:AA}{S1 T:ad}(h:nb P w0 n ops B i d α S α1 S1) (hB:B<=T.nx) (hT:fu T d.F) (hm:d.m=true->T.nx=S.nx):nb P w0 n ops B i d α T α1 (cY T d.W d.m):=by
 obtain⟨o,h1,hn,hp,_,h2,h3,h⟩:=h
 refine⟨o,h1,hn,hp,hB,hT,rfl,?_⟩
 rcases h with h|⟨hg,r,h4,h5⟩
 ·exact .inl h
 ·exact .inr ⟨hg,r,h4,fun T' hb ht hm'=>h5 T' hb ht fun e=>(hm' e).trans (hm e)⟩
theorem nb.frame {i:Nat}{dt:Dt}{α1:AA}{S1:ad}{d:Option Tmp}{a:AV}(h:nb P w0 n ops B i dt α S α1 S1) (hd:∀ o,ops[i]?=some o->∀ e,d=some e->e ∉ o.looksAt ops/\o.dst ≠ some e):nb P w0 n ops B i dt (α.put d a) S (α1.put d a) S1:=by
 obtain⟨o,hi,hn,hp,h0,h8,h9,h⟩:=h
 have h1:∀ e,d=some e->e ∉ cB o:=fun e he hm=>(hd o hi e he).1 (p_ hm)
 have h2:∀ j want,o.guard=some (j,want)->∀ e,d=some e->(ops[j]?).bind (·.dst) ≠ some e:=by
  intro j want hg e he h3
  refine (hd o hi e he).1 (List.mem_append.2 (.inr ?_))
  rw [hg]
  simp only
  rw [h3]
  simp
 have hc:∀ x,(α.put o.dst x).put d a=(α.put d a).put o.dst x:=fun x=>(put_comm fun t ht e=>(hd o hi t ht).2 e).symm
 refine⟨o,hi,hn,hp,h0,h8,h9,?_⟩
 rcases h with ⟨j,want,b,hg,hy,a_,rfl,h7⟩|⟨hg,r,rfl,h3⟩
 ·exact .inl ⟨j,want,b,hg,by rw [mq (h2 j want hg)];exact hy,a_,hc _,h7⟩
 ·refine .inr ⟨?_,r,hc _,by rw [mw h1];exact h3⟩
  rcases hg with hg|⟨j,want,hg,hy⟩
  ·exact .inl hg
  ·exact .inr ⟨j,want,hg,by rw [mq (h2 j want hg)];exact hy⟩
theorem nb.swap {i j:Nat}{di mu:Dt}{oi oj:Oper}{α1 mW:AA}{S1 S2:ad}(hi:ops[i]?=some oi) (hj:ops[j]?=some oj) (qG:oi.apart ops oj=true) (hd:dj di.ns mu.ns=true) (h:nb P w0 n ops B i di α S α1 S1) (k:nb P w0 n ops B j mu α1 S1 mW S2) :
  ∃ sg x_,nb P w0 n ops B j mu α S sg x_/\nb P w0 n ops B i di sg x_ mW S2:=by
 obtain⟨e1,e2,e3⟩:=Oper.apart_spec qG
 obtain⟨mY,a,fA,rfl,l7,rfl,hBi⟩:=h.shape
 obtain rfl:mY=oi:=by rw [hi] at fA;exact (oJ_ fA).symm
 obtain⟨oZ,b,gp,rfl,haj,rfl,hBj⟩:=k.shape
 obtain rfl:oZ=oj:=by rw [hj] at gp;exact (oJ_ gp).symm
 simp only [dj,Dt.ns,Bool.and_eq_true,Bool.not_eq_true',Bool.and_eq_false_iff] at hd
 obtain⟨⟨⟨d1,d2⟩,d3⟩,d4⟩:=hd
 have ux:fu S mu.F:=fun p hp=>by
  have:=haj p hp
  rw [dI] at this
  rw [<-this]
  exact (gR fun hm=>AT d1 hm (List.mem_map.2 ⟨p,hp,rfl⟩) rfl).symm
 have De:fu (cY S mu.W mu.m) di.F:=fun p hp=>by
  rw [<-l7 p hp,dI]
  exact gR fun hm=>AT d3 (List.mem_map.2 ⟨p,hp,rfl⟩) hm rfl
 have alA:cY (cY S mu.W mu.m) di.W di.m=cY (cY S di.W di.m) mu.W mu.m:=by
  simp only [dI]
  congr 1
  ·exact Qb fun x hx y hy e=>AT d2 hy hx e.symm
  ·omega
 have kj:nb P w0 n ops B j mu α S (α.put oZ.dst b) (cY S mu.W mu.m):=by
  obtain⟨o,ho,hn,hp,q0,q1,q2,hk⟩:=k
  obtain rfl:o=oZ:=by rw [hj] at ho;exact (oJ_ ho).symm
  have h1:∀ e,mY.dst=some e->e ∉ cB o:=fun e he hm=>e1 e he (p_ hm)
  have h2:∀ q want,o.guard=some (q,want)->∀ e,mY.dst=some e->(ops[q]?).bind (·.dst) ≠ some e:=by
   intro q want hg e he h3
   refine e1 e he (List.mem_append.2 (.inr ?_))
   rw [hg]
   simp only
   rw [h3]
   simp
  have inj:∀ x y:AV,(α.put mY.dst a).put o.dst x=(α.put mY.dst a).put o.dst y->α.put o.dst x=α.put o.dst y:=by
   intro x y jG
   cases oD:o.dst with
   |none=>rfl
   |some d =>
    rw [oD] at jG
    have:x=y:=by
     have h3:=congrArg (fun z:AA=>z.tm d) jG
     simpa [AA.put,aq] using h3
    rw [this]
  refine⟨o,ho,hn,hp,hBi,ux,rfl,?_⟩
  rcases hk with ⟨q,want,c,hg,hy,a_,h3,h4⟩|⟨hg,r,h3,h4⟩
  ·exact .inl ⟨q,want,c,hg,by rw [<-mq (h2 q want hg)];exact hy,a_,inj _ _ h3,h4⟩
  ·rw [mw h1] at h4
   refine .inr ⟨?_,r,inj _ _ h3,fun T hb ht hm=>h4 T hb ht fun e=>?_⟩
   ·rcases hg with hg|⟨q,want,hg,hy⟩
    ·exact .inl hg
    ·exact .inr ⟨q,want,hg,by rw [<-mq (h2 q want hg)];exact hy⟩
   ·rw [hm e,dI]
    have:di.m=false:=d4.resolve_right (by rw [e];simp)
    simp [this,vT]
 have ki:=(h.anyS (by rw [dI];exact Nat.le_trans hBi (Nat.le_add_right _ _)) De (fun e=>by
   rw [dI]
   have:mu.m=false:=d4.resolve_left (by rw [e];simp)
   simp [this,vT])).frame (d:=oZ.dst) (a:=b) fun o ho e he=>by
  obtain rfl:o=mY:=by rw [hi] at ho;exact (oJ_ ho).symm
  exact⟨e3 e he,fun h3=>e2 e h3 he⟩
 rw [alA,show (α.put mY.dst a).put oZ.dst b=(α.put mY.dst a).put oZ.dst b from rfl] at ki
 exact⟨_,_,kj,ki⟩
inductive iQ (P:Program) (w0:World) (n:Nat) (ops:Array Oper) (B:Nat) (D:Nat->Dt):List Nat->AA->ad->AA->ad->Prop where
 |nil (α:AA) (S:ad):iQ P w0 n ops B D [] α S α S
 |cons {i:Nat}{rest:List Nat}{α α1 aw:AA}{S S1 S':ad}(h:nb P w0 n ops B i (D i) α S α1 S1) (t:iQ P w0 n ops B D rest α1 S1 aw S'):iQ P w0 n ops B D (i::rest) α S aw S'
def okD (ops:Array Oper) (D:Nat->Dt) (i j:Nat):Prop:=∃ oi oj,ops[i]?=some oi/\ops[j]?=some oj/\oi.apart ops oj=true/\dj (D i).ns (D j).ns=true
theorem iQ.front {j:Nat}:∀ {C1 C2:List Nat}{α aw:AA}{S S':ad},(∀ x ∈ C1,okD ops D x j)->iQ P w0 n ops B D (C1++j::C2) α S aw S'->iQ P w0 n ops B D (j::(C1++C2)) α S aw S'
 |[],C2,α,aw,S,S',_,h=>h
 |x::C1,C2,α,aw,S,S',hx,h=>by
  cases h with
  |@cons _ _ _ α1 _ _ S1 _ h t =>
   have t':=iQ.front (fun y hy=>hx y (by simp [hy])) t
   cases t' with
   |@cons _ _ _ mW _ _ S2 _ k t2 =>
    obtain⟨oi,oj,hi,hj,h1,h2⟩:=hx x (by simp)
    obtain⟨sg,x_,h3,h4⟩:=h.swap hi hj h1 h2 k
    exact .cons h3 (.cons h4 t2)
theorem iQ.perm:∀ {L C:List Nat}{α aw:AA}{S S':ad},C.Pairwise (· < ·)->L.Pairwise (fun y x=>x < y->okD ops D x y)->(∀ x,x ∈ L ↔ x ∈ C)->L.Nodup->iQ P w0 n ops B D C α S aw S'->iQ P w0 n ops B D L α S aw S'
 |[],C,α,aw,S,S',_,_,hm,_,h=>by
  have:C=[]:=by
   cases C with
   |nil=>rfl
   |cons x C=>have:=(hm x).2 (by simp);cases this
  subst this
  exact h
 |y::L,C,α,aw,S,S',hC,hL,hm,hn,h=>by
  obtain⟨C1,C2,rfl⟩:=List.append_of_mem ((hm y).1 (by simp))
  rw [List.pairwise_cons] at hL
  rw [List.nodup_cons] at hn
  rw [List.pairwise_append,List.pairwise_cons] at hC
  obtain⟨p1,⟨p2,p3⟩,p4⟩:=hC
  have iM:∀ x ∈ C1,x < y:=fun x hx=>p4 x hx y (by simp)
  have cg:∀ x ∈ C2,y < x:=p2
  have fp:∀ x,x ∈ L ↔ x ∈ C1++C2:=by
   intro x
   have h0:=hm x
   simp only [List.mem_cons,List.mem_append] at h0 ⊢
   constructor
   ·intro hx
    rcases h0.1 (.inr hx) with h1|h1|h1
    ·exact .inl h1
    ·subst h1;exact absurd hx hn.1
    ·exact .inr h1
   ·intro hx
    have a_:x ≠ y:=by
     rintro rfl
     rcases hx with hx|hx
     ·exact absurd (iM x hx) (Nat.lt_irrefl _)
     ·exact absurd (cg x hx) (Nat.lt_irrefl _)
    rcases h0.2 (hx.elim .inl fun h=>.inr (.inr h)) with h1|h1
    ·exact absurd h1 a_
    ·exact h1
  have hf:=iQ.front (fun x hx=>hL.1 x ((fp x).2 (by simp [hx])) (iM x hx)) h
  cases hf with
  |cons h1 h2 =>
   refine .cons h1 (iQ.perm (L:=L) ?_ hL.2 fp hn.2 h2)
   rw [List.pairwise_append]
   exact⟨p1,p3,fun a ha b hb=>p4 a ha b (by simp [hb])⟩
theorem iQ.yb:∀ {L:List Nat}{α aw:AA}{S S':ad},iQ P w0 n ops B D L α S aw S'->qd P w0 n ops L α S aw S'
 |[],_,_,_,_,.nil α S=>fun F m A g a w Q hF hS hA hQ=>hQ a w g hS hA (Ext.refl ..)
 |i::rest,α,aw,S,S',.cons (α1:=α1) (S1:=S1) h t=>by
  have ih:=iQ.yb t
  obtain⟨o,hi,hd,hp,hB,ux,eT,h⟩:=h
  rcases h with ⟨j,want,b,hg,hy,a_,rfl,Ea⟩|⟨hg,r,rfl,h3⟩
  ·have e:S1=S:=by rw [eT,Ea];exact cG
   subst e
   intro F m A g a w Q hF hS hA hQ
   have Dy:¬ Region.wanted o (yielded ops a.tmps)=true:=by simp [Region.wanted,hg,oe hA hy,a_]
   simp only [wpOpsIn,hi]
   rw [if_neg Dy]
   exact⟨fun f _=>hF.1 f,ih F m A g _ w Q hF hS (j9 hA hd .v) hQ⟩
  ·intro F m A g a w Q hF hS hA hQ
   have hw:Region.wanted o (yielded ops a.tmps)=true:=by
    rcases hg with hg|⟨j,want,hg,hy⟩
    ·simp [Region.wanted,hg]
    ·simp [Region.wanted,hg,oe hA hy]
   simp only [wpOpsIn,hi]
   rw [if_pos hw]
   have h4:=h3 S hB ux (fun _=>rfl)
   rw [<-eT] at h4
   refine⟨fun f _=>hF.1 f,h4 F m A g a w _ Q hF hS (hA.only _) fun v w' g' hr eR hE=>?_⟩
   exact ih F m A g' _ w' Q hF eR (j9 (hA.later hE.toLater) hd hr) fun a' jX tO h1 h2 h3=>hQ a' jX tO h1 h2 (hE.trans h3)
def sC (ops:Array Oper) (m:List Nat):Nat->List (Nat × Nat)
 |0=>[]
 |y+1=>((List.range y).filter fun x=>!(m.getD y 0).testBit x).map (fun x=>(x,y))++sC ops m y
def qq (ops:Array Oper) (i:Nat):Bool:=match ops[i]? with|some o=>nO o.op|none=>true
def apB (ops:Array Oper) (x y:Nat):Bool:=match ops[x]?,ops[y]? with|some a,some b=>a.apart ops b|_,_=>false
def Wq (ops:Array Oper):List (Nat × Nat):=sC ops (beforeL [] ops.toList) ops.size
def uS (ops:Array Oper):List (Nat × Nat):=(Wq ops).filter fun p=>!qq ops p.1 && !qq ops p.2
def o5 (ops:Array Oper):Bool:=oa 0 ops.toList && (Wq ops).all fun p=>apB ops p.1 p.2
theorem yd {m:List Nat}:∀ {k x y:Nat},y < k->x < y->(m.getD y 0).testBit x=false->(x,y) ∈ sC ops m k
 |0,x,y,h,_,_=>by omega
 |k+1,x,y,h,hx,hb=>by
  simp only [sC,List.mem_append]
  by_cases c:y=k
  ·subst c
   refine .inl (List.mem_map.2 ⟨x,List.mem_filter.2 ⟨by simpa using hx,by simp only [hb];rfl⟩,rfl⟩)
  ·exact .inr (yd (by omega) hx hb)
theorem Ev {y:List Nat × List Nat × Bool}:dj Dt.none_.ns y=true:=by simp [dj,Dt.none_,Dt.ns,y9]
theorem Ew {x:List Nat × List Nat × Bool}:dj x Dt.none_.ns=true:=by simp [dj,Dt.none_,Dt.ns,y9]
theorem iQ.B7:∀ {L:List Nat}{α aw:AA}{S S':ad},iQ P w0 n ops B D L α S aw S'->∀ i ∈ L,qq ops i=true->D i=.none_
 |_,_,_,_,_,.nil ..,i,hi,_=>by cases hi
 |_,_,_,_,_,.cons h t,i,hi,hp=>by
  rcases List.mem_cons.1 hi with rfl|hi
  ·obtain⟨o,h1,_,h2,_⟩:=h
   simp only [qq,h1] at hp
   exact h2 hp
  ·exact iQ.B7 t i hi hp
theorem cu.acW {rd:Bool}{id:Nat}(hm:P.follows .mixedOrders=true) (lN:o5 ops=true) (hv:∀ p ∈ uS ops,dj (D p.1).ns (D p.2).ns=true) (h:iQ P w0 n ops B D (List.range ops.size) α S aw S'):cu P w0 rd n (.region id ops true) α S .normal aw S':=by
 intro F m A g a w hF hR hS hA
 simp only [o5,Bool.and_eq_true] at lN
 obtain⟨he,hp⟩:=lN
 refine wpIn_region_draw fun t=>?_
 simp only [Region.schedule,hm,Bool.true_or,if_true]
 have hd:vG ops (Array.replicate ops.size false):=⟨by simp,fun y x hy=>by
  simp only [Array.getD_eq_getD_getElem?,Array.getElem?_replicate] at hy
  split at hy<;>simp at hy⟩
 obtain⟨f1,f2,f3,f4⟩:=oO he ops.size t _ hd
 have me:∀ x,x ∈ Region.linearise .any ops t ↔ x ∈ List.range ops.size:=by
  intro x
  refine⟨fun hx=>by simpa using (f1 x hx).1,fun hx=>?_⟩
  have hx:x < ops.size:=by simpa using hx
  by_cases c:x ∈ Region.linearise .any ops t
  ·exact c
  ·exfalso
   have hl:=f4 ⟨x,hx,by simp [Array.getD_eq_getD_getElem?,Array.getElem?_replicate,hx],c⟩
   have o9:(x::Region.linearise.go .any ops ops.size t (Array.replicate ops.size false) []).Nodup:=by
    rw [List.nodup_cons];exact⟨c,f2⟩
   have hlen:=yc (x::Region.linearise.go .any ops ops.size t (Array.replicate ops.size false) []) o9 ops.size (fun y hy=>by
    rcases List.mem_cons.1 hy with rfl|hy
    ·exact hx
    ·exact (f1 y hy).1)
   rw [List.length_cons,hl] at hlen
   omega
 have hL:(Region.linearise .any ops t).Pairwise (fun y x=>x < y->okD ops D x y):=by
  refine List.Pairwise.imp_of_mem ?_ f3
  intro y x hy hx hb jG
  have fp:=yd (ops:=ops) (f1 y hy).1 jG hb
  have qG:=List.all_eq_true.1 hp _ fp
  unfold apB at qG
  split at qG
  ·rename_i oi oj hi hj
   refine⟨oi,oj,hi,hj,qG,?_⟩
   have Jj:x ∈ List.range ops.size:=(me x).1 hx
   have Vs:y ∈ List.range ops.size:=(me y).1 hy
   cases Jm:qq ops x with
   |true=>rw [h.B7 x Jj Jm];exact Ev
   |false =>
    cases Jn:qq ops y with
    |true=>rw [h.B7 y Vs Jn];exact Ew
    |false=>exact hv (x,y) (List.mem_filter.2 ⟨fp,by simp [Jm,Jn]⟩)
  ·cases qG
 have hC:(List.range ops.size).Pairwise (· < ·):=List.pairwise_lt_range
 obtain⟨hE,eT⟩:=hS.drew
 have eT:St w0 A g S { w with drawn:=w.drawn+1 }:=eT
 refine (iQ.perm hC hL me f2 h).yb F m A g a _ _ hF eT (hA.later hE.toLater) fun a' w' g' h1 h2 h3=>⟨rfl,g',h1,h2,hE.trans h3⟩
end
def bc (P:Program) (w0:World) (B:Nat) (q:dp) (α:AA) (S:ad) (r:AV) (d:Dt):Prop :=
 ∀ (n:Nat) (o:Oper),res P.toTables o.op=some q->(nO o.op=true->d=.none_)/\fu S d.F/\∀ T,B<=T.nx->fu T d.F->(d.m=true->T.nx=S.nx)->ef P w0 n o (α.only (cB o)) T r (cY T d.W d.m)
def CP:dp->Bool
 |.mv _|.pick ..|.build ..|.rows ..|.not _|.yH ..|.field ..|.extract ..|.Fv ..|.yI _=>true
 |_=>false
def dq (q:dp) (f:Nat->AV) (S:ad) (rs:List Nat):Option (AV × Dt × List Nat) :=
 match q with
 |.load k x=>match x.ev f with
  |.ip row=>match oB k row 0 with
   |some a=>some (a,⟨[],[],false⟩,rs)
   |none=>none
  |.pt b sz i j=>match S.get b with
   |some (.arr sz' rows fz ex)=>match kX k S (.pt b sz i j) with
    |some a=>some (a,⟨[(b,.arr sz' rows fz ex)],[],false⟩,rs)
    |none=>none
   |_=>none
  |_=>none
 |.store n x b=>match b.ev f,x.ev f with
  |bv,.pt k sz 0 j=>match S.get k with
   |some (.arr sz' [row] 0 ex)=>match Nat.beq sz sz' && (aP bv).all bQ && Nat.beq n (aP bv).length with
    |true=>match Nat.ble (j+(aP bv).length) row.length with
     |true=>some (.v undef,⟨[(k,.arr sz' [row] 0 ex)],[(k,some (.arr sz [lJ row j (aP bv)] 0 ex))],false⟩,rs)
     |false=>none
    |false=>none
   |_=>none
  |_,_=>none
 |.alloc cs=>match rs with
  |k::rs=>match S.get k with
   |some .un=>some (.pt k cs.length 0 0,⟨[(k,.un)],[(k,some (.arr cs.length [cs] 0 true))],false⟩,rs)
   |_=>none
  |[]=>none
 |.box x=>match (aP (x.ev f)).all bQ with
  |true=>some (.pt S.nx (aP (x.ev f)).length 0 0,⟨[],[(S.nx,some (.arr (aP (x.ev f)).length [aP (x.ev f)] 0 true))],true⟩,rs)
  |false=>none
 |.call ..=>none
 |q=>match CP q with
  |true=>match iJ q f S with
   |some (r,_)=>some (r,⟨[],[],false⟩,rs)
   |none=>none
  |false=>none
section
variable {P:Program}{w0:World}{n B:Nat}{o:Oper}{α:AA}{S S':ad}{r:AV}{q:dp}{d:Dt}{rs nT:List Nat}
theorem F7 {f:Nat->AV}(hp:CP q=true) (h:iJ q f S=some (r,S')) (T:ad):iJ q f T=some (r,T):=by
 have e:∀ {a:AV}{X Y:ad},some (a,X)=some (r,Y)->a=r:=fun h=>by injection h with h;injection h
 cases q<;>first|(exfalso;cases hp;done)|skip
 all_goals
  simp only [iJ] at h ⊢
  repeat' split at h
  all_goals first
   |(cases h;done)
   |(obtain rfl:=e h;simp only [*];done)
   |(obtain rfl:=e h;rfl)
theorem bc.Dx (h1:∀ o,res P.toTables o=some q->nO o=true->d=.none_) (h2:fu S d.F) (h:∀ T,fu T d.F->(d.m=true->T.nx=S.nx)->∀ o,res P.toTables o=some q->aX P w0 o α T (rB r (cY T d.W d.m))):bc P w0 B q α S r d:=by
 intro n o hr
 refine⟨h1 _ hr,h2,fun T _ hT hm=>?_⟩
 obtain⟨r',S1,h4,rfl,rfl⟩:=kL (n:=n) (h T hT hm o.op hr)
 exact h4
theorem Ih {e:TypeId}{z:Value}{k:Nat}(ho:o.op=.alloc e) (hz:cU P e=some z) (hk:S.get k=some .un) (aA:k < S.nx):aS P w0 n o α S (.pt k (z.cells.toList.map bJ).length 0 0) (S.set k (some (.arr (z.cells.toList.map bJ).length [z.cells.toList.map bJ] 0 true))):=by
 intro A g a w hS hA
 obtain⟨cs,zk⟩:∃ cs,z.cells.toList.map bJ=cs:=⟨_,rfl⟩
 have fE:=nM.bJ (g:=g) (w:=w) z.cells
 rw [zk] at fE ⊢
 have wi:¬ g.al k:=fun h=>(hS.bR k _ hk h).2.2
 have ld:St w0 A g (S.set k (some (.arr cs.length [cs] 0 true))) w:=hS.forget (Nat.le_refl _) fun j p hj ha=>by
  have hj:a8 S.get k (some (.arr cs.length [cs] 0 true)) j=some p:=hj
  rwa [aC _ _ (fun e=>wi (by rw [<-e];exact ha))] at hj
 obtain⟨hE,cQ⟩:=ld.newAt (.cells z.cells e) wi aA 1 (fun J hJ=>by
  have hJ:a8 S.get k (some (.arr cs.length [cs] 0 true)) k=some (.fo J):=hJ
  rw [aq] at hJ
  cases hJ) (fun ob iI hL=>by
  have iI:a8 S.get k (some (.arr cs.length [cs] 0 true)) k=some ob:=iI
  rw [aq] at iI
  obtain rfl:=oJ_ iI
  refine⟨z.cells,e,c_,by rw [fE.1];simp,by simp,fun _=>rfl,fun i row hr=>?_,Nat.zero_le _,fun q=>⟨fun hf=>?_,fun hf=>by simp at hf⟩⟩
  ·cases i with
   |succ i=>simp at hr
   |zero =>
    simp at hr
    subst hr
    refine⟨rfl,fun j a ha=>?_⟩
    have hj:j < z.cells.size:=by rw [fE.1];exact (List.getElem?_eq_some_iff.1 ha).1
    exact⟨z.cells[j],by simp,(fE.2 j a _ ha (Array.getElem?_eq_getElem hj)).later hL⟩
  ·exact absurd (hS.cC _ _ hf) (by omega))
 have hp:=aH.pt (g:=g.new k w.heap.size 1) (w:=w.alloc (.cells z.cells e)) (k:=k) (sz:=cs.length) (i:=0) (j:=0) (.inr rfl)
 rw [show (g.new k w.heap.size 1).ob k=w.heap.size from aq _ _ _] at hp
 refine⟨_,_,_,.inl ?_,by simpa using hp,cQ,hE⟩
 simp [execOp,ho,Instr.alloc,kG hz,newVar,newRow]
theorem zV {f:Nat->AV}{df:List DE}(jb:∀ k ∈ rs,k < B) (h:dq q f S rs=some (r,d,nT)):bc P w0 B q ⟨f,df⟩ S r d/\∀ k ∈ nT,k ∈ rs:=by
 have hq:∀ {T:ad},CP q=true->(match iJ q f S with|some (r,_)=>some (r,(⟨[],[],false⟩:Dt),rs)|none=>none)=some (r,d,nT)->bc P w0 B q ⟨f,df⟩ S r d/\∀ k ∈ nT,k ∈ rs:=by
  intro T hp h
  split at h
  ·rename_i a X hx
   simp only [oI_,pI_] at h
   obtain⟨rfl,rfl,rfl⟩:=h
   exact⟨bc.Dx (fun _ _ _=>rfl) (fun p hp=>by cases hp) fun T _ _ o hr=>by
    rw [show cY T [] false=T from cG]
    exact pJ (α:=⟨f,df⟩) hr (F7 hp hx T),fun _ hk=>hk⟩
  ·cases h
 have nP:∀ {A:Prop},(∀ o,res P.toTables o=some q->nO o=true->A)->∀ o,res P.toTables o=some q->nO o=true->A:=fun h=>h
 cases q with
 |load k x =>
  have np:∀ o,res P.toTables o=some (.load k x)->nO o=true->d=.none_:=fun o hr hp=>by
   cases o<;>simp only [res] at hr<;>(repeat' split at hr)<;>(try cases hr)<;>cases hp
  have fin:∀ {a:AV}{F:List (Nat × Ob)},(∀ T,fu T F->kX k T (x.ev f)=some a)->fu S F->some (a,(⟨F,[],false⟩:Dt),rs)=some (r,d,nT)->bc P w0 B (.load k x) ⟨f,df⟩ S r d/\∀ k ∈ nT,k ∈ rs:=by
   intro a F h1 h2 h
   simp only [oI_,pI_] at h
   obtain⟨rfl,rfl,rfl⟩:=h
   refine⟨bc.Dx np h2 fun T hT _ o hr=>?_,fun _ hk=>hk⟩
   rw [show cY T [] false=T from cG]
   exact pJ (α:=⟨f,df⟩) hr (by simp only [iJ,h1 T hT])
  simp only [dq] at h
  split at h
  ·rename_i row hx
   split at h
   ·rename_i a ha
    exact fin (fun T _=>by rw [hx];exact ha) (fun p hp=>by cases hp) h
   ·cases h
  ·rename_i b sz i j hx
   split at h
   ·rename_i sz' rows fz ex hb
    split at h
    ·rename_i a ha
     refine fin (fun T hT=>?_) (fun p hp=>by simp only [List.mem_singleton] at hp;subst hp;exact hb) h
     have wY:T.get b=some (.arr sz' rows fz ex):=hT (b,_) (by simp)
     rw [hx]
     simp only [kX,hb,wY] at ha ⊢
     exact ha
    ·cases h
   ·cases h
  ·cases h
 |store m x b =>
  have np:∀ o,res P.toTables o=some (.store m x b)->nO o=true->d=.none_:=fun o hr hp=>by
   cases o<;>simp only [res] at hr<;>(repeat' split at hr)<;>(try cases hr)<;>cases hp
  simp only [dq] at h
  split at h
  ·rename_i bv k sz j hx
   split at h
   ·rename_i sz' row ex hk
    split at h
    ·rename_i hc
     split at h
     ·rename_i hl
      simp only [oI_,pI_] at h
      obtain⟨rfl,rfl,rfl⟩:=h
      refine⟨bc.Dx np (fun p hp=>by simp only [List.mem_singleton] at hp;subst hp;exact hk) fun T hT _ o hr=>?_,fun _ hk=>hk⟩
      refine pJ (α:=⟨f,df⟩) hr ?_
      obtain⟨G,X⟩:=T
      have fy:G k=some (.arr sz' [row] 0 ex):=hT (k,_) (by simp)
      simp only [iJ,hx,fy,hc,hl,cY,dw]
     ·cases h
    ·cases h
   ·cases h
  ·cases h
 |alloc cs =>
  simp only [dq] at h
  split at h
  ·rename_i k Vy
   split at h
   ·rename_i hk
    simp only [oI_,pI_] at h
    obtain⟨rfl,rfl,rfl⟩:=h
    refine⟨fun n o hr=>⟨fun hp=>?_,fun p hp=>by simp only [List.mem_singleton] at hp;subst hp;exact hk,fun T hb hT _=>?_⟩,fun _ h=>by simp [h]⟩
    ·cases ho:o.op<;>rw [ho] at hr hp<;>simp only [res] at hr<;>(repeat' split at hr)<;>(try cases hr)<;>cases hp
    ·have fy:T.get k=some .un:=hT (k,_) (by simp)
     have ba:∃ e z,o.op=.alloc e/\cU P e=some z/\cs=z.cells.toList.map bJ:=by
      cases ho:o.op<;>rw [ho] at hr<;>simp only [res,gn] at hr<;>(repeat' split at hr)<;>(try cases hr)
      exact⟨_,_,rfl,by assumption,rfl⟩
     obtain⟨e,z,ho,hz,rfl⟩:=ba
     have e1:cY T [(k,some (.arr (z.cells.toList.map bJ).length [z.cells.toList.map bJ] 0 true))] false=T.set k (some (.arr (z.cells.toList.map bJ).length [z.cells.toList.map bJ] 0 true)):=by cases T;rfl
     rw [e1]
     refine fun F mm A g a w nx Q hF hS hA hn=>?_
     have aA:k < T.nx:=Nat.lt_of_lt_of_le (jb k (by simp)) hb
     exact ((Ih (P:=P) (n:=n) ho hz fy aA).ops fun c e=>by rw [ho] at e;cases e) F mm A g a w nx Q hF hS hA hn
   ·cases h
  ·cases h
 |box x =>
  have np:∀ o,res P.toTables o=some (.box x)->nO o=true->d=.none_:=fun o hr hp=>by
   cases o<;>simp only [res] at hr<;>(repeat' split at hr)<;>(try cases hr)<;>cases hp
  simp only [dq] at h
  split at h
  ·rename_i hc
   simp only [oI_,pI_] at h
   obtain⟨rfl,rfl,rfl⟩:=h
   refine⟨bc.Dx np (fun p hp=>by cases hp) fun T hT hm o hr=>?_,fun _ hk=>hk⟩
   have hm:=hm rfl
   refine pJ (α:=⟨f,df⟩) hr ?_
   obtain⟨G,X⟩:=T
   simp only at hm
   subst hm
   simp only [iJ,hc,py,jh,cY,dw]
   rfl
  ·cases h
 |call g aZ9=>cases h
 |_ =>
  first
  |exact hq (T:=S) rfl h
  |(simp only [dq,CP] at h;cases h)
end
end Go.Proofs.YtgjfgekaclobaaaGreat
