import Derived.Test.YtgphljokbodciaaGreatS6
namespace Go.Proofs.YtgphljokbodciaaGreat
set_option linter.unusedVariables false
set_option linter.unusedSimpArgs false
open Go.RowKit
structure Dt where
 F:List (Nat × Ob)
 W:List (Nat × Option Ob)
 m:Bool
def Dt.none_:Dt:=⟨[],[],false⟩
def lr (T:ae) (F:List (Nat × Ob)):Prop:=∀ p ∈ F,T.get p.1=some p.2
def gQ (G:Nat->Option Ob):List (Nat × Option Ob)->Nat->Option Ob
 |[]=>G
 |p::W=>bP (gQ G W) p.1 p.2
def dQ (T:ae) (W:List (Nat × Option Ob)) (m:Bool):ae:=match T,m with|⟨G,x⟩,true=>⟨gQ G W,x+1⟩|⟨G,x⟩,false=>⟨gQ G W,x⟩
theorem dW {T:ae}{W:List (Nat × Option Ob)}{m:Bool}:dQ T W m=⟨gQ T.get W,T.nx+m.toNat⟩:=by cases T;cases m<;>rfl
def wX (l m:List Nat):Bool:=l.all fun x=>m.all fun y=>!Nat.beq x y
theorem yA {l m:List Nat}(h:wX l m=true) {x y:Nat}(hx:x ∈ l) (hy:y ∈ m):x ≠ y:=by
 intro e
 subst e
 have:=List.all_eq_true.1 (List.all_eq_true.1 h x hx) x hy
 rw [Nat.beq_refl] at this
 cases this
def dj (x y:List Nat × List Nat × Bool):Bool:=wX x.2.1 y.1 && wX x.2.1 y.2.1 && wX x.1 y.2.1 && !(x.2.2 && y.2.2)
def Dt.ns (d:Dt):List Nat × List Nat × Bool:=(d.F.map (·.1),d.W.map (·.1),d.m)
theorem jv {G:Nat->Option Ob}:∀ {W:List (Nat × Option Ob)}{k:Nat},k ∉ W.map (·.1)->gQ G W k=G k
 |[],_,_=>rfl
 |p::W,k,h=>by
  simp only [List.map_cons,List.mem_cons,not_or] at h
  rw [gQ,aN _ _ h.1,jv h.2]
theorem Mi {G:Nat->Option Ob}{W V:List (Nat × Option Ob)}(h:∀ x ∈ W.map (·.1),∀ y ∈ V.map (·.1),x ≠ y):gQ (gQ G W) V=gQ (gQ G V) W:=by
 have key:∀ {G H:Nat->Option Ob}{W:List (Nat × Option Ob)}{k:Nat},k ∈ W.map (·.1)->gQ G W k=gQ H W k:=by
  intro G H W k
  induction W with
  |nil=>intro h;cases h
  |cons p W ih =>
   intro h
   by_cases e:k=p.1
   ·subst e;rw [gQ,gQ,aG,aG]
   ·rw [gQ,gQ,aN _ _ e,aN _ _ e]
    exact ih ((List.mem_cons.1 h).resolve_left e)
 funext k
 by_cases h1:k ∈ V.map (·.1)
 ·have h2:k ∉ W.map (·.1):=fun hw=>h k hw k h1 rfl
  rw [jv h2]
  exact key h1
 ·rw [jv h1]
  by_cases h2:k ∈ W.map (·.1)
  ·exact key h2
  ·rw [jv h2,jv h2,jv h1]
section
variable {P:Program}{w0:World}{n B:Nat}{α aB:AA}{S S':ae}{r:AV}{ops:Array Oper}{D:Nat->Dt}
def ml (P:Program) (w0:World) (n:Nat) (ops:Array Oper) (B:Nat) (i:Nat) (d:Dt) (α:AA) (S:ae) (α1:AA) (S1:ae):Prop :=
 ∃ o,ops[i]?=some o/\(match o.dst with|some d=>Nat.blt d n|none=>true)=true/\(jt o.op=true->d=.none_)/\B<=S.nx/\lr S d.F/\S1=dQ S d.W d.m /\
  ((∃ (j:Nat) (want:Bool) (b:Option Bool),o.guard=some (j,want)/\m6 ops α j=some b/\b ≠ some want/\α1=α.put o.dst (.v undef)/\d=.none_) \/
   ((o.guard=none\/∃ j want,o.guard=some (j,want)/\m6 ops α j=some (some want))/\∃ r,α1=α.put o.dst r/\∀ T,B<=T.nx->lr T d.F->(d.m=true->T.nx=S.nx)->eB P w0 n o (α.only (dg o)) T r (dQ T d.W d.m)))
theorem cO:dQ S [] false=S:=by cases S;rfl
theorem ml.shape {i:Nat}{d:Dt}{α1:AA}{S1:ae}(h:ml P w0 n ops B i d α S α1 S1):∃ o a,ops[i]?=some o/\α1=α.put o.dst a/\lr S d.F/\S1=dQ S d.W d.m/\B<=S.nx:=by
 obtain⟨o,h1,_,_,hB,h2,h3,h⟩:=h
 rcases h with ⟨j,want,b,hg,hy,bH,rfl,_⟩|⟨hg,r,rfl,_⟩
 ·exact⟨o,_,h1,rfl,h2,h3,hB⟩
 ·exact⟨o,r,h1,rfl,h2,h3,hB⟩
theorem ml.anyS {i:Nat}{d:Dt}{α1:AA}{S1 T:ae}(h:ml P w0 n ops B i d α S α1 S1) (hB:B<=T.nx) (hT:lr T d.F) (hm:d.m=true->T.nx=S.nx):ml P w0 n ops B i d α T α1 (dQ T d.W d.m):=by
 obtain⟨o,h1,hn,hp,_,h2,h3,h⟩:=h
 refine⟨o,h1,hn,hp,hB,hT,rfl,?_⟩
 rcases h with h|⟨hg,r,h4,h5⟩
 ·exact .inl h
 ·exact .inr ⟨hg,r,h4,fun T' hb ht hm'=>h5 T' hb ht fun e=>(hm' e).trans (hm e)⟩
theorem ml.frame {i:Nat}{dt:Dt}{α1:AA}{S1:ae}{d:Option Tmp}{a:AV}(h:ml P w0 n ops B i dt α S α1 S1) (hd:∀ o,ops[i]?=some o->∀ e,d=some e->e ∉ o.looksAt ops/\o.dst ≠ some e):ml P w0 n ops B i dt (α.put d a) S (α1.put d a) S1:=by
 obtain⟨o,hi,hn,hp,h0,h8,h9,h⟩:=h
 have h1:∀ e,d=some e->e ∉ dg o:=fun e he hm=>(hd o hi e he).1 (o8 hm)
 have h2:∀ j want,o.guard=some (j,want)->∀ e,d=some e->(ops[j]?).bind (·.dst) ≠ some e:=by
  intro j want hg e he h3
  refine (hd o hi e he).1 (List.mem_append.2 (.inr ?_))
  rw [hg]
  simp only
  rw [h3]
  simp
 have hc:∀ x,(α.put o.dst x).put d a=(α.put d a).put o.dst x:=fun x=>(put_comm fun t ht e=>(hd o hi t ht).2 e).symm
 refine⟨o,hi,hn,hp,h0,h8,h9,?_⟩
 rcases h with ⟨j,want,b,hg,hy,bH,rfl,h7⟩|⟨hg,r,rfl,h3⟩
 ·exact .inl ⟨j,want,b,hg,by rw [lC (h2 j want hg)];exact hy,bH,hc _,h7⟩
 ·refine .inr ⟨?_,r,hc _,by rw [lE h1];exact h3⟩
  rcases hg with hg|⟨j,want,hg,hy⟩
  ·exact .inl hg
  ·exact .inr ⟨j,want,hg,by rw [lC (h2 j want hg)];exact hy⟩
theorem ml.swap {i j:Nat}{di lD:Dt}{oi oj:Oper}{α1 sb:AA}{S1 S2:ae}(hi:ops[i]?=some oi) (hj:ops[j]?=some oj) (kJ:oi.apart ops oj=true) (hd:dj di.ns lD.ns=true) (h:ml P w0 n ops B i di α S α1 S1) (k:ml P w0 n ops B j lD α1 S1 sb S2) :
  ∃ rA vG,ml P w0 n ops B j lD α S rA vG/\ml P w0 n ops B i di rA vG sb S2:=by
 obtain⟨e1,e2,e3⟩:=Oper.apart_spec kJ
 obtain⟨l7,a,gY,rfl,tH,rfl,hBi⟩:=h.shape
 obtain rfl:l7=oi:=by rw [hi] at gY;exact (Option.some.inj gY).symm
 obtain⟨oa,b,lZ,rfl,haj,rfl,hBj⟩:=k.shape
 obtain rfl:oa=oj:=by rw [hj] at lZ;exact (Option.some.inj lZ).symm
 simp only [dj,Dt.ns,Bool.and_eq_true,Bool.not_eq_true',Bool.and_eq_false_iff] at hd
 obtain⟨⟨⟨d1,d2⟩,d3⟩,d4⟩:=hd
 have uL:lr S lD.F:=fun p hp=>by
  have:=haj p hp
  rw [dW] at this
  rw [<-this]
  exact (jv fun hm=>yA d1 hm (List.mem_map.2 ⟨p,hp,rfl⟩) rfl).symm
 have AD:lr (dQ S lD.W lD.m) di.F:=fun p hp=>by
  rw [<-tH p hp,dW]
  exact jv fun hm=>yA d3 (List.mem_map.2 ⟨p,hp,rfl⟩) hm rfl
 have agx:dQ (dQ S lD.W lD.m) di.W di.m=dQ (dQ S di.W di.m) lD.W lD.m:=by
  simp only [dW]
  congr 1
  ·exact Mi fun x hx y hy e=>yA d2 hy hx e.symm
  ·omega
 have kj:ml P w0 n ops B j lD α S (α.put oa.dst b) (dQ S lD.W lD.m):=by
  obtain⟨o,ho,hn,hp,q0,q1,q2,hk⟩:=k
  obtain rfl:o=oa:=by rw [hj] at ho;exact (Option.some.inj ho).symm
  have h1:∀ e,l7.dst=some e->e ∉ dg o:=fun e he hm=>e1 e he (o8 hm)
  have h2:∀ q want,o.guard=some (q,want)->∀ e,l7.dst=some e->(ops[q]?).bind (·.dst) ≠ some e:=by
   intro q want hg e he h3
   refine e1 e he (List.mem_append.2 (.inr ?_))
   rw [hg]
   simp only
   rw [h3]
   simp
  have inj:∀ x y:AV,(α.put l7.dst a).put o.dst x=(α.put l7.dst a).put o.dst y->α.put o.dst x=α.put o.dst y:=by
   intro x y na
   cases n_:o.dst with
   |none=>rfl
   |some d =>
    rw [n_] at na
    have:x=y:=by
     have h3:=congrArg (fun z:AA=>z.tm d) na
     simpa [AA.put,aG] using h3
    rw [this]
  refine⟨o,ho,hn,hp,hBi,uL,rfl,?_⟩
  rcases hk with ⟨q,want,c,hg,hy,bH,h3,h4⟩|⟨hg,r,h3,h4⟩
  ·exact .inl ⟨q,want,c,hg,by rw [<-lC (h2 q want hg)];exact hy,bH,inj _ _ h3,h4⟩
  ·rw [lE h1] at h4
   refine .inr ⟨?_,r,inj _ _ h3,fun T hb ht hm=>h4 T hb ht fun e=>?_⟩
   ·rcases hg with hg|⟨q,want,hg,hy⟩
    ·exact .inl hg
    ·exact .inr ⟨q,want,hg,by rw [<-lC (h2 q want hg)];exact hy⟩
   ·rw [hm e,dW]
    have:di.m=false:=d4.resolve_right (by rw [e];simp)
    simp [this]
 have ki:=(h.anyS (by rw [dW];exact Nat.le_trans hBi (Nat.le_add_right _ _)) AD (fun e=>by
   rw [dW]
   have:lD.m=false:=d4.resolve_left (by rw [e];simp)
   simp [this])).frame (d:=oa.dst) (a:=b) fun o ho e he=>by
  obtain rfl:o=l7:=by rw [hi] at ho;exact (Option.some.inj ho).symm
  exact⟨e3 e he,fun h3=>e2 e h3 he⟩
 rw [agx,show (α.put l7.dst a).put oa.dst b=(α.put l7.dst a).put oa.dst b from rfl] at ki
 exact⟨_,_,kj,ki⟩
inductive im (P:Program) (w0:World) (n:Nat) (ops:Array Oper) (B:Nat) (D:Nat->Dt):List Nat->AA->ae->AA->ae->Prop where
 |nil (α:AA) (S:ae):im P w0 n ops B D [] α S α S
 |cons {i:Nat}{rest:List Nat}{α α1 aB:AA}{S S1 S':ae}(h:ml P w0 n ops B i (D i) α S α1 S1) (t:im P w0 n ops B D rest α1 S1 aB S'):im P w0 n ops B D (i::rest) α S aB S'
def Yy (ops:Array Oper) (D:Nat->Dt) (i j:Nat):Prop:=∃ oi oj,ops[i]?=some oi/\ops[j]?=some oj/\oi.apart ops oj=true/\dj (D i).ns (D j).ns=true
theorem im.front {j:Nat}:∀ {C1 C2:List Nat}{α aB:AA}{S S':ae},(∀ x ∈ C1,Yy ops D x j)->im P w0 n ops B D (C1++j::C2) α S aB S'->im P w0 n ops B D (j::(C1++C2)) α S aB S'
 |[],C2,α,aB,S,S',_,h=>h
 |x::C1,C2,α,aB,S,S',hx,h=>by
  cases h with
  |@cons _ _ _ α1 _ _ S1 _ h t =>
   have t':=im.front (fun y hy=>hx y (by simp [hy])) t
   cases t' with
   |@cons _ _ _ sb _ _ S2 _ k t2 =>
    obtain⟨oi,oj,hi,hj,h1,h2⟩:=hx x (by simp)
    obtain⟨rA,vG,h3,h4⟩:=h.swap hi hj h1 h2 k
    exact .cons h3 (.cons h4 t2)
theorem im.perm:∀ {L C:List Nat}{α aB:AA}{S S':ae},C.Pairwise (· < ·)->L.Pairwise (fun y x=>x < y->Yy ops D x y)->(∀ x,x ∈ L ↔ x ∈ C)->L.Nodup->im P w0 n ops B D C α S aB S'->im P w0 n ops B D L α S aB S'
 |[],C,α,aB,S,S',_,_,hm,_,h=>by
  have:C=[]:=by
   cases C with
   |nil=>rfl
   |cons x C=>have:=(hm x).2 (by simp);cases this
  subst this
  exact h
 |y::L,C,α,aB,S,S',hC,hL,hm,hn,h=>by
  obtain⟨C1,C2,rfl⟩:=List.append_of_mem ((hm y).1 (by simp))
  rw [List.pairwise_cons] at hL
  rw [List.nodup_cons] at hn
  rw [List.pairwise_append,List.pairwise_cons] at hC
  obtain⟨p1,⟨p2,p3⟩,p4⟩:=hC
  have fO:∀ x ∈ C1,x < y:=fun x hx=>p4 x hx y (by simp)
  have aQ:∀ x ∈ C2,y < x:=p2
  have eR:∀ x,x ∈ L ↔ x ∈ C1++C2:=by
   intro x
   have h0:=hm x
   simp only [List.mem_cons,List.mem_append] at h0 ⊢
   constructor
   ·intro hx
    rcases h0.1 (.inr hx) with h1|h1|h1
    ·exact .inl h1
    ·subst h1;exact absurd hx hn.1
    ·exact .inr h1
   ·intro hx
    have bH:x ≠ y:=by
     rintro rfl
     rcases hx with hx|hx
     ·exact absurd (fO x hx) (Nat.lt_irrefl _)
     ·exact absurd (aQ x hx) (Nat.lt_irrefl _)
    rcases h0.2 (hx.elim .inl fun h=>.inr (.inr h)) with h1|h1
    ·exact absurd h1 bH
    ·exact h1
  have hf:=im.front (fun x hx=>hL.1 x ((eR x).2 (by simp [hx])) (fO x hx)) h
  cases hf with
  |cons h1 h2 =>
   refine .cons h1 (im.perm (L:=L) ?_ hL.2 eR hn.2 h2)
   rw [List.pairwise_append]
   exact⟨p1,p3,fun a ha b hb=>p4 a ha b (by simp [hb])⟩
theorem im.vH:∀ {L:List Nat}{α aB:AA}{S S':ae},im P w0 n ops B D L α S aB S'->pB P w0 n ops L α S aB S'
 |[],_,_,_,_,.nil α S=>fun F m A g a w Q hF hS hA hQ=>hQ a w g hS hA (Ext.refl ..)
 |i::rest,α,aB,S,S',.cons (α1:=α1) (S1:=S1) h t=>by
  have ih:=im.vH t
  obtain⟨o,hi,hd,hp,hB,uL,fm,h⟩:=h
  rcases h with ⟨j,want,b,hg,hy,bH,rfl,vI⟩|⟨hg,r,rfl,h3⟩
  ·have e:S1=S:=by rw [fm,vI];exact cO
   subst e
   intro F m A g a w Q hF hS hA hQ
   have Bv:¬ Region.wanted o (yielded ops a.tmps)=true:=by simp [Region.wanted,hg,nK hA hy,bH]
   simp only [wpOpsIn,hi]
   rw [if_neg Bv]
   exact⟨fun f _=>hF.1 f,ih F m A g _ w Q hF hS (kN hA hd .v) hQ⟩
  ·intro F m A g a w Q hF hS hA hQ
   have hw:Region.wanted o (yielded ops a.tmps)=true:=by
    rcases hg with hg|⟨j,want,hg,hy⟩
    ·simp [Region.wanted,hg]
    ·simp [Region.wanted,hg,nK hA hy]
   simp only [wpOpsIn,hi]
   rw [if_pos hw]
   have h4:=h3 S hB uL (fun _=>rfl)
   rw [<-fm] at h4
   refine⟨fun f _=>hF.1 f,h4 F m A g a w _ Q hF hS (hA.only _) fun v w' g' hr iu hE=>?_⟩
   exact ih F m A g' _ w' Q hF iu (kN (hA.later hE.toLater) hd hr) fun a' rB tn h1 h2 h3=>hQ a' rB tn h1 h2 (hE.trans h3)
def sd (ops:Array Oper) (m:List Nat):Nat->List (Nat × Nat)
 |0=>[]
 |y+1=>((List.range y).filter fun x=>!(m.getD y 0).testBit x).map (fun x=>(x,y))++sd ops m y
def pA (ops:Array Oper) (i:Nat):Bool:=match ops[i]? with|some o=>jt o.op|none=>true
def Wn (ops:Array Oper) (x y:Nat):Bool:=match ops[x]?,ops[y]? with|some a,some b=>a.apart ops b|_,_=>false
def Tc (ops:Array Oper):List (Nat × Nat):=sd ops (beforeL [] ops.toList) ops.size
def uf (ops:Array Oper):List (Nat × Nat):=(Tc ops).filter fun p=>!pA ops p.1 && !pA ops p.2
def oI (ops:Array Oper):Bool:=nj 0 ops.toList && (Tc ops).all fun p=>Wn ops p.1 p.2
theorem vK {m:List Nat}:∀ {k x y:Nat},y < k->x < y->(m.getD y 0).testBit x=false->(x,y) ∈ sd ops m k
 |0,x,y,h,_,_=>by omega
 |k+1,x,y,h,hx,hb=>by
  simp only [sd,List.mem_append]
  by_cases c:y=k
  ·subst c
   refine .inl (List.mem_map.2 ⟨x,List.mem_filter.2 ⟨by simpa using hx,by simp only [hb];rfl⟩,rfl⟩)
  ·exact .inr (vK (by omega) hx hb)
theorem Bw {y:List Nat × List Nat × Bool}:dj Dt.none_.ns y=true:=by simp [dj,Dt.none_,Dt.ns,wX]
theorem Bx {x:List Nat × List Nat × Bool}:dj x Dt.none_.ns=true:=by simp [dj,Dt.none_,Dt.ns,wX]
theorem im.zd:∀ {L:List Nat}{α aB:AA}{S S':ae},im P w0 n ops B D L α S aB S'->∀ i ∈ L,pA ops i=true->D i=.none_
 |_,_,_,_,_,.nil ..,i,hi,_=>by cases hi
 |_,_,_,_,_,.cons h t,i,hi,hp=>by
  rcases List.mem_cons.1 hi with rfl|hi
  ·obtain⟨o,h1,_,h2,_⟩:=h
   simp only [pA,h1] at hp
   exact h2 hp
  ·exact im.zd t i hi hp
theorem cy.aeh {rd:Bool}{id:Nat}(hm:P.follows .mixedOrders=true) (od:oI ops=true) (hv:∀ p ∈ uf ops,dj (D p.1).ns (D p.2).ns=true) (h:im P w0 n ops B D (List.range ops.size) α S aB S'):cy P w0 rd n (.region id ops true) α S .normal aB S':=by
 intro F m A g a w hF hR hS hA
 simp only [oI,Bool.and_eq_true] at od
 obtain⟨he,hp⟩:=od
 refine wpIn_region_draw fun t=>?_
 simp only [Region.schedule,hm,Bool.true_or,if_true]
 have hd:ug ops (Array.replicate ops.size false):=⟨by simp,fun y x hy=>by
  simp only [Array.getD_eq_getD_getElem?,Array.getElem?_replicate] at hy
  split at hy<;>simp at hy⟩
 obtain⟨f1,f2,f3,f4⟩:=nL he ops.size t _ hd
 have lx:∀ x,x ∈ Region.linearise .any ops t ↔ x ∈ List.range ops.size:=by
  intro x
  refine⟨fun hx=>by simpa using (f1 x hx).1,fun hx=>?_⟩
  have hx:x < ops.size:=by simpa using hx
  by_cases c:x ∈ Region.linearise .any ops t
  ·exact c
  ·exfalso
   have hl:=f4 ⟨x,hx,by simp [Array.getD_eq_getD_getElem?,Array.getElem?_replicate,hx],c⟩
   have qC:(x::Region.linearise.go .any ops ops.size t (Array.replicate ops.size false) []).Nodup:=by
    rw [List.nodup_cons];exact⟨c,f2⟩
   have hlen:=vJ (x::Region.linearise.go .any ops ops.size t (Array.replicate ops.size false) []) qC ops.size (fun y hy=>by
    rcases List.mem_cons.1 hy with rfl|hy
    ·exact hx
    ·exact (f1 y hy).1)
   rw [List.length_cons,hl] at hlen
   omega
 have hL:(Region.linearise .any ops t).Pairwise (fun y x=>x < y->Yy ops D x y):=by
  refine List.Pairwise.imp_of_mem ?_ f3
  intro y x hy hx hb na
  have eR:=vK (ops:=ops) (f1 y hy).1 na hb
  have kJ:=List.all_eq_true.1 hp _ eR
  unfold Wn at kJ
  split at kJ
  ·rename_i oi oj hi hj
   refine⟨oi,oj,hi,hj,kJ,?_⟩
   have FZ:x ∈ List.range ops.size:=(lx x).1 hx
   have Rj:y ∈ List.range ops.size:=(lx y).1 hy
   cases F0:pA ops x with
   |true=>rw [h.zd x FZ F0];exact Bw
   |false =>
    cases F3:pA ops y with
    |true=>rw [h.zd y Rj F3];exact Bx
    |false=>exact hv (x,y) (List.mem_filter.2 ⟨eR,by simp [F0,F3]⟩)
  ·cases kJ
 have hC:(List.range ops.size).Pairwise (· < ·):=List.pairwise_lt_range
 obtain⟨hE,fm⟩:=hS.drew
 have fm:St w0 A g S { w with drawn:=w.drawn+1 }:=fm
 refine (im.perm hC hL lx f2 h).vH F m A g a _ _ hF fm (hA.later hE.toLater) fun a' w' g' h1 h2 h3=>⟨rfl,g',h1,h2,hE.trans h3⟩
end
def cj (P:Program) (w0:World) (B:Nat) (q:dz) (α:AA) (S:ae) (r:AV) (d:Dt):Prop :=
 ∀ (n:Nat) (o:Oper),res P.toTables o.op=some q->(jt o.op=true->d=.none_)/\lr S d.F/\∀ T,B<=T.nx->lr T d.F->(d.m=true->T.nx=S.nx)->eB P w0 n o (α.only (dg o)) T r (dQ T d.W d.m)
def Aq:dz->Bool
 |.mv _|.pick ..|.build ..|.rows ..|.not _|.wK ..|.field ..|.extract ..|.DW ..|.wL _=>true
 |_=>false
def dq (q:dz) (f:Nat->AV) (S:ae) (rs:List Nat):Option (AV × Dt × List Nat) :=
 match q with
 |.load k x=>match x.ev f with
  |.ip row=>match rf k row 0 with
   |some a=>some (a,⟨[],[],false⟩,rs)
   |none=>none
  |.pt b sz i j=>match S.get b with
   |some (.arr sz' rows fz ex)=>match lB k S (.pt b sz i j) with
    |some a=>some (a,⟨[(b,.arr sz' rows fz ex)],[],false⟩,rs)
    |none=>none
   |_=>none
  |_=>none
 |.store n x b=>match b.ev f,x.ev f with
  |bv,.pt k sz 0 j=>match S.get k with
   |some (.arr sz' [row] 0 ex)=>match Nat.beq sz sz' && (a_ bv).all cn && Nat.beq n (a_ bv).length with
    |true=>match Nat.ble (j+(a_ bv).length) row.length with
     |true=>some (.v undef,⟨[(k,.arr sz' [row] 0 ex)],[(k,some (.arr sz [oy row j (a_ bv)] 0 ex))],false⟩,rs)
     |false=>none
    |false=>none
   |_=>none
  |_,_=>none
 |.alloc cs=>match rs with
  |k::rs=>match S.get k with
   |some .un=>some (.pt k cs.length 0 0,⟨[(k,.un)],[(k,some (.arr cs.length [cs] 0 true))],false⟩,rs)
   |_=>none
  |[]=>none
 |.box x=>match (a_ (x.ev f)).all cn with
  |true=>some (.pt S.nx (a_ (x.ev f)).length 0 0,⟨[],[(S.nx,some (.arr (a_ (x.ev f)).length [a_ (x.ev f)] 0 true))],true⟩,rs)
  |false=>none
 |.call ..=>none
 |q=>match Aq q with
  |true=>match ix q f S with
   |some (r,_)=>some (r,⟨[],[],false⟩,rs)
   |none=>none
  |false=>none
section
variable {P:Program}{w0:World}{n B:Nat}{o:Oper}{α:AA}{S S':ae}{r:AV}{q:dz}{d:Dt}{rs nb:List Nat}
theorem Ds {f:Nat->AV}(hp:Aq q=true) (h:ix q f S=some (r,S')) (T:ae):ix q f T=some (r,T):=by
 have e:∀ {a:AV}{X Y:ae},some (a,X)=some (r,Y)->a=r:=fun h=>by injection h with h;injection h
 cases q<;>first|(exfalso;cases hp;done)|skip
 all_goals
  simp only [ix] at h ⊢
  repeat' split at h
  all_goals first
   |(cases h;done)
   |(obtain rfl:=e h;simp only [*];done)
   |(obtain rfl:=e h;rfl)
theorem cj.Bc (h1:∀ o,res P.toTables o=some q->jt o=true->d=.none_) (h2:lr S d.F) (h:∀ T,lr T d.F->(d.m=true->T.nx=S.nx)->∀ o,res P.toTables o=some q->bm P w0 o α T (qQ r (dQ T d.W d.m))):cj P w0 B q α S r d:=by
 intro n o hr
 refine⟨h1 _ hr,h2,fun T _ hT hm=>?_⟩
 obtain⟨r',S1,h4,rfl,rfl⟩:=kD (n:=n) (h T hT hm o.op hr)
 exact h4
theorem Fl {e:TypeId}{z:Value}{k:Nat}(ho:o.op=.alloc e) (hz:cY P e=some z) (hk:S.get k=some .un) (au:k < S.nx):bg P w0 n o α S (.pt k (z.cells.toList.map bV).length 0 0) (S.set k (some (.arr (z.cells.toList.map bV).length [z.cells.toList.map bV] 0 true))):=by
 intro A g a w hS hA
 obtain⟨cs,BM⟩:∃ cs,z.cells.toList.map bV=cs:=⟨_,rfl⟩
 have gZ:=mI.bV (g:=g) (w:=w) z.cells
 rw [BM] at gZ ⊢
 have uR:¬ g.al k:=fun h=>(hS.cH k _ hk h).2.2
 have l8:St w0 A g (S.set k (some (.arr cs.length [cs] 0 true))) w:=hS.forget (Nat.le_refl _) fun j p hj ha=>by
  have hj:bP S.get k (some (.arr cs.length [cs] 0 true)) j=some p:=hj
  rwa [aN _ _ (fun e=>uR (by rw [<-e];exact ha))] at hj
 obtain⟨hE,cZ⟩:=l8.newAt (.cells z.cells e) uR au 1 (fun J hJ=>by
  have hJ:bP S.get k (some (.arr cs.length [cs] 0 true)) k=some (.fo J):=hJ
  rw [aG] at hJ
  cases hJ) (fun ob gU hL=>by
  have gU:bP S.get k (some (.arr cs.length [cs] 0 true)) k=some ob:=gU
  rw [aG] at gU
  obtain rfl:=Option.some.inj gU
  refine⟨z.cells,e,dy,by rw [gZ.1];simp,by simp,fun _=>rfl,fun i row hr=>?_,Nat.zero_le _,fun q=>⟨fun hf=>?_,fun hf=>by simp at hf⟩⟩
  ·cases i with
   |succ i=>simp at hr
   |zero =>
    simp at hr
    subst hr
    refine⟨rfl,fun j a ha=>?_⟩
    have hj:j < z.cells.size:=by rw [gZ.1];exact (List.getElem?_eq_some_iff.1 ha).1
    exact⟨z.cells[j],by simp,(gZ.2 j a _ ha (Array.getElem?_eq_getElem hj)).later hL⟩
  ·exact absurd (hS.cK _ _ hf) (by omega))
 have hp:=aL.pt (g:=g.new k w.heap.size 1) (w:=w.alloc (.cells z.cells e)) (k:=k) (sz:=cs.length) (i:=0) (j:=0) (.inr rfl)
 rw [show (g.new k w.heap.size 1).ob k=w.heap.size from aG _ _ _] at hp
 refine⟨_,_,_,.inl ?_,by simpa using hp,cZ,hE⟩
 simp [execOp,ho,Instr.alloc,m7 hz,newVar,newRow]
theorem yh {f:Nat->AV}{df:List DE}(fD:∀ k ∈ rs,k < B) (h:dq q f S rs=some (r,d,nb)):cj P w0 B q ⟨f,df⟩ S r d/\∀ k ∈ nb,k ∈ rs:=by
 have hq:∀ {T:ae},Aq q=true->(match ix q f S with|some (r,_)=>some (r,(⟨[],[],false⟩:Dt),rs)|none=>none)=some (r,d,nb)->cj P w0 B q ⟨f,df⟩ S r d/\∀ k ∈ nb,k ∈ rs:=by
  intro T hp h
  split at h
  ·rename_i a X hx
   simp only [Option.some.injEq,Prod.mk.injEq] at h
   obtain⟨rfl,rfl,rfl⟩:=h
   exact⟨cj.Bc (fun _ _ _=>rfl) (fun p hp=>by cases hp) fun T _ _ o hr=>by
    rw [show dQ T [] false=T from cO]
    exact pn (α:=⟨f,df⟩) hr (Ds hp hx T),fun _ hk=>hk⟩
  ·cases h
 have nP:∀ {A:Prop},(∀ o,res P.toTables o=some q->jt o=true->A)->∀ o,res P.toTables o=some q->jt o=true->A:=fun h=>h
 cases q with
 |load k x =>
  have np:∀ o,res P.toTables o=some (.load k x)->jt o=true->d=.none_:=fun o hr hp=>by
   cases o<;>simp only [res] at hr<;>(repeat' split at hr)<;>(try cases hr)<;>cases hp
  have fin:∀ {a:AV}{F:List (Nat × Ob)},(∀ T,lr T F->lB k T (x.ev f)=some a)->lr S F->some (a,(⟨F,[],false⟩:Dt),rs)=some (r,d,nb)->cj P w0 B (.load k x) ⟨f,df⟩ S r d/\∀ k ∈ nb,k ∈ rs:=by
   intro a F h1 h2 h
   simp only [Option.some.injEq,Prod.mk.injEq] at h
   obtain⟨rfl,rfl,rfl⟩:=h
   refine⟨cj.Bc np h2 fun T hT _ o hr=>?_,fun _ hk=>hk⟩
   rw [show dQ T [] false=T from cO]
   exact pn (α:=⟨f,df⟩) hr (by simp only [ix,h1 T hT])
  simp only [dq] at h
  split at h
  ·rename_i row hx
   split at h
   ·rename_i a ha
    exact fin (fun T _=>by rw [hx];exact ha) (fun p hp=>by cases hp) h
   ·cases h
  ·rename_i b sz i j hx
   split at h
   ·rename_i sz' rows fz ex hb
    split at h
    ·rename_i a ha
     refine fin (fun T hT=>?_) (fun p hp=>by simp only [List.mem_singleton] at hp;subst hp;exact hb) h
     have Gm:T.get b=some (.arr sz' rows fz ex):=hT (b,_) (by simp)
     rw [hx]
     simp only [lB,hb,Gm] at ha ⊢
     exact ha
    ·cases h
   ·cases h
  ·cases h
 |store m x b =>
  have np:∀ o,res P.toTables o=some (.store m x b)->jt o=true->d=.none_:=fun o hr hp=>by
   cases o<;>simp only [res] at hr<;>(repeat' split at hr)<;>(try cases hr)<;>cases hp
  simp only [dq] at h
  split at h
  ·rename_i bv k sz j hx
   split at h
   ·rename_i sz' row ex hk
    split at h
    ·rename_i hc
     split at h
     ·rename_i hl
      simp only [Option.some.injEq,Prod.mk.injEq] at h
      obtain⟨rfl,rfl,rfl⟩:=h
      refine⟨cj.Bc np (fun p hp=>by simp only [List.mem_singleton] at hp;subst hp;exact hk) fun T hT _ o hr=>?_,fun _ hk=>hk⟩
      refine pn (α:=⟨f,df⟩) hr ?_
      obtain⟨G,X⟩:=T
      have ir:G k=some (.arr sz' [row] 0 ex):=hT (k,_) (by simp)
      simp only [ix,hx,ir,hc,hl,dQ,gQ]
     ·cases h
    ·cases h
   ·cases h
  ·cases h
 |alloc cs =>
  simp only [dq] at h
  split at h
  ·rename_i k RD
   split at h
   ·rename_i hk
    simp only [Option.some.injEq,Prod.mk.injEq] at h
    obtain⟨rfl,rfl,rfl⟩:=h
    refine⟨fun n o hr=>⟨fun hp=>?_,fun p hp=>by simp only [List.mem_singleton] at hp;subst hp;exact hk,fun T hb hT _=>?_⟩,fun _ h=>by simp [h]⟩
    ·cases ho:o.op<;>rw [ho] at hr hp<;>simp only [res] at hr<;>(repeat' split at hr)<;>(try cases hr)<;>cases hp
    ·have ir:T.get k=some .un:=hT (k,_) (by simp)
     have bC:∃ e z,o.op=.alloc e/\cY P e=some z/\cs=z.cells.toList.map bV:=by
      cases ho:o.op<;>rw [ho] at hr<;>simp only [res,gV] at hr<;>(repeat' split at hr)<;>(try cases hr)
      exact⟨_,_,rfl,by assumption,rfl⟩
     obtain⟨e,z,ho,hz,rfl⟩:=bC
     have e1:dQ T [(k,some (.arr (z.cells.toList.map bV).length [z.cells.toList.map bV] 0 true))] false=T.set k (some (.arr (z.cells.toList.map bV).length [z.cells.toList.map bV] 0 true)):=by cases T;rfl
     rw [e1]
     refine fun F mm A g a w nx Q hF hS hA hn=>?_
     have au:k < T.nx:=Nat.lt_of_lt_of_le (fD k (by simp)) hb
     exact ((Fl (P:=P) (n:=n) ho hz ir au).ops fun c e=>by rw [ho] at e;cases e) F mm A g a w nx Q hF hS hA hn
   ·cases h
  ·cases h
 |box x =>
  have np:∀ o,res P.toTables o=some (.box x)->jt o=true->d=.none_:=fun o hr hp=>by
   cases o<;>simp only [res] at hr<;>(repeat' split at hr)<;>(try cases hr)<;>cases hp
  simp only [dq] at h
  split at h
  ·rename_i hc
   simp only [Option.some.injEq,Prod.mk.injEq] at h
   obtain⟨rfl,rfl,rfl⟩:=h
   refine⟨cj.Bc np (fun p hp=>by cases hp) fun T hT hm o hr=>?_,fun _ hk=>hk⟩
   have hm:=hm rfl
   refine pn (α:=⟨f,df⟩) hr ?_
   obtain⟨G,X⟩:=T
   simp only at hm
   subst hm
   simp only [ix,hc,oH,iH,dQ,gQ]
   rfl
  ·cases h
 |call g aZ9=>cases h
 |_ =>
  first
  |exact hq (T:=S) rfl h
  |(simp only [dq,Aq] at h;cases h)
end
structure QI where
 d:Option Nat
 g:Option (Nat × Bool)
 q:dz
inductive QC where
 |skip
 |bz (dr:Bool) (l:List QI)
 |dM (V:List (Nat × Nat)) (l:List QI)
 |seq (a b:QC)
 |cond (x:QO) (a b:QC)
 |block (id:Nat) (a:QC)
 |scope (a:QC)
 |loop (a:QC)
 |exit (id:Nat)
 |ret
 |uj (x:QO) (ps:List Nat) (a b:QC)
 |raw (c:Code)
def kS (T:Tables) (n:Nat) (ops:List Oper):List Oper->Option (List QI)
 |[]=>some []
 |o::l=>match mC n o.dst,res T o.op,kS T n ops l with
  |true,some q,some l'=>match o.guard with
   |none=>some (⟨o.dst,none,q⟩::l')
   |some (j,want)=>match tW ops j with
    |some t=>some (⟨o.dst,some (t,want),q⟩::l')
    |none=>none
  |_,_,_=>none
def OQ (ops:Array Oper):Bool:=ops.toList.any fun o=>match o.op with
 |.call c=>match c.callee,c.args.toList with
  |.builtin .append,.tmp t::_=>ops.toList.any fun p=>(match p.dst with|some d=>Nat.beq d t|none=>false) && (match p.op with|.call c=>(match c.callee with|.value _=>true|_=>false)|_=>false)
  |_,_=>false
 |_=>false
def UD (ops:Array Oper):Bool:=ops.toList.any fun o=>match o.op with
 |.call c=>match c.callee with
  |.value (.tmp _)=>true
  |_=>false
 |_=>false
def wY (ops:Array Oper):Bool:=zX ops && !(OQ ops || UD ops)
def comp (T:Tables) (n:Nat):Code->Option QC
 |.skip=>some .skip
 |.label _=>some .skip
 |.region id ops dr=>match kS T n ops.toList ops.toList with
  |some l=>match dr with
   |false=>some (.bz false l)
   |true=>match wY ops with
    |true=>some (.bz true l)
    |false=>some (.dM (uf ops) l)
  |none=>some (.raw (.region id ops dr))
 |.seq a b=>match comp T n a,comp T n b with
  |some a',some b'=>some (.seq a' b')
  |_,_=>none
 |.cond c a b=>match comp T n a,comp T n b with
  |some a',some b'=>some (.cond (qo c) a' b')
  |_,_=>none
 |.block id a=>match comp T n a with
  |some a'=>some (.block id a')
  |none=>none
 |.scope a=>match comp T n a with
  |some a'=>some (.scope a')
  |none=>none
 |.loop a=>match comp T n a with
  |some a'=>some (.loop a')
  |none=>none
 |.exit id=>some (.exit id)
 |.ret=>some .ret
 |.rangeFunc f ps a b=>match comp T n a,comp T n b with
  |some a',some b'=>some (.uj (qo f) ps.toList a' b')
  |_,_=>none
 |c=>some (.raw c)
def cM (P:Program):Code->Bool
 |.region _ ops true=>P.follows .mixedOrders && (wY ops || oI ops)
 |.seq a b=>cM P a && cM P b
 |.cond _ a b=>cM P a && cM P b
 |.block _ a=>cM P a
 |.scope a=>cM P a
 |.loop a=>cM P a
 |.rangeFunc _ _ a b=>cM P a && cM P b
 |_=>true
inductive iq where
 |seq (c:QC)
 |qE (id:Nat)
 |uU
inductive QF where
 |run (c:QC) (K:List iq)
 |out (ex:Exit) (K:List iq)
 |bz (dr:Bool) (l:List QI) (K:List iq)
 |dM (B:Nat) (V:List (Nat × Nat)) (lg:List (List Nat × List Nat × Bool)) (rs:List Nat) (l:List QI) (K:List iq)
def vL (lg:List (List Nat × List Nat × Bool)) (i:Nat):List Nat × List Nat × Bool:=lg.getD i ([],[],false)
def gS:List QI->Nat->List Nat
 |[],_=>[]
 |i::l,x=>match i.q with|.alloc _=>x::gS l (x+1)|_=>gS l x
def F_ (G:Nat->Option Ob):List Nat->Nat->Option Ob
 |[]=>G
 |k::ks=>bP (F_ G ks) k (some .un)
def uk (S:ae) (l:List QI):ae:=match S with|⟨G,x⟩=>⟨F_ G (gS l x),x+(gS l x).length⟩
def Yz (V:List (Nat × Nat)) (lg:List (List Nat × List Nat × Bool)):Bool:=V.all fun p=>dj (vL lg p.1) (vL lg p.2)
section
variable (P:Program) (w0:World) (rd:Bool) (n:Nat)
def fV (b:QC) (Q:Exit->AA->ae->Prop) (α:AA) (S:ae):Prop:=∀ c,comp P.toTables n c=some b->cM P c=true->Wp P w0 rd n c Q α S
def cU (Q:Exit->AA->ae->Prop):List iq->Exit->AA->ae->Prop
 |[]=>Q
 |.seq b::K=>fun ex α S=>match ex with|.normal=>fV P w0 rd n b (cU Q K) α S|e=>cU Q K e α S
 |.qE id::K=>fun ex α S=>match ex with|.exit j=>(match Nat.beq j id with|true=>cU Q K .normal α S|false=>cU Q K (.exit j) α S)|e=>cU Q K e α S
 |.uU::K=>fun ex α S=>match ex with|.goto _=>False|e=>cU Q K e α S
def EG (ops:Array Oper) (l:List Nat) (α:AA) (S:ae) (ch:List PanicEntry) (aB:AA) (S':ae):Prop :=
 ∀ (F:Fence) (m:Nat) (A:Nat->Prop) (g:Gh) (a:Act) (w:World) (Q:Exit->Act->World->Prop),iF F->St w0 A g S w->b7 g w n α a ->
  (∀ (a':Act) (w':World) (g':Gh),St w0 A g' S' w'->b7 g' w' n aB a'->Ext A g w g' w'->Q (.panic ch) a' w')->wpOpsIn F m P ops Q l a w
def uH (ops l:List Oper) (Q:AA->ae->Prop) (E:List PanicEntry->AA->ae->Prop) (α:AA) (S:ae):Prop :=
 ∀ k,ops.drop k=l->(∃ aB S',pB P w0 n ops.toArray (List.range' k l.length) α S aB S'/\Q aB S')\/∃ ch aB S',EG P w0 n ops.toArray (List.range' k l.length) α S ch aB S'/\E ch aB S'
def eg (dr:Bool) (l:List QI) (Q:AA->ae->Prop) (E:List PanicEntry->AA->ae->Prop) (α:AA) (S:ae):Prop :=
 ∀ ops rest,kS P.toTables n ops rest=some l->match dr with|false=>uH P w0 n ops rest Q E α S|true=>kE P w0 n ops rest Q α S
def md (B:Nat) (V:List (Nat × Nat)) (lg:List (List Nat × List Nat × Bool)) (l:List QI) (Q:AA->ae->Prop) (α:AA) (S:ae):Prop :=
 ∀ ops:List Oper,kS P.toTables n ops (ops.drop lg.length)=some l->∃ (D:Nat->Dt) (aB:AA) (S':ae),im P w0 n ops.toArray B D (List.range' lg.length l.length) α S aB S'/\Yz V (lg++(List.range' lg.length l.length).map fun i=>(D i).ns)=true/\Q aB S'
def ab (Q:Exit->AA->ae->Prop):QF->AA->ae->Prop
 |.run c K,α,S=>fV P w0 rd n c (cU P w0 rd n Q K) α S
 |.out ex K,α,S=>cU P w0 rd n Q K ex α S
 |.bz dr l K,α,S=>eg P w0 n dr l (fun α S=>cU P w0 rd n Q K .normal α S) (fun ch α S=>cU P w0 rd n Q K (.panic ch) α S) α S
 |.dM B V lg rs l K,α,S=>(∀ k ∈ rs,k < B)->B<=S.nx->md P w0 n B V lg l (fun α S=>cU P w0 rd n Q K .normal α S) α S
def cb (f:Nat->AV):Option (Nat × Bool)->Option Bool
 |none=>some true
 |some (t,want)=>match f t with
  |.v (.bool true)=>some want
  |.v (.bool false)=>match want with|true=>some false|false=>some true
  |.v (.tuple _)=>some false
  |_=>none
def cG (d:Option Nat) (α:AA) (r:AV):AA:=match α,d with|⟨f,l⟩,some d=>⟨bP f d r,l⟩|α,none=>α
def uW:QF->AA->ae->Option (QF × AA × ae)
 |.run c K,α,S=>match c with
  |.skip=>some (.out .normal K,α,S)
  |.bz false l=>some (.bz false l K,α,S)
  |.bz true l=>some (.bz true l K,α,S)
  |.dM V l=>match S with|⟨G,x⟩=>some (.dM (x+(gS l x).length) V [] (gS l x) l K,α,uk ⟨G,x⟩ l)
  |.seq a b=>some (.run a (.seq b::K),α,S)
  |.cond x a b=>match x.ev α.tm with
   |.v (.bool true)=>some (.run a K,α,S)
   |.v (.bool false)=>some (.run b K,α,S)
   |_=>none
  |.block id c=>some (.run c (.qE id::K),α,S)
  |.scope c=>some (.run c (.uU::K),α,S)
  |.exit id=>some (.out (.exit id) K,α,S)
  |.ret=>some (.out .ret K,α,S)
  |_=>none
 |.out ex K,α,S=>match K with
  |[]=>none
  |.seq b::K=>match ex with
   |.normal=>some (.run b K,α,S)
   |e=>some (.out e K,α,S)
  |.qE id::K=>match ex with
   |.exit j=>match Nat.beq j id with
    |true=>some (.out .normal K,α,S)
    |false=>some (.out (.exit j) K,α,S)
   |e=>some (.out e K,α,S)
  |.uU::K=>match ex with
   |.goto _=>none
   |e=>some (.out e K,α,S)
 |.bz dr l K,α,S=>match l with
  |[]=>some (.out .normal K,α,S)
  |i::l=>match cb α.tm i.g with
   |some true=>match ix i.q α.tm S with
    |some (r,S')=>some (.bz dr l K,cG i.d α r,S')
    |none=>none
   |some false=>some (.bz dr l K,cG i.d α (.v undef),S)
   |none=>none
 |.dM B V lg rs l K,α,S=>match l with
  |[]=>match Yz V lg with
   |true=>some (.out .normal K,α,S)
   |false=>none
  |i::l=>match cb α.tm i.g with
   |some true=>match dq i.q α.tm S rs with
    |some (r,d,nb)=>some (.dM B V (lg++[d.ns]) nb l K,cG i.d α r,dQ S d.W d.m)
    |none=>none
   |some false=>some (.dM B V (lg++[([],[],false)]) rs l K,cG i.d α (.v undef),S)
   |none=>none
end
section
variable {P:Program}{w0:World}{rd:Bool}{n:Nat}{α aB:AA}{S S':ae}{Q Q':Exit->AA->ae->Prop}{ex:Exit}{r:AV}{i:QI}{l:List QI}{R:AA->ae->Prop}{E:List PanicEntry->AA->ae->Prop}
theorem oJ {d:Option Nat}:cG d α r=rU d α r:=by cases d<;>cases α<;>rfl
theorem lF {ops rest:List Oper}(h:kS P.toTables n ops rest=some (i::l)):∃ o km,rest=o::km/\kS P.toTables n ops km=some l/\mC n o.dst=true/\o.dst=i.d/\res P.toTables o.op=some i.q /\
  (∀ b,cb α.tm i.g=some b->gO ops α o=some b):=by
 cases rest with
 |nil=>cases h
 |cons o km =>
  simp only [kS] at h
  split at h
  ·rename_i q l' h1 h2 h3
   split at h
   ·rename_i hg
    injection h with h
    injection h with h4 h5
    subst h4 h5
    exact⟨o,km,rfl,h3,h1,rfl,h2,fun b hb=>by simp only [cb,Option.some.injEq] at hb;subst hb;simp only [gO,hg]⟩
   ·rename_i j want hg
    split at h
    ·rename_i t ht
     injection h with h
     injection h with h4 h5
     subst h4 h5
     refine⟨o,km,rfl,h3,h1,rfl,h2,fun b hb=>?_⟩
     simp only [gO,hg,Qg,ht]
     simp only [cb] at hb
     split at hb
     ·rename_i e;rw [e];exact hb
     ·rename_i e;rw [e];cases want<;>exact hb
     ·rename_i e;rw [e];exact hb
     ·cases hb
    ·cases h
  ·cases h
theorem eg.nil {dr:Bool}(h:R α S):eg P w0 n dr [] R E α S:=by
 intro ops rest hc
 have:rest=[]:=by
  cases rest with
  |nil=>rfl
  |cons o r =>
   simp only [kS] at hc
   repeat' split at hc
   all_goals cases hc
 subst this
 cases dr with
 |false=>exact fun k hk=>.inl (wg.nil (ops:=ops) h k hk)
 |true=>exact kE.nil h
def GM (P:Program) (w0:World) (n:Nat) (o:Oper) (α:AA) (S:ae) (r:AV) (S':ae):Prop :=
 eB P w0 n o (α.only (dg o)) S r S'/\(jt o.op=true->S'=S/\∀ S,eB P w0 n o (α.only (dg o)) S r S)/\(xB o.op=false->S'=S)
theorem GM.ofD {o:Oper}(h:og P w0 o.op α S (qQ r S')):GM P w0 n o α S r S':=by
 cases hp:jt o.op with
 |true =>
  obtain⟨r2,h1,h2⟩:=S0 hp (Cx h)
  obtain⟨rfl,rfl⟩:=h1
  have h3:∀ T,eB P w0 n o (α.only (dg o)) T r2 T:=fun T=>by
   obtain⟨r',S',h4,rfl,rfl⟩:=kD (n:=n) (h2 T)
   exact h4
  exact⟨h3 _,fun _=>⟨rfl,h3⟩,fun _=>rfl⟩
 |false =>
  cases hw:xB o.op with
  |false =>
   obtain⟨r2,h1,h2⟩:=Ta hp hw h
   obtain⟨rfl,rfl⟩:=h1
   obtain⟨r',S',h4,rfl,rfl⟩:=kD (n:=n) h2
   exact⟨h4,fun h=>(by rw [hp] at h;cases h),fun _=>rfl⟩
  |true =>
   obtain⟨r2,S2,h1,rfl,rfl⟩:=kD (n:=n) (Cx h)
   exact⟨h1,fun h=>(by rw [hp] at h;cases h),fun h=>(by rw [hw] at h;cases h)⟩
theorem kE.opG {o:Oper}{rest ops:List Oper}{Q:AA->ae->Prop}(hd:mC n o.dst=true) (hw:gO ops α o=some true) (h:GM P w0 n o α S r S') (k:kE P w0 n ops rest Q (rU o.dst α r) S'):kE P w0 n ops (o::rest) Q α S:=by
 intro i hi
 obtain⟨h1,h2⟩:=drop_cons hi
 obtain⟨aB,T,h4,h5⟩:=k (i+1) h2
 rw [qz] at h4
 exact⟨aB,T,.cons ⟨o,h1,hd,.inr ⟨nX hw,r,rfl,h⟩⟩ h4,h5⟩
def ad (P:Program) (w0:World) (dr:Bool) (q:dz) (α:AA) (S:ae) (r:AV) (S':ae):Prop :=
 match dr with
 |true=>∀ (n:Nat) (o:Oper),res P.toTables o.op=some q->GM P w0 n o α S r S'
 |false=>∀ (n:Nat) (o:Oper),res P.toTables o.op=some q->eB P w0 n o α S r S'
theorem eB.Bc {n:Nat}{o:Oper}(h:bm P w0 o.op α S (qQ r S')):eB P w0 n o α S r S':=by
 obtain⟨r1,S1,h3,rfl,rfl⟩:=vX (n:=n) h
 exact h3
theorem ad.run {q:dz}(h:∀ (n:Nat) (o:Oper),res P.toTables o.op=some q->bg P w0 n o α S r S'):ad P w0 false q α S r S':=fun n o hr=>(h n o hr).ops fun c e=>by rw [e] at hr;cases hr
theorem EG.step {ops:Array Oper}{i:Nat}{o:Oper}{rest:List Nat}{aB:AA}{bZ:ae}{ch:List PanicEntry}(hi:ops[i]?=some o) (hd:(match o.dst with|some d=>Nat.blt d n|none=>true)=true)
  (hw:∀ (g:Gh) (w:World) (a:Act),b7 g w n α a->Region.wanted o (yielded ops a.tmps)=true) (h:eB P w0 n o α S r bZ) (k:EG P w0 n ops rest (α.put o.dst r) bZ ch aB S'):EG P w0 n ops (i::rest) α S ch aB S':=by
 intro F m A g a w Q hF hS hA hQ
 simp only [wpOpsIn,hi]
 rw [if_pos (hw g w a hA)]
 refine⟨fun f _=>hF.1 f,h F m A g a w _ Q hF hS hA fun v w' g' hr iu hE=>?_⟩
 exact k F m A g' _ w' Q hF iu (kN (hA.later hE.toLater) hd hr) fun a' rB tn h1 h2 h3=>hQ a' rB tn h1 h2 (hE.trans h3)
theorem wi {ops:List Oper}{o:Oper}(hw:gO ops α o=some true) (g:Gh) (w:World) (a:Act) (hA:b7 g w n α a):Region.wanted o (yielded ops.toArray a.tmps)=true:=by
 rcases nX hw with hg|⟨j,want,hg,hy⟩
 ·simp [Region.wanted,hg]
 ·simp [Region.wanted,hg,nK hA hy]
theorem uH.ry {o:Oper}{rest ops:List Oper}{Q:AA->ae->Prop}(hd:mC n o.dst=true) (hw:gO ops α o=some true) (h:eB P w0 n o α S r S') (k:uH P w0 n ops rest Q E (rU o.dst α r) S'):uH P w0 n ops (o::rest) Q E α S:=by
 intro i hi
 obtain⟨h1,h2⟩:=drop_cons hi
 have h3:=k (i+1) h2
 rw [qz] at h3
 exact h3.imp (fun ⟨aB,T,h4,h5⟩=>⟨aB,T,pB.step h1 hd (wi hw) h h4,h5⟩) fun ⟨ch,aB,T,h4,h5⟩=>⟨ch,aB,T,EG.step h1 hd (wi hw) h h4,h5⟩
theorem uH.skip {o:Oper}{rest ops:List Oper}{Q:AA->ae->Prop}(hd:mC n o.dst=true) (hw:gO ops α o=some false) (k:uH P w0 n ops rest Q E (rU o.dst α (.v undef)) S):uH P w0 n ops (o::rest) Q E α S:=by
 intro i hi
 obtain⟨h1,h2⟩:=drop_cons hi
 have h3:=k (i+1) h2
 rw [qz] at h3
 obtain⟨j,want,b,hg,hy,bH⟩:=xF hw
 have Bv:∀ (g:Gh) (w:World) (a:Act),b7 g w n α a->¬ Region.wanted o (yielded ops.toArray a.tmps)=true:=fun g w a hA=>by simp [Region.wanted,hg,nK hA hy,bH]
 refine h3.imp (fun ⟨aB,T,h4,h5⟩=>⟨aB,T,fun F m A g a w Q hF hS hA hQ=>?_,h5⟩) fun ⟨ch,aB,T,h4,h5⟩=>⟨ch,aB,T,fun F m A g a w Q hF hS hA hQ=>?_,h5⟩
 ·show wpOpsIn F m P ops.toArray Q (i::List.range' (i+1) rest.length) a w
  simp only [wpOpsIn,h1]
  rw [if_neg (Bv g w a hA)]
  exact⟨fun f _=>hF.1 f,h4 F m A g _ w Q hF hS (kN hA hd .v) hQ⟩
 ·show wpOpsIn F m P ops.toArray Q (i::List.range' (i+1) rest.length) a w
  simp only [wpOpsIn,h1]
  rw [if_neg (Bv g w a hA)]
  exact⟨fun f _=>hF.1 f,h4 F m A g _ w Q hF hS (kN hA hd .v) hQ⟩
def agy:dz->Bool
 |.call ..=>true
 |_=>false
theorem ad.of {dr:Bool}{q:dz}(hq:agy q=false) (h:∀ o,res P.toTables o=some q->bm P w0 o α S (qQ r S')):ad P w0 dr q α S r S':=by
 cases dr with
 |false=>exact fun n o hr=>eB.Bc (h o.op hr)
 |true =>
  intro n o hr
  refine GM.ofD ?_
  have h1:=h o.op hr
  generalize o.op=op at hr h1
  cases op with
  |call c =>
   simp only [og]
   split
   ·rename_i f hc
    simp only [res,hc,Option.some.injEq] at hr
    subst hr
    cases hq
   ·exact h1
  |_=>exact h1
theorem eg.op {dr:Bool}(hw:cb α.tm i.g=some true) (h:ad P w0 dr i.q α S r S') (k:eg P w0 n dr l R E (cG i.d α r) S'):eg P w0 n dr (i::l) R E α S:=by
 intro ops rest hc
 obtain⟨o,km,rfl,h1,h2,h3,h4,h5⟩:=lF (α:=α) hc
 have h7:=k ops km h1
 rw [oJ,<-h3] at h7
 cases dr with
 |false=>exact uH.ry h2 (h5 _ hw) (h n o h4) h7
 |true=>exact kE.opG h2 (h5 _ hw) (h n o h4) h7
theorem eg.skip {dr:Bool}(hw:cb α.tm i.g=some false) (k:eg P w0 n dr l R E (cG i.d α (.v undef)) S):eg P w0 n dr (i::l) R E α S:=by
 intro ops rest hc
 obtain⟨o,km,rfl,h1,h2,h3,h4,h5⟩:=lF (α:=α) hc
 have h7:=k ops km h1
 rw [oJ,<-h3] at h7
 cases dr with
 |false=>exact uH.skip h2 (h5 _ hw) h7
 |true=>exact kE.skip h2 (h5 _ hw) h7
def OpP (P:Program) (w0:World) (n:Nat) (o:Oper) (α:AA) (S:ae) (ch:List PanicEntry) (S':ae):Prop :=
 ∀ (F:Fence) (m:Nat) (A:Nat->Prop) (g:Gh) (a:Act) (w:World) (next:Act->World->Prop) (Q:Exit->Act->World->Prop),iF F->St w0 A g S w->b7 g w n α a ->
  (∀ (w':World) (g':Gh),St w0 A g' S' w'->Ext A g w g' w'->Q (.panic ch) a w')->o.uponIn F m P a next Q ((o.semAt F.round a.eval).run P w)
def qG (P:Program) (w0:World) (q:dz) (α:AA) (S:ae) (ch:List PanicEntry) (S':ae):Prop:=∀ (n:Nat) (o:Oper),res P.toTables o.op=some q->OpP P w0 n o α S ch S'
theorem eg.uZ {ch:List PanicEntry}(hw:cb α.tm i.g=some true) (h:qG P w0 i.q α S ch S') (k:E ch α S'):eg P w0 n false (i::l) R E α S:=by
 intro ops rest hc
 obtain⟨o,km,rfl,h1,h2,h3,h4,h5⟩:=lF (α:=α) hc
 intro j hj
 obtain⟨k1,k2⟩:=drop_cons hj
 refine .inr ⟨ch,α,S',fun F m A g a w Q hF hS hA hQ=>?_,k⟩
 show wpOpsIn F m P ops.toArray Q (j::List.range' (j+1) km.length) a w
 simp only [wpOpsIn,k1]
 rw [if_pos (wi (h5 _ hw) g w a hA)]
 exact⟨fun f _=>hF.1 f,h n o h4 F m A g a w _ Q hF hS hA fun w' g' q1 q2=>hQ a w' g' q1 (hA.later q2.toLater) q2⟩
theorem ad.quiet {dr:Bool}{q:dz}(h:ix q α.tm S=some (r,S')):ad P w0 dr q α S r S':=by
 refine ad.of ?_ fun o hr=>pn hr h
 cases q<;>first|rfl|(cases h)
theorem EH {c:Code}{dr:Bool}(h:comp P.toTables n c=some (.bz dr l)):∃ id ops,c=.region id ops dr/\kS P.toTables n ops.toList ops.toList=some l/\(dr=true->wY ops=true):=by
 cases c<;>simp only [comp] at h<;>(repeat' split at h)<;>(try cases h)
 ·exact⟨_,_,rfl,by assumption,fun e=>by cases e⟩
 ·exact⟨_,_,rfl,by assumption,fun _=>by assumption⟩
theorem OR {c:Code}{V:List (Nat × Nat)}(h:comp P.toTables n c=some (.dM V l)):∃ id ops,c=.region id ops true/\kS P.toTables n ops.toList ops.toList=some l/\wY ops=false/\V=uf ops:=by
 cases c<;>simp only [comp] at h<;>(repeat' split at h)<;>(try cases h)
 ·exact⟨_,_,rfl,by assumption,by assumption,rfl⟩
theorem OS {c:Code}{a b:QC}(h:comp P.toTables n c=some (.seq a b)):∃ c1 c2,c=.seq c1 c2/\comp P.toTables n c1=some a/\comp P.toTables n c2=some b:=by
 cases c<;>simp only [comp] at h<;>(repeat' split at h)<;>(try cases h)
 ·exact⟨_,_,rfl,by assumption,by assumption⟩
theorem Mj {c:Code}{x:QO}{a b:QC}(h:comp P.toTables n c=some (.cond x a b)):∃ y c1 c2,c=.cond y c1 c2/\qo y=x/\comp P.toTables n c1=some a/\comp P.toTables n c2=some b:=by
 cases c<;>simp only [comp] at h<;>(repeat' split at h)<;>(try cases h)
 ·exact⟨_,_,_,rfl,rfl,by assumption,by assumption⟩
theorem Kn {c:Code}{id:Nat}{a:QC}(h:comp P.toTables n c=some (.block id a)):∃ c1,c=.block id c1/\comp P.toTables n c1=some a:=by
 cases c<;>simp only [comp] at h<;>(repeat' split at h)<;>(try cases h)
 ·exact⟨_,rfl,by assumption⟩
theorem Ko {c:Code}{a:QC}(h:comp P.toTables n c=some (.scope a)):∃ c1,c=.scope c1/\comp P.toTables n c1=some a:=by
 cases c<;>simp only [comp] at h<;>(repeat' split at h)<;>(try cases h)
 ·exact⟨_,rfl,by assumption⟩
theorem Mk {c:Code}{a:QC}(h:comp P.toTables n c=some (.loop a)):∃ c1,c=.loop c1/\comp P.toTables n c1=some a:=by
 cases c<;>simp only [comp] at h<;>(repeat' split at h)<;>(try cases h)
 ·exact⟨_,rfl,by assumption⟩
theorem Ml {c:Code}{x:QO}{ps:List Nat}{a b:QC}(h:comp P.toTables n c=some (.uj x ps a b)):∃ y pt c1 c2,c=.rangeFunc y pt c1 c2/\qo y=x/\pt.toList=ps/\comp P.toTables n c1=some a/\comp P.toTables n c2=some b:=by
 cases c<;>simp only [comp] at h<;>(repeat' split at h)<;>(try cases h)
 ·exact⟨_,_,_,_,rfl,rfl,rfl,by assumption,by assumption⟩
theorem qm {c:Code}:(comp P.toTables n c=some .skip->KI c)/\(comp P.toTables n c=some .ret->c=.ret)/\∀ id,comp P.toTables n c=some (.exit id)->c=.exit id:=by
 refine⟨fun h=>?_,fun h=>?_,fun id h=>?_⟩
 all_goals
  cases c<;>simp only [comp] at h<;>(repeat' split at h)<;>(try cases h)<;>first|rfl|exact .inl rfl|exact .inr ⟨_,rfl⟩
theorem Rr {x:Operand}:α.ev x=(qo x).ev α.tm:=(aU x).symm
theorem fV.seq {a b:QC}(h:fV P w0 rd n a (fun ex α S=>match ex with|.normal=>fV P w0 rd n b Q α S|e=>Q e α S) α S):fV P w0 rd n (.seq a b) Q α S:=by
 intro c hc hd
 obtain⟨c1,c2,rfl,h1,h2⟩:=OS hc
 simp only [cM,Bool.and_eq_true] at hd
 refine Wp.seq ?_
 obtain⟨ex,bN,bZ,h3,h4⟩:=h c1 h1 hd.1
 refine⟨ex,bN,bZ,h3,?_⟩
 cases ex with
 |normal=>exact h4 c2 h2 hd.2
 |_=>exact h4
theorem fV.cond {x:QO}{a b:QC}{t:Bool}(hx:x.ev α.tm=.v (.bool t)) (h:fV P w0 rd n (if t then a else b) Q α S):fV P w0 rd n (.cond x a b) Q α S:=by
 intro c hc hd
 obtain⟨y,c1,c2,rfl,rfl,h1,h2⟩:=Mj hc
 simp only [cM,Bool.and_eq_true] at hd
 refine Wp.cond (by rw [Rr];exact hx) ?_
 cases t with
 |true=>exact h c1 h1 hd.1
 |false=>exact h c2 h2 hd.2
theorem fV.block {id:Nat}{a:QC}(h:fV P w0 rd n a (fun ex α S=>match ex with|.exit j=>(match Nat.beq j id with|true=>Q .normal α S|false=>Q (.exit j) α S)|e=>Q e α S) α S):fV P w0 rd n (.block id a) Q α S:=by
 intro c hc hd
 obtain⟨c1,rfl,h1⟩:=Kn hc
 exact Wp.block (h c1 h1 hd)
theorem fV.scope {a:QC}(h:fV P w0 rd n a (fun ex α S=>match ex with|.goto _=>False|e=>Q e α S) α S):fV P w0 rd n (.scope a) Q α S:=by
 intro c hc hd
 obtain⟨c1,rfl,h1⟩:=Ko hc
 obtain⟨ex,bN,bZ,h2,h3⟩:=h c1 h1 hd
 cases ex with
 |goto l=>exact h3.elim
 |_=>exact⟨_,bN,bZ,cy.scope h2 (fun l e=>by cases e),h3⟩
theorem fV.bz {dr:Bool}(h:eg P w0 n dr l (fun α S=>Q .normal α S) (fun ch α S=>Q (.panic ch) α S) α S):fV P w0 rd n (.bz dr l) Q α S:=by
 intro c hc hd
 obtain⟨id,ops,rfl,h1,od⟩:=EH hc
 have h2:=h _ _ h1
 cases dr with
 |false =>
  rcases h2 0 rfl with ⟨aB,S',h3,h4⟩|⟨ch,aB,S',h3,h4⟩
  ·rw [Array.length_toList,<-List.range_eq_range'] at h3
   exact⟨_,aB,S',cy.region h3,h4⟩
  ·rw [Array.length_toList,<-List.range_eq_range'] at h3
   exact⟨.panic ch,aB,S',fun F m A g a w hF hR hS hA=>wpIn_region (h3 F m A g a w _ hF hS hA fun a' w' g' q1 q2 q3=>⟨rfl,g',q1,q2,q3⟩),h4⟩
 |true=>exact kE.wp (by simp only [cM,Bool.and_eq_true] at hd;simp only [Bool.and_eq_true];exact⟨hd.1,((Bool.and_eq_true _ _).mp (od rfl)).1⟩) h2
theorem B8 {G:Nat->Option Ob}:∀ {ks:List Nat}{k:Nat},k ∉ ks->F_ G ks k=G k
 |[],_,_=>rfl
 |p::ks,k,h=>by
  simp only [List.mem_cons,not_or] at h
  rw [F_,aN _ _ h.1,B8 h.2]
theorem rD:∀ {l:List QI}{x k:Nat},k ∈ gS l x->x<=k/\k < x+(gS l x).length
 |[],x,k,h=>by cases h
 |i::l,x,k,h=>by
  simp only [gS] at h ⊢
  split at h
  ·rename_i e
   simp only [e,List.length_cons]
   rcases List.mem_cons.1 h with rfl|h
   ·omega
   ·have:=rD h;omega
  ·rename_i e
   exact rD h
theorem St.rsv {A:Nat->Prop}{g:Gh}{w:World}(hS:St w0 A g S w) (l:List QI):St w0 A g (uk S l) w:=by
 obtain⟨G,x⟩:=S
 refine hS.forget (Nat.le_add_right _ _) fun k o hk ha=>?_
 have au:=hS.al k ha
 have au:k < x:=au
 have hk:F_ G (gS l x) k=some o:=hk
 rwa [B8 fun hm=>by have:=(rD hm).1;omega] at hk
theorem fV.dM {V:List (Nat × Nat)}(h:(∀ k ∈ gS l S.nx,k < S.nx+(gS l S.nx).length)->S.nx+(gS l S.nx).length<=(uk S l).nx->md P w0 n (S.nx+(gS l S.nx).length) V [] l (fun α S=>Q .normal α S) α (uk S l)):fV P w0 rd n (.dM V l) Q α S:=by
 intro c hc hd
 obtain⟨id,ops,rfl,h1,h2,rfl⟩:=OR hc
 simp only [cM,Bool.and_eq_true,Bool.or_eq_true,h2,Bool.false_eq_true,false_or] at hd
 have hl:l.length=ops.size:=by
  have key:∀ (ops rest:List Oper) (l:List QI),kS P.toTables n ops rest=some l->l.length=rest.length:=by
   intro ops rest
   induction rest with
   |nil=>intro l h;obtain rfl:=Option.some.inj h;rfl
   |cons o rest ih =>
    intro l h
    cases l with
    |nil =>
     exfalso
     simp only [kS] at h
     split at h
     ·split at h
      ·cases h
      ·split at h<;>cases h
     ·cases h
    |cons i l =>
     obtain⟨o',km,e,h3,_⟩:=lF (α:=α) h
     injection e with e1 e2
     subst e1 e2
     simp [ih _ h3]
  rw [key _ _ _ h1];simp
 obtain⟨D,aB,S',h3,h4,h5⟩:=h (fun k hk=>(rD hk).2) (by cases S;exact Nat.le_refl _) ops.toList h1
 simp only [List.length_nil,hl,List.nil_append] at h3 h4
 rw [<-List.range_eq_range'] at h3 h4
 refine⟨.normal,aB,S',fun F m A g a w hF hR hS hA=>?_,h5⟩
 refine cy.aeh hd.1 hd.2 (fun p hp=>?_) h3 F m A g a w hF hR (hS.rsv l) hA
 have h6:=List.all_eq_true.1 h4 p hp
 have eR:=(List.mem_filter.1 hp).1
 have in1:∀ {m:List Nat}{k:Nat}{q:Nat × Nat},q ∈ sd ops m k->q.1 < k/\q.2 < k:=by
  intro m k q
  induction k with
  |zero=>intro h;cases h
  |succ k ih =>
   intro h
   simp only [sd,List.mem_append,List.mem_map,List.mem_filter,List.mem_range] at h
   rcases h with ⟨x,⟨hx,_⟩,rfl⟩|h
   ·exact⟨by simp only;omega,by simp only;omega⟩
   ·have:=ih h;omega
 obtain⟨k1,k2⟩:=in1 eR
 have get:∀ i,i < ops.size->vL ((List.range ops.size).map fun i=>(D i).ns) i=(D i).ns:=fun i hi=>by
  unfold vL
  rw [List.getD_eq_getElem?_getD,List.getElem?_map,List.getElem?_range hi]
  rfl
 rw [get _ k1,get _ k2] at h6
 exact h6
theorem im.congr {B:Nat}{ops:Array Oper}{D D':Nat->Dt}:∀ {L:List Nat}{α aB:AA}{S S':ae},(∀ i ∈ L,D i=D' i)->im P w0 n ops B D L α S aB S'->im P w0 n ops B D' L α S aB S'
 |[],_,_,_,_,_,.nil ..=>.nil ..
 |i::rest,_,_,_,_,he,.cons h t=>.cons (by rw [<-he i (by simp)];exact h) (t.congr fun j hj=>he j (by simp [hj]))
theorem lG {ops:List Oper}{k:Nat}{o:Oper}{rest:List Oper}(h:ops.drop k=o::rest):ops.toArray[k]?=some o/\ops.drop (k+1)=rest:=drop_cons h
theorem md.step {B:Nat}{V:List (Nat × Nat)}{lg:List (List Nat × List Nat × Bool)}{d:Dt}{α1:AA}{S1:ae}{R:AA->ae->Prop}
  (hg:∀ ops o rest,ops.drop lg.length=o::rest->mC n o.dst=true->o.dst=i.d->res P.toTables o.op=some i.q->(∀ b,cb α.tm i.g=some b->gO ops α o=some b)->ml P w0 n ops.toArray B lg.length d α S α1 S1)
  (k:md P w0 n B V (lg++[d.ns]) l R α1 S1):md P w0 n B V lg (i::l) R α S:=by
 intro ops hr
 obtain⟨o,rest,h1,h2,h3,h4,h5,h6⟩:=lF (α:=α) hr
 obtain⟨h7,h8⟩:=lG h1
 obtain⟨D,aB,S',k1,k2,k3⟩:=k ops (by rw [List.length_append,List.length_singleton,h8];exact h2)
 simp only [List.length_append,List.length_singleton] at k1 k2
 refine⟨fun i=>if i=lg.length then d else D i,aB,S',?_,?_,k3⟩
 ·rw [List.length_cons,List.range'_succ]
  refine .cons (by rw [if_pos rfl];exact hg ops o rest h1 h3 h4 h5 h6) (k1.congr fun i hi=>?_)
  have:=(List.mem_range'_1.1 hi).1
  rw [if_neg (by omega)]
 ·rw [List.length_cons,List.range'_succ,List.map_cons]
  simp only [if_pos]
  have e:((List.range' (lg.length+1) l.length).map fun i=>(if i=lg.length then d else D i).ns)=(List.range' (lg.length+1) l.length).map fun i=>(D i).ns:=List.map_congr_left fun i hi=>by
   have:=(List.mem_range'_1.1 hi).1
   rw [if_neg (by omega)]
  rw [e]
  rw [List.append_assoc] at k2
  exact k2
theorem zh {ops:List Oper}{o:Oper}{b:Bool}(h:gO ops α o=some b):(b=true->o.guard=none\/∃ j want,o.guard=some (j,want)/\m6 ops.toArray α j=some (some want))/\(b=false->∃ j want c,o.guard=some (j,want)/\m6 ops.toArray α j=some c/\c ≠ some want):=by
 refine⟨fun e=>nX (by rw [<-e];exact h),fun e=>?_⟩
 subst e
 unfold gO at h
 split at h
 ·cases h
 ·rename_i j want hg
  split at h
  ·rename_i hy
   have:=Option.some.inj h
   subst this
   exact⟨j,false,some true,hg,by rw [<-vh];exact hy,by simp⟩
  ·rename_i hy
   have:=Option.some.inj h
   cases want with
   |true=>exact⟨j,true,some false,hg,by rw [<-vh];exact hy,by simp⟩
   |false=>simp at this
  ·rename_i hy
   exact⟨j,want,none,hg,by rw [<-vh];exact hy,by simp⟩
  ·cases h
theorem md.op {B:Nat}{V:List (Nat × Nat)}{lg:List (List Nat × List Nat × Bool)}{d:Dt}{R:AA->ae->Prop}(hB:B<=S.nx) (hw:cb α.tm i.g=some true) (h:cj P w0 B i.q α S r d) (k:md P w0 n B V (lg++[d.ns]) l R (cG i.d α r) (dQ S d.W d.m)):md P w0 n B V lg (i::l) R α S:=by
 refine md.step (fun ops o rest h1 h2 h3 h4 h5=>?_) k
 obtain⟨k1,k2,k3⟩:=h n o h4
 exact⟨o,(lG h1).1,h2,k1,hB,k2,rfl,.inr ⟨(zh (h5 _ hw)).1 rfl,r,by rw [oJ,<-h3];cases o.dst<;>rfl,fun T hb ht hm=>k3 T hb ht hm⟩⟩
theorem md.skip {B:Nat}{V:List (Nat × Nat)}{lg:List (List Nat × List Nat × Bool)}{R:AA->ae->Prop}(hB:B<=S.nx) (hw:cb α.tm i.g=some false) (k:md P w0 n B V (lg++[([],[],false)]) l R (cG i.d α (.v undef)) S):md P w0 n B V lg (i::l) R α S:=by
 refine md.step (d:=.none_) (fun ops o rest h1 h2 h3 h4 h5=>?_) k
 obtain⟨j,want,c,e1,e2,e3⟩:=(zh (h5 _ hw)).2 rfl
 exact⟨o,(lG h1).1,h2,fun _=>rfl,hB,(show lr S [] from fun p hp=>by cases hp),cO.symm,.inl ⟨j,want,c,e1,e2,e3,by rw [oJ,<-h3];cases o.dst<;>rfl,rfl⟩⟩
theorem fV.done {a:QC}(hd:∀ c,comp P.toTables n c=some a->Wp P w0 rd n c Q α S):fV P w0 rd n a Q α S:=fun c hc _=>hd c hc
theorem Kv {cf qF:QF}(h:uW cf α S=some (qF,aB,S')) (k:ab P w0 rd n Q qF aB S'):ab P w0 rd n Q cf α S:=by
 have e:∀ {x:QF}{y:AA}{z:ae},some (x,y,z)=some (qF,aB,S')->ab P w0 rd n Q x y z:=fun h=>by
  simp only [Option.some.injEq,Prod.mk.injEq] at h
  obtain⟨rfl,rfl,rfl⟩:=h
  exact k
 cases cf with
 |run c K =>
  simp only [uW] at h
  split at h
  ·exact fV.done fun c hc=>Wp.of (cy.skip (qm.1 hc)) (e h)
  ·exact fV.bz (e h)
  ·exact fV.bz (e h)
  ·rename_i V l
   cases S with
   |mk G x =>
    simp only [Option.some.injEq,Prod.mk.injEq] at h
    obtain⟨rfl,rfl,rfl⟩:=h
    exact fV.dM fun h1 h2=>k h1 h2
  ·exact fV.seq (e h)
  ·split at h
   ·rename_i hc;exact fV.cond hc (e h)
   ·rename_i hc;exact fV.cond hc (e h)
   ·cases h
  ·exact fV.block (e h)
  ·exact fV.scope (e h)
  ·exact fV.done fun c hc=>by rw [qm.2.2 _ hc];exact Wp.of (cy.exit_ _) (e h)
  ·exact fV.done fun c hc=>by rw [qm.2.1 hc];exact Wp.of cy.ret (e h)
  ·cases h
 |out ex K =>
  cases K with
  |nil=>simp [uW] at h
  |cons it K =>
   cases it with
   |seq b=>cases ex<;>(simp only [uW] at h;have t:=e h;exact t)
   |qE id =>
    cases ex with
    |exit j =>
     simp only [uW] at h
     show (match Nat.beq j id with|true=>cU P w0 rd n Q K .normal α S|false=>cU P w0 rd n Q K (.exit j) α S)
     split at h
     ·have t:=e h;exact t
     ·have t:=e h;exact t
    |_=>simp only [uW] at h;have t:=e h;exact t
   |uU =>
    cases ex with
    |goto l=>simp [uW] at h
    |_=>simp only [uW] at h;have t:=e h;exact t
 |bz dr l K =>
  simp only [uW] at h
  split at h
  ·exact eg.nil (e h)
  ·rename_i i l
   split at h
   ·rename_i hw
    split at h
    ·rename_i r T hq
     exact eg.op hw (ad.quiet hq) (e h)
    ·cases h
   ·rename_i hw
    exact eg.skip hw (e h)
   ·cases h
 |dM B V lg rs l K =>
  intro fD hB
  simp only [uW] at h
  split at h
  ·split at h
   ·rename_i hc
    have h1:=e h
    exact fun ops _=>⟨fun _=>.none_,α,S,.nil ..,by simpa using hc,h1⟩
   ·cases h
  ·rename_i i l
   split at h
   ·rename_i hw
    split at h
    ·rename_i r d nb hq
     obtain⟨h1,h2⟩:=yh (P:=P) (w0:=w0) (df:=α.df) fD hq
     exact md.op hB hw h1 (e h (fun k hk=>fD k (h2 k hk)) (by rw [dW];exact Nat.le_trans hB (Nat.le_add_right _ _)))
    ·cases h
   ·rename_i hw
    exact md.skip hB hw (e h fD hB)
   ·cases h
end
end Go.Proofs.YtgphljokbodciaaGreat
