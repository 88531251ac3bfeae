import Derived.Test.YtbofilglphfceaaGreatQ6
namespace Go.Proofs.YtbofilglphfceaaGreat
set_option linter.unusedVariables false
set_option linter.unusedSimpArgs false
open Go.RowKit
structure Dt where
 F:List (Nat × Ob)
 W:List (Nat × Option Ob)
 m:Bool
def Dt.none_:Dt:=⟨[],[],false⟩
def kE (T:ae) (F:List (Nat × Ob)):Prop:=∀ p ∈ F,T.get p.1=some p.2
def fM (G:Nat->Option Ob):List (Nat × Option Ob)->Nat->Option Ob
 |[]=>G
 |p::W=>bO (fM G W) p.1 p.2
def dQ (T:ae) (W:List (Nat × Option Ob)) (m:Bool):ae:=match T,m with|⟨G,x⟩,true=>⟨fM G W,x+1⟩|⟨G,x⟩,false=>⟨fM G W,x⟩
theorem ec {T:ae}{W:List (Nat × Option Ob)}{m:Bool}:dQ T W m=⟨fM T.get W,T.nx+m.toNat⟩:=by cases T;cases m<;>rfl
def v3 (l m:List Nat):Bool:=l.all fun x=>m.all fun y=>!Nat.beq x y
theorem xD {l m:List Nat}(h:v3 l m=true) {x y:Nat}(hx:x ∈ l) (hy:y ∈ m):x ≠ y:=by
 intro e
 subst e
 have:=List.all_eq_true.1 (List.all_eq_true.1 h x hx) x hy
 rw [Nat.beq_refl] at this
 cases this
def dj (x y:List Nat × List Nat × Bool):Bool:=v3 x.2.1 y.1 && v3 x.2.1 y.2.1 && v3 x.1 y.2.1 && !(x.2.2 && y.2.2)
def Dt.ns (d:Dt):List Nat × List Nat × Bool:=(d.F.map (·.1),d.W.map (·.1),d.m)
theorem iY {G:Nat->Option Ob}:∀ {W:List (Nat × Option Ob)}{k:Nat},k ∉ W.map (·.1)->fM G W k=G k
 |[],_,_=>rfl
 |p::W,k,h=>by
  simp only [List.map_cons,List.mem_cons,not_or] at h
  rw [fM,aK _ _ h.1,iY h.2]
theorem KI {G:Nat->Option Ob}{W V:List (Nat × Option Ob)}(h:∀ x ∈ W.map (·.1),∀ y ∈ V.map (·.1),x ≠ y):fM (fM G W) V=fM (fM G V) W:=by
 have key:∀ {G H:Nat->Option Ob}{W:List (Nat × Option Ob)}{k:Nat},k ∈ W.map (·.1)->fM G W k=fM H W k:=by
  intro G H W k
  induction W with
  |nil=>intro h;cases h
  |cons p W ih =>
   intro h
   by_cases e:k=p.1
   ·subst e;rw [fM,fM,aE,aE]
   ·rw [fM,fM,aK _ _ e,aK _ _ e]
    exact ih ((List.mem_cons.1 h).resolve_left e)
 funext k
 by_cases h1:k ∈ V.map (·.1)
 ·have h2:k ∉ W.map (·.1):=fun hw=>h k hw k h1 rfl
  rw [iY h2]
  exact key h1
 ·rw [iY h1]
  by_cases h2:k ∈ W.map (·.1)
  ·exact key h2
  ·rw [iY h2,iY h2,iY h1]
section
variable {P:Program}{w0:World}{n B:Nat}{α aA:AA}{S S':ae}{r:AV}{ops:Array Oper}{D:Nat->Dt}
def lW (P:Program) (w0:World) (n:Nat) (ops:Array Oper) (B:Nat) (i:Nat) (d:Dt) (α:AA) (S:ae) (α1:AA) (S1:ae):Prop :=
 ∃ o,ops[i]?=some o/\(match o.dst with|some d=>Nat.blt d n|none=>true)=true/\(jx o.op=true->d=.none_)/\B<=S.nx/\kE S d.F/\S1=dQ S d.W d.m /\
  ((∃ (j:Nat) (want:Bool) (b:Option Bool),o.guard=some (j,want)/\mR ops α j=some b/\b ≠ some want/\α1=α.put o.dst (.v undef)/\d=.none_) \/
   ((o.guard=none\/∃ j want,o.guard=some (j,want)/\mR ops α j=some (some want))/\∃ r,α1=α.put o.dst r/\∀ T,B<=T.nx->kE T d.F->(d.m=true->T.nx=S.nx)->ew P w0 n o (α.only (dp o)) T r (dQ T d.W d.m)))
theorem cK:dQ S [] false=S:=by cases S;rfl
theorem lW.shape {i:Nat}{d:Dt}{α1:AA}{S1:ae}(h:lW P w0 n ops B i d α S α1 S1):∃ o a,ops[i]?=some o/\α1=α.put o.dst a/\kE S d.F/\S1=dQ S d.W d.m/\B<=S.nx:=by
 obtain⟨o,h1,_,_,hB,h2,h3,h⟩:=h
 rcases h with ⟨j,want,b,hg,hy,bG,rfl,_⟩|⟨hg,r,rfl,_⟩
 ·exact⟨o,_,h1,rfl,h2,h3,hB⟩
 ·exact⟨o,r,h1,rfl,h2,h3,hB⟩
theorem lW.anyS {i:Nat}{d:Dt}{α1:AA}{S1 T:ae}(h:lW P w0 n ops B i d α S α1 S1) (hB:B<=T.nx) (hT:kE T d.F) (hm:d.m=true->T.nx=S.nx):lW P w0 n ops B i d α T α1 (dQ T d.W d.m):=by
 obtain⟨o,h1,hn,hp,_,h2,h3,h⟩:=h
 refine⟨o,h1,hn,hp,hB,hT,rfl,?_⟩
 rcases h with h|⟨hg,r,h4,h5⟩
 ·exact .inl h
 ·exact .inr ⟨hg,r,h4,fun T' hb ht hm'=>h5 T' hb ht fun e=>(hm' e).trans (hm e)⟩
theorem lW.frame {i:Nat}{dt:Dt}{α1:AA}{S1:ae}{d:Option Tmp}{a:AV}(h:lW P w0 n ops B i dt α S α1 S1) (hd:∀ o,ops[i]?=some o->∀ e,d=some e->e ∉ o.looksAt ops/\o.dst ≠ some e):lW P w0 n ops B i dt (α.put d a) S (α1.put d a) S1:=by
 obtain⟨o,hi,hn,hp,h0,h8,h9,h⟩:=h
 have h1:∀ e,d=some e->e ∉ dp o:=fun e he hm=>(hd o hi e he).1 (oI hm)
 have h2:∀ j want,o.guard=some (j,want)->∀ e,d=some e->(ops[j]?).bind (·.dst) ≠ some e:=by
  intro j want hg e he h3
  refine (hd o hi e he).1 (List.mem_append.2 (.inr ?_))
  rw [hg]
  simp only
  rw [h3]
  simp
 have hc:∀ x,(α.put o.dst x).put d a=(α.put d a).put o.dst x:=fun x=>(put_comm fun t ht e=>(hd o hi t ht).2 e).symm
 refine⟨o,hi,hn,hp,h0,h8,h9,?_⟩
 rcases h with ⟨j,want,b,hg,hy,bG,rfl,h7⟩|⟨hg,r,rfl,h3⟩
 ·exact .inl ⟨j,want,b,hg,by rw [kT (h2 j want hg)];exact hy,bG,hc _,h7⟩
 ·refine .inr ⟨?_,r,hc _,by rw [kV h1];exact h3⟩
  rcases hg with hg|⟨j,want,hg,hy⟩
  ·exact .inl hg
  ·exact .inr ⟨j,want,hg,by rw [kT (h2 j want hg)];exact hy⟩
theorem lW.swap {i j:Nat}{di kU:Dt}{oi oj:Oper}{α1 rA:AA}{S1 S2:ae}(hi:ops[i]?=some oi) (hj:ops[j]?=some oj) (kD:oi.apart ops oj=true) (hd:dj di.ns kU.ns=true) (h:lW P w0 n ops B i di α S α1 S1) (k:lW P w0 n ops B j kU α1 S1 rA S2) :
  ∃ qH ve,lW P w0 n ops B j kU α S qH ve/\lW P w0 n ops B i di qH ve rA S2:=by
 obtain⟨e1,e2,e3⟩:=Oper.apart_spec kD
 obtain⟨lG,a,gC,rfl,sa,rfl,hBi⟩:=h.shape
 obtain rfl:lG=oi:=by rw [hi] at gC;exact (Option.some.inj gC).symm
 obtain⟨nB,b,lC,rfl,haj,rfl,hBj⟩:=k.shape
 obtain rfl:nB=oj:=by rw [hj] at lC;exact (Option.some.inj lC).symm
 simp only [dj,Dt.ns,Bool.and_eq_true,Bool.not_eq_true',Bool.and_eq_false_iff] at hd
 obtain⟨⟨⟨d1,d2⟩,d3⟩,d4⟩:=hd
 have wD:kE S kU.F:=fun p hp=>by
  have:=haj p hp
  rw [ec] at this
  rw [<-this]
  exact (iY fun hm=>xD d1 hm (List.mem_map.2 ⟨p,hp,rfl⟩) rfl).symm
 have z0:kE (dQ S kU.W kU.m) di.F:=fun p hp=>by
  rw [<-sa p hp,ec]
  exact iY fun hm=>xD d3 (List.mem_map.2 ⟨p,hp,rfl⟩) hm rfl
 have acV:dQ (dQ S kU.W kU.m) di.W di.m=dQ (dQ S di.W di.m) kU.W kU.m:=by
  simp only [ec]
  congr 1
  ·exact KI fun x hx y hy e=>xD d2 hy hx e.symm
  ·omega
 have kj:lW P w0 n ops B j kU α S (α.put nB.dst b) (dQ S kU.W kU.m):=by
  obtain⟨o,ho,hn,hp,q0,q1,q2,hk⟩:=k
  obtain rfl:o=nB:=by rw [hj] at ho;exact (Option.some.inj ho).symm
  have h1:∀ e,lG.dst=some e->e ∉ dp o:=fun e he hm=>e1 e he (oI hm)
  have h2:∀ q want,o.guard=some (q,want)->∀ e,lG.dst=some e->(ops[q]?).bind (·.dst) ≠ some e:=by
   intro q want hg e he h3
   refine e1 e he (List.mem_append.2 (.inr ?_))
   rw [hg]
   simp only
   rw [h3]
   simp
  have inj:∀ x y:AV,(α.put lG.dst a).put o.dst x=(α.put lG.dst a).put o.dst y->α.put o.dst x=α.put o.dst y:=by
   intro x y mD
   cases rf:o.dst with
   |none=>rfl
   |some d =>
    rw [rf] at mD
    have:x=y:=by
     have h3:=congrArg (fun z:AA=>z.tm d) mD
     simpa [AA.put,aE] using h3
    rw [this]
  refine⟨o,ho,hn,hp,hBi,wD,rfl,?_⟩
  rcases hk with ⟨q,want,c,hg,hy,bG,h3,h4⟩|⟨hg,r,h3,h4⟩
  ·exact .inl ⟨q,want,c,hg,by rw [<-kT (h2 q want hg)];exact hy,bG,inj _ _ h3,h4⟩
  ·rw [kV h1] at h4
   refine .inr ⟨?_,r,inj _ _ h3,fun T hb ht hm=>h4 T hb ht fun e=>?_⟩
   ·rcases hg with hg|⟨q,want,hg,hy⟩
    ·exact .inl hg
    ·exact .inr ⟨q,want,hg,by rw [<-kT (h2 q want hg)];exact hy⟩
   ·rw [hm e,ec]
    have:di.m=false:=d4.resolve_right (by rw [e];simp)
    simp [this]
 have ki:=(h.anyS (by rw [ec];exact Nat.le_trans hBi (Nat.le_add_right _ _)) z0 (fun e=>by
   rw [ec]
   have:kU.m=false:=d4.resolve_left (by rw [e];simp)
   simp [this])).frame (d:=nB.dst) (a:=b) fun o ho e he=>by
  obtain rfl:o=lG:=by rw [hi] at ho;exact (Option.some.inj ho).symm
  exact⟨e3 e he,fun h3=>e2 e h3 he⟩
 rw [acV,show (α.put lG.dst a).put nB.dst b=(α.put lG.dst a).put nB.dst b from rfl] at ki
 exact⟨_,_,kj,ki⟩
inductive gN (P:Program) (w0:World) (n:Nat) (ops:Array Oper) (B:Nat) (D:Nat->Dt):List Nat->AA->ae->AA->ae->Prop where
 |nil (α:AA) (S:ae):gN P w0 n ops B D [] α S α S
 |cons {i:Nat}{rest:List Nat}{α α1 aA:AA}{S S1 S':ae}(h:lW P w0 n ops B i (D i) α S α1 S1) (t:gN P w0 n ops B D rest α1 S1 aA S'):gN P w0 n ops B D (i::rest) α S aA S'
def V7 (ops:Array Oper) (D:Nat->Dt) (i j:Nat):Prop:=∃ oi oj,ops[i]?=some oi/\ops[j]?=some oj/\oi.apart ops oj=true/\dj (D i).ns (D j).ns=true
theorem gN.front {j:Nat}:∀ {C1 C2:List Nat}{α aA:AA}{S S':ae},(∀ x ∈ C1,V7 ops D x j)->gN P w0 n ops B D (C1++j::C2) α S aA S'->gN P w0 n ops B D (j::(C1++C2)) α S aA S'
 |[],C2,α,aA,S,S',_,h=>h
 |x::C1,C2,α,aA,S,S',hx,h=>by
  cases h with
  |@cons _ _ _ α1 _ _ S1 _ h t =>
   have t':=gN.front (fun y hy=>hx y (by simp [hy])) t
   cases t' with
   |@cons _ _ _ rA _ _ S2 _ k t2 =>
    obtain⟨oi,oj,hi,hj,h1,h2⟩:=hx x (by simp)
    obtain⟨qH,ve,h3,h4⟩:=h.swap hi hj h1 h2 k
    exact .cons h3 (.cons h4 t2)
theorem gN.perm:∀ {L C:List Nat}{α aA:AA}{S S':ae},C.Pairwise (· < ·)->L.Pairwise (fun y x=>x < y->V7 ops D x y)->(∀ x,x ∈ L ↔ x ∈ C)->L.Nodup->gN P w0 n ops B D C α S aA S'->gN P w0 n ops B D L α S aA S'
 |[],C,α,aA,S,S',_,_,hm,_,h=>by
  have:C=[]:=by
   cases C with
   |nil=>rfl
   |cons x C=>have:=(hm x).2 (by simp);cases this
  subst this
  exact h
 |y::L,C,α,aA,S,S',hC,hL,hm,hn,h=>by
  obtain⟨C1,C2,rfl⟩:=List.append_of_mem ((hm y).1 (by simp))
  rw [List.pairwise_cons] at hL
  rw [List.nodup_cons] at hn
  rw [List.pairwise_append,List.pairwise_cons] at hC
  obtain⟨p1,⟨p2,p3⟩,p4⟩:=hC
  have gT:∀ x ∈ C1,x < y:=fun x hx=>p4 x hx y (by simp)
  have aO:∀ x ∈ C2,y < x:=p2
  have eI:∀ x,x ∈ L ↔ x ∈ C1++C2:=by
   intro x
   have h0:=hm x
   simp only [List.mem_cons,List.mem_append] at h0 ⊢
   constructor
   ·intro hx
    rcases h0.1 (.inr hx) with h1|h1|h1
    ·exact .inl h1
    ·subst h1;exact absurd hx hn.1
    ·exact .inr h1
   ·intro hx
    have bG:x ≠ y:=by
     rintro rfl
     rcases hx with hx|hx
     ·exact absurd (gT x hx) (Nat.lt_irrefl _)
     ·exact absurd (aO x hx) (Nat.lt_irrefl _)
    rcases h0.2 (hx.elim .inl fun h=>.inr (.inr h)) with h1|h1
    ·exact absurd h1 bG
    ·exact h1
  have hf:=gN.front (fun x hx=>hL.1 x ((eI x).2 (by simp [hx])) (gT x hx)) h
  cases hf with
  |cons h1 h2 =>
   refine .cons h1 (gN.perm (L:=L) ?_ hL.2 eI hn.2 h2)
   rw [List.pairwise_append]
   exact⟨p1,p3,fun a ha b hb=>p4 a ha b (by simp [hb])⟩
theorem gN.vf:∀ {L:List Nat}{α aA:AA}{S S':ae},gN P w0 n ops B D L α S aA S'->qD P w0 n ops L α S aA S'
 |[],_,_,_,_,.nil α S=>fun F m A g a w Q hF hS hA hQ=>hQ a w g hS hA (Ext.refl ..)
 |i::rest,α,aA,S,S',.cons (α1:=α1) (S1:=S1) h t=>by
  have ih:=gN.vf t
  obtain⟨o,hi,hd,hp,hB,wD,eV,h⟩:=h
  rcases h with ⟨j,want,b,hg,hy,bG,rfl,uV⟩|⟨hg,r,rfl,h3⟩
  ·have e:S1=S:=by rw [eV,uV];exact cK
   subst e
   intro F m A g a w Q hF hS hA hQ
   have AW:¬ Region.wanted o (yielded ops a.tmps)=true:=by simp [Region.wanted,hg,oH hA hy,bG]
   simp only [wpOpsIn,hi]
   rw [if_neg AW]
   exact⟨fun f _=>hF.1 f,ih F m A g _ w Q hF hS (j_ hA hd .v) hQ⟩
  ·intro F m A g a w Q hF hS hA hQ
   have hw:Region.wanted o (yielded ops a.tmps)=true:=by
    rcases hg with hg|⟨j,want,hg,hy⟩
    ·simp [Region.wanted,hg]
    ·simp [Region.wanted,hg,oH hA hy]
   simp only [wpOpsIn,hi]
   rw [if_pos hw]
   have h4:=h3 S hB wD (fun _=>rfl)
   rw [<-eV] at h4
   refine⟨fun f _=>hF.1 f,h4 F m A g a w _ Q hF hS (hA.only _) fun v w' g' hr gR hE=>?_⟩
   exact ih F m A g' _ w' Q hF gR (j_ (hA.later hE.toLater) hd hr) fun a' qz sc h1 h2 h3=>hQ a' qz sc h1 h2 (hE.trans h3)
def rD (ops:Array Oper) (m:List Nat):Nat->List (Nat × Nat)
 |0=>[]
 |y+1=>((List.range y).filter fun x=>!(m.getD y 0).testBit x).map (fun x=>(x,y))++rD ops m y
def oV (ops:Array Oper) (i:Nat):Bool:=match ops[i]? with|some o=>jx o.op|none=>true
def Vt (ops:Array Oper) (x y:Nat):Bool:=match ops[x]?,ops[y]? with|some a,some b=>a.apart ops b|_,_=>false
def Qo (ops:Array Oper):List (Nat × Nat):=rD ops (beforeL [] ops.toList) ops.size
def tw (ops:Array Oper):List (Nat × Nat):=(Qo ops).filter fun p=>!oV ops p.1 && !oV ops p.2
def n0 (ops:Array Oper):Bool:=mG 0 ops.toList && (Qo ops).all fun p=>Vt ops p.1 p.2
theorem vh {m:List Nat}:∀ {k x y:Nat},y < k->x < y->(m.getD y 0).testBit x=false->(x,y) ∈ rD ops m k
 |0,x,y,h,_,_=>by omega
 |k+1,x,y,h,hx,hb=>by
  simp only [rD,List.mem_append]
  by_cases c:y=k
  ·subst c
   refine .inl (List.mem_map.2 ⟨x,List.mem_filter.2 ⟨by simpa using hx,by simp only [hb];rfl⟩,rfl⟩)
  ·exact .inr (vh (by omega) hx hb)
theorem AX {y:List Nat × List Nat × Bool}:dj Dt.none_.ns y=true:=by simp [dj,Dt.none_,Dt.ns,v3]
theorem AY {x:List Nat × List Nat × Bool}:dj x Dt.none_.ns=true:=by simp [dj,Dt.none_,Dt.ns,v3]
theorem gN.yT:∀ {L:List Nat}{α aA:AA}{S S':ae},gN P w0 n ops B D L α S aA S'->∀ i ∈ L,oV ops i=true->D i=.none_
 |_,_,_,_,_,.nil ..,i,hi,_=>by cases hi
 |_,_,_,_,_,.cons h t,i,hi,hp=>by
  rcases List.mem_cons.1 hi with rfl|hi
  ·obtain⟨o,h1,_,h2,_⟩:=h
   simp only [oV,h1] at hp
   exact h2 hp
  ·exact gN.yT t i hi hp
theorem cu.Z1 {rd:Bool}{id:Nat}(hm:P.follows .mixedOrders=true) (nu:n0 ops=true) (hv:∀ p ∈ tw ops,dj (D p.1).ns (D p.2).ns=true) (h:gN P w0 n ops B D (List.range ops.size) α S aA S'):cu P w0 rd n (.region id ops true) α S .normal aA S':=by
 intro F m A g a w hF hR hS hA
 simp only [n0,Bool.and_eq_true] at nu
 obtain⟨he,hp⟩:=nu
 refine wpIn_region_draw fun t=>?_
 simp only [Region.schedule,hm,Bool.true_or,if_true]
 have hd:tx ops (Array.replicate ops.size false):=⟨by simp,fun y x hy=>by
  simp only [Array.getD_eq_getD_getElem?,Array.getElem?_replicate] at hy
  split at hy<;>simp at hy⟩
 obtain⟨f1,f2,f3,f4⟩:=nb he ops.size t _ hd
 have kK:∀ x,x ∈ Region.linearise .any ops t ↔ x ∈ List.range ops.size:=by
  intro x
  refine⟨fun hx=>by simpa using (f1 x hx).1,fun hx=>?_⟩
  have hx:x < ops.size:=by simpa using hx
  by_cases c:x ∈ Region.linearise .any ops t
  ·exact c
  ·exfalso
   have hl:=f4 ⟨x,hx,by simp [Array.getD_eq_getD_getElem?,Array.getElem?_replicate,hx],c⟩
   have nG:(x::Region.linearise.go .any ops ops.size t (Array.replicate ops.size false) []).Nodup:=by
    rw [List.nodup_cons];exact⟨c,f2⟩
   have hlen:=vg (x::Region.linearise.go .any ops ops.size t (Array.replicate ops.size false) []) nG ops.size (fun y hy=>by
    rcases List.mem_cons.1 hy with rfl|hy
    ·exact hx
    ·exact (f1 y hy).1)
   rw [List.length_cons,hl] at hlen
   omega
 have hL:(Region.linearise .any ops t).Pairwise (fun y x=>x < y->V7 ops D x y):=by
  refine List.Pairwise.imp_of_mem ?_ f3
  intro y x hy hx hb mD
  have eI:=vh (ops:=ops) (f1 y hy).1 mD hb
  have kD:=List.all_eq_true.1 hp _ eI
  unfold Vt at kD
  split at kD
  ·rename_i oi oj hi hj
   refine⟨oi,oj,hi,hj,kD,?_⟩
   have E8:x ∈ List.range ops.size:=(kK x).1 hx
   have PT:y ∈ List.range ops.size:=(kK y).1 hy
   cases Fu:oV ops x with
   |true=>rw [h.yT x E8 Fu];exact AX
   |false =>
    cases Fv:oV ops y with
    |true=>rw [h.yT y PT Fv];exact AY
    |false=>exact hv (x,y) (List.mem_filter.2 ⟨eI,by simp [Fu,Fv]⟩)
  ·cases kD
 have hC:(List.range ops.size).Pairwise (· < ·):=List.pairwise_lt_range
 obtain⟨hE,eV⟩:=hS.drew
 have eV:St w0 A g S { w with drawn:=w.drawn+1 }:=eV
 refine (gN.perm hC hL kK f2 h).vf F m A g a _ _ hF eV (hA.later hE.toLater) fun a' w' g' h1 h2 h3=>⟨rfl,g',h1,h2,hE.trans h3⟩
end
def cB (P:Program) (w0:World) (B:Nat) (q:dm) (α:AA) (S:ae) (r:AV) (d:Dt):Prop :=
 ∀ (n:Nat) (o:Oper),res P.toTables o.op=some q->(jx o.op=true->d=.none_)/\kE S d.F/\∀ T,B<=T.nx->kE T d.F->(d.m=true->T.nx=S.nx)->ew P w0 n o (α.only (dp o)) T r (dQ T d.W d.m)
def zN:dm->Bool
 |.mv _|.pick ..|.build ..|.rows ..|.not _|.vA ..|.field ..|.extract ..|.BW ..|.vB _=>true
 |_=>false
def dq (q:dm) (f:Nat->AV) (S:ae) (rs:List Nat):Option (AV × Dt × List Nat) :=
 match q with
 |.load k x=>match x.ev f with
  |.ip row=>match qh k row 0 with
   |some a=>some (a,⟨[],[],false⟩,rs)
   |none=>none
  |.pt b sz i j=>match S.get b with
   |some (.arr sz' rows fz ex)=>match kQ k S (.pt b sz i j) with
    |some a=>some (a,⟨[(b,.arr sz' rows fz ex)],[],false⟩,rs)
    |none=>none
   |_=>none
  |_=>none
 |.store n x b=>match b.ev f,x.ev f with
  |bv,.pt k sz 0 j=>match S.get k with
   |some (.arr sz' [row] 0 ex)=>match Nat.beq sz sz' && (aZ bv).all cn && Nat.beq n (aZ bv).length with
    |true=>match Nat.ble (j+(aZ bv).length) row.length with
     |true=>some (.v undef,⟨[(k,.arr sz' [row] 0 ex)],[(k,some (.arr sz [nK row j (aZ bv)] 0 ex))],false⟩,rs)
     |false=>none
    |false=>none
   |_=>none
  |_,_=>none
 |.alloc cs=>match rs with
  |k::rs=>match S.get k with
   |some .un=>some (.pt k cs.length 0 0,⟨[(k,.un)],[(k,some (.arr cs.length [cs] 0 true))],false⟩,rs)
   |_=>none
  |[]=>none
 |.box x=>match (aZ (x.ev f)).all cn with
  |true=>some (.pt S.nx (aZ (x.ev f)).length 0 0,⟨[],[(S.nx,some (.arr (aZ (x.ev f)).length [aZ (x.ev f)] 0 true))],true⟩,rs)
  |false=>none
 |.call ..=>none
 |q=>match zN q with
  |true=>match gU q f S with
   |some (r,_)=>some (r,⟨[],[],false⟩,rs)
   |none=>none
  |false=>none
section
variable {P:Program}{w0:World}{n B:Nat}{o:Oper}{α:AA}{S S':ae}{r:AV}{q:dm}{d:Dt}{rs mE:List Nat}
theorem CZ {f:Nat->AV}(hp:zN q=true) (h:gU q f S=some (r,S')) (T:ae):gU q f T=some (r,T):=by
 have e:∀ {a:AV}{X Y:ae},some (a,X)=some (r,Y)->a=r:=fun h=>by injection h with h;injection h
 cases q<;>first|(exfalso;cases hp;done)|skip
 all_goals
  simp only [gU] at h ⊢
  repeat' split at h
  all_goals first
   |(cases h;done)
   |(obtain rfl:=e h;simp only [*];done)
   |(obtain rfl:=e h;rfl)
theorem cB.Az (h1:∀ o,res P.toTables o=some q->jx o=true->d=.none_) (h2:kE S d.F) (h:∀ T,kE T d.F->(d.m=true->T.nx=S.nx)->∀ o,res P.toTables o=some q->bo P w0 o α T (tO r (dQ T d.W d.m))):cB P w0 B q α S r d:=by
 intro n o hr
 refine⟨h1 _ hr,h2,fun T _ hT hm=>?_⟩
 obtain⟨r',S1,h4,rfl,rfl⟩:=pE (n:=n) (h T hT hm o.op hr)
 exact h4
theorem Eo {e:TypeId}{z:Value}{k:Nat}(ho:o.op=.alloc e) (hz:c_ P e=some z) (hk:S.get k=some .un) (au:k < S.nx):bf P w0 n o α S (.pt k (z.cells.toList.map bV).length 0 0) (S.set k (some (.arr (z.cells.toList.map bV).length [z.cells.toList.map bV] 0 true))):=by
 intro A g a w hS hA
 obtain⟨cs,Ap⟩:∃ cs,z.cells.toList.map bV=cs:=⟨_,rfl⟩
 have ji:=ma.bV (g:=g) (w:=w) z.cells
 rw [Ap] at ji ⊢
 have tY:¬ g.al k:=fun h=>(hS.cC k _ hk h).2.2
 have lA:St w0 A g (S.set k (some (.arr cs.length [cs] 0 true))) w:=hS.forget (Nat.le_refl _) fun j p hj ha=>by
  have hj:bO S.get k (some (.arr cs.length [cs] 0 true)) j=some p:=hj
  rwa [aK _ _ (fun e=>tY (by rw [<-e];exact ha))] at hj
 obtain⟨hE,dg⟩:=lA.newAt (.cells z.cells e) tY au 1 (fun J hJ=>by
  have hJ:bO S.get k (some (.arr cs.length [cs] 0 true)) k=some (.fo J):=hJ
  rw [aE] at hJ
  cases hJ) (fun ob gB hL=>by
  have gB:bO S.get k (some (.arr cs.length [cs] 0 true)) k=some ob:=gB
  rw [aE] at gB
  obtain rfl:=Option.some.inj gB
  refine⟨z.cells,e,dk,by rw [ji.1];simp,by simp,fun _=>rfl,fun i row hr=>?_,Nat.zero_le _,fun q=>⟨fun hf=>?_,fun hf=>by simp at hf⟩⟩
  ·cases i with
   |succ i=>simp at hr
   |zero =>
    simp at hr
    subst hr
    refine⟨rfl,fun j a ha=>?_⟩
    have hj:j < z.cells.size:=by rw [ji.1];exact (List.getElem?_eq_some_iff.1 ha).1
    exact⟨z.cells[j],by simp,(ji.2 j a _ ha (Array.getElem?_eq_getElem hj)).later hL⟩
  ·exact absurd (hS.cG _ _ hf) (by omega))
 have hp:=aJ.pt (g:=g.new k w.heap.size 1) (w:=w.alloc (.cells z.cells e)) (k:=k) (sz:=cs.length) (i:=0) (j:=0) (.inr rfl)
 rw [show (g.new k w.heap.size 1).ob k=w.heap.size from aE _ _ _] at hp
 refine⟨_,_,_,.inl ?_,by simpa using hp,dg,hE⟩
 simp [execOp,ho,Instr.alloc,mw hz,newVar,newRow]
theorem xx {f:Nat->AV}{df:List Nat}(fp:∀ k ∈ rs,k < B) (h:dq q f S rs=some (r,d,mE)):cB P w0 B q ⟨f,df⟩ S r d/\∀ k ∈ mE,k ∈ rs:=by
 have hq:∀ {T:ae},zN q=true->(match gU q f S with|some (r,_)=>some (r,(⟨[],[],false⟩:Dt),rs)|none=>none)=some (r,d,mE)->cB P w0 B q ⟨f,df⟩ S r d/\∀ k ∈ mE,k ∈ rs:=by
  intro T hp h
  split at h
  ·rename_i a X hx
   simp only [Option.some.injEq,Prod.mk.injEq] at h
   obtain⟨rfl,rfl,rfl⟩:=h
   exact⟨cB.Az (fun _ _ _=>rfl) (fun p hp=>by cases hp) fun T _ _ o hr=>by
    rw [show dQ T [] false=T from cK]
    exact oM (α:=⟨f,df⟩) hr (CZ hp hx T),fun _ hk=>hk⟩
  ·cases h
 have nP:∀ {A:Prop},(∀ o,res P.toTables o=some q->jx o=true->A)->∀ o,res P.toTables o=some q->jx o=true->A:=fun h=>h
 cases q with
 |load k x =>
  have np:∀ o,res P.toTables o=some (.load k x)->jx o=true->d=.none_:=fun o hr hp=>by
   cases o<;>simp only [res] at hr<;>(repeat' split at hr)<;>(try cases hr)<;>cases hp
  have fin:∀ {a:AV}{F:List (Nat × Ob)},(∀ T,kE T F->kQ k T (x.ev f)=some a)->kE S F->some (a,(⟨F,[],false⟩:Dt),rs)=some (r,d,mE)->cB P w0 B (.load k x) ⟨f,df⟩ S r d/\∀ k ∈ mE,k ∈ rs:=by
   intro a F h1 h2 h
   simp only [Option.some.injEq,Prod.mk.injEq] at h
   obtain⟨rfl,rfl,rfl⟩:=h
   refine⟨cB.Az np h2 fun T hT _ o hr=>?_,fun _ hk=>hk⟩
   rw [show dQ T [] false=T from cK]
   exact oM (α:=⟨f,df⟩) hr (by simp only [gU,h1 T hT])
  simp only [dq] at h
  split at h
  ·rename_i row hx
   split at h
   ·rename_i a ha
    exact fin (fun T _=>by rw [hx];exact ha) (fun p hp=>by cases hp) h
   ·cases h
  ·rename_i b sz i j hx
   split at h
   ·rename_i sz' rows fz ex hb
    split at h
    ·rename_i a ha
     refine fin (fun T hT=>?_) (fun p hp=>by simp only [List.mem_singleton] at hp;subst hp;exact hb) h
     have Fq:T.get b=some (.arr sz' rows fz ex):=hT (b,_) (by simp)
     rw [hx]
     simp only [kQ,hb,Fq] at ha ⊢
     exact ha
    ·cases h
   ·cases h
  ·cases h
 |store m x b =>
  have np:∀ o,res P.toTables o=some (.store m x b)->jx o=true->d=.none_:=fun o hr hp=>by
   cases o<;>simp only [res] at hr<;>(repeat' split at hr)<;>(try cases hr)<;>cases hp
  simp only [dq] at h
  split at h
  ·rename_i bv k sz j hx
   split at h
   ·rename_i sz' row ex hk
    split at h
    ·rename_i hc
     split at h
     ·rename_i hl
      simp only [Option.some.injEq,Prod.mk.injEq] at h
      obtain⟨rfl,rfl,rfl⟩:=h
      refine⟨cB.Az np (fun p hp=>by simp only [List.mem_singleton] at hp;subst hp;exact hk) fun T hT _ o hr=>?_,fun _ hk=>hk⟩
      refine oM (α:=⟨f,df⟩) hr ?_
      obtain⟨G,X⟩:=T
      have jh:G k=some (.arr sz' [row] 0 ex):=hT (k,_) (by simp)
      simp only [gU,hx,jh,hc,hl,dQ,fM]
     ·cases h
    ·cases h
   ·cases h
  ·cases h
 |alloc cs =>
  simp only [dq] at h
  split at h
  ·rename_i k PZ
   split at h
   ·rename_i hk
    simp only [Option.some.injEq,Prod.mk.injEq] at h
    obtain⟨rfl,rfl,rfl⟩:=h
    refine⟨fun n o hr=>⟨fun hp=>?_,fun p hp=>by simp only [List.mem_singleton] at hp;subst hp;exact hk,fun T hb hT _=>?_⟩,fun _ h=>by simp [h]⟩
    ·cases ho:o.op<;>rw [ho] at hr hp<;>simp only [res] at hr<;>(repeat' split at hr)<;>(try cases hr)<;>cases hp
    ·have jh:T.get k=some .un:=hT (k,_) (by simp)
     have bz:∃ e z,o.op=.alloc e/\c_ P e=some z/\cs=z.cells.toList.map bV:=by
      cases ho:o.op<;>rw [ho] at hr<;>simp only [res,gD] at hr<;>(repeat' split at hr)<;>(try cases hr)
      exact⟨_,_,rfl,by assumption,rfl⟩
     obtain⟨e,z,ho,hz,rfl⟩:=bz
     have e1:dQ T [(k,some (.arr (z.cells.toList.map bV).length [z.cells.toList.map bV] 0 true))] false=T.set k (some (.arr (z.cells.toList.map bV).length [z.cells.toList.map bV] 0 true)):=by cases T;rfl
     rw [e1]
     refine fun F mm A g a w nx Q hF hS hA hn=>?_
     have au:k < T.nx:=Nat.lt_of_lt_of_le (fp k (by simp)) hb
     exact ((Eo (P:=P) (n:=n) ho hz jh au).ops fun c e=>by rw [ho] at e;cases e) F mm A g a w nx Q hF hS hA hn
   ·cases h
  ·cases h
 |box x =>
  have np:∀ o,res P.toTables o=some (.box x)->jx o=true->d=.none_:=fun o hr hp=>by
   cases o<;>simp only [res] at hr<;>(repeat' split at hr)<;>(try cases hr)<;>cases hp
  simp only [dq] at h
  split at h
  ·rename_i hc
   simp only [Option.some.injEq,Prod.mk.injEq] at h
   obtain⟨rfl,rfl,rfl⟩:=h
   refine⟨cB.Az np (fun p hp=>by cases hp) fun T hT hm o hr=>?_,fun _ hk=>hk⟩
   have hm:=hm rfl
   refine oM (α:=⟨f,df⟩) hr ?_
   obtain⟨G,X⟩:=T
   simp only at hm
   subst hm
   simp only [gU,hc,nU,ib,dQ,fM]
   rfl
  ·cases h
 |call g aZ9=>cases h
 |_ =>
  first
  |exact hq (T:=S) rfl h
  |(simp only [dq,zN] at h;cases h)
end
structure QI where
 d:Option Nat
 g:Option (Nat × Bool)
 q:dm
inductive QC where
 |skip
 |bD (dr:Bool) (l:List QI)
 |dJ (V:List (Nat × Nat)) (l:List QI)
 |seq (a b:QC)
 |cond (x:QO) (a b:QC)
 |block (id:Nat) (a:QC)
 |scope (a:QC)
 |loop (a:QC)
 |exit (id:Nat)
 |ret
 |sR (x:QO) (ps:List Nat) (a b:QC)
 |raw (c:Code)
def ko (T:Tables) (n:Nat) (ops:List Oper):List Oper->Option (List QI)
 |[]=>some []
 |o::l=>match pj n o.dst,res T o.op,ko T n ops l with
  |true,some q,some l'=>match o.guard with
   |none=>some (⟨o.dst,none,q⟩::l')
   |some (j,want)=>match s9 ops j with
    |some t=>some (⟨o.dst,some (t,want),q⟩::l')
    |none=>none
  |_,_,_=>none
def M1 (ops:Array Oper):Bool:=ops.toList.any fun o=>match o.op with
 |.call c=>match c.callee,c.args.toList with
  |.builtin .append,.tmp t::_=>ops.toList.any fun p=>(match p.dst with|some d=>Nat.beq d t|none=>false) && (match p.op with|.call c=>(match c.callee with|.value _=>true|_=>false)|_=>false)
  |_,_=>false
 |_=>false
def v5 (ops:Array Oper):Bool:=zb ops && !M1 ops
def comp (T:Tables) (n:Nat):Code->Option QC
 |.skip=>some .skip
 |.label _=>some .skip
 |.region _ ops dr=>match ko T n ops.toList ops.toList with
  |some l=>match dr with
   |false=>some (.bD false l)
   |true=>match v5 ops with
    |true=>some (.bD true l)
    |false=>some (.dJ (tw ops) l)
  |none=>none
 |.seq a b=>match comp T n a,comp T n b with
  |some a',some b'=>some (.seq a' b')
  |_,_=>none
 |.cond c a b=>match comp T n a,comp T n b with
  |some a',some b'=>some (.cond (qo c) a' b')
  |_,_=>none
 |.block id a=>match comp T n a with
  |some a'=>some (.block id a')
  |none=>none
 |.scope a=>match comp T n a with
  |some a'=>some (.scope a')
  |none=>none
 |.loop a=>match comp T n a with
  |some a'=>some (.loop a')
  |none=>none
 |.exit id=>some (.exit id)
 |.ret=>some .ret
 |.rangeFunc f ps a b=>match comp T n a,comp T n b with
  |some a',some b'=>some (.sR (qo f) ps.toList a' b')
  |_,_=>none
 |c=>some (.raw c)
def cH (P:Program):Code->Bool
 |.region _ ops true=>P.follows .mixedOrders && (v5 ops || n0 ops)
 |.seq a b=>cH P a && cH P b
 |.cond _ a b=>cH P a && cH P b
 |.block _ a=>cH P a
 |.scope a=>cH P a
 |.loop a=>cH P a
 |.rangeFunc _ _ a b=>cH P a && cH P b
 |_=>true
inductive iC where
 |seq (c:QC)
 |qY (id:Nat)
 |uc
inductive QF where
 |run (c:QC) (K:List iC)
 |out (ex:Exit) (K:List iC)
 |bD (dr:Bool) (l:List QI) (K:List iC)
 |dJ (B:Nat) (V:List (Nat × Nat)) (lg:List (List Nat × List Nat × Bool)) (rs:List Nat) (l:List QI) (K:List iC)
def vi (lg:List (List Nat × List Nat × Bool)) (i:Nat):List Nat × List Nat × Bool:=lg.getD i ([],[],false)
def gA:List QI->Nat->List Nat
 |[],_=>[]
 |i::l,x=>match i.q with|.alloc _=>x::gA l (x+1)|_=>gA l x
def Fy (G:Nat->Option Ob):List Nat->Nat->Option Ob
 |[]=>G
 |k::ks=>bO (Fy G ks) k (some .un)
def tz (S:ae) (l:List QI):ae:=match S with|⟨G,x⟩=>⟨Fy G (gA l x),x+(gA l x).length⟩
def V8 (V:List (Nat × Nat)) (lg:List (List Nat × List Nat × Bool)):Bool:=V.all fun p=>dj (vi lg p.1) (vi lg p.2)
section
variable (P:Program) (w0:World) (rd:Bool) (n:Nat)
def fE (b:QC) (Q:Exit->AA->ae->Prop) (α:AA) (S:ae):Prop:=∀ c,comp P.toTables n c=some b->cH P c=true->Wp P w0 rd n c Q α S
def cS (Q:Exit->AA->ae->Prop):List iC->Exit->AA->ae->Prop
 |[]=>Q
 |.seq b::K=>fun ex α S=>match ex with|.normal=>fE P w0 rd n b (cS Q K) α S|e=>cS Q K e α S
 |.qY id::K=>fun ex α S=>match ex with|.exit j=>(match Nat.beq j id with|true=>cS Q K .normal α S|false=>cS Q K (.exit j) α S)|e=>cS Q K e α S
 |.uc::K=>fun ex α S=>match ex with|.goto _=>False|e=>cS Q K e α S
def DW (ops:Array Oper) (l:List Nat) (α:AA) (S:ae) (ch:List PanicEntry) (aA:AA) (S':ae):Prop :=
 ∀ (F:Fence) (m:Nat) (A:Nat->Prop) (g:Gh) (a:Act) (w:World) (Q:Exit->Act->World->Prop),g7 F->St w0 A g S w->bY g w n α a ->
  (∀ (a':Act) (w':World) (g':Gh),St w0 A g' S' w'->bY g' w' n aA a'->Ext A g w g' w'->Q (.panic ch) a' w')->wpOpsIn F m P ops Q l a w
def tH (ops l:List Oper) (Q:AA->ae->Prop) (E:List PanicEntry->AA->ae->Prop) (α:AA) (S:ae):Prop :=
 ∀ k,ops.drop k=l->(∃ aA S',qD P w0 n ops.toArray (List.range' k l.length) α S aA S'/\Q aA S')\/∃ ch aA S',DW P w0 n ops.toArray (List.range' k l.length) α S ch aA S'/\E ch aA S'
def ea (dr:Bool) (l:List QI) (Q:AA->ae->Prop) (E:List PanicEntry->AA->ae->Prop) (α:AA) (S:ae):Prop :=
 ∀ ops rest,ko P.toTables n ops rest=some l->match dr with|false=>tH P w0 n ops rest Q E α S|true=>mg P w0 n ops rest Q α S
def lH (B:Nat) (V:List (Nat × Nat)) (lg:List (List Nat × List Nat × Bool)) (l:List QI) (Q:AA->ae->Prop) (α:AA) (S:ae):Prop :=
 ∀ ops:List Oper,ko P.toTables n ops (ops.drop lg.length)=some l->∃ (D:Nat->Dt) (aA:AA) (S':ae),gN P w0 n ops.toArray B D (List.range' lg.length l.length) α S aA S'/\V8 V (lg++(List.range' lg.length l.length).map fun i=>(D i).ns)=true/\Q aA S'
def ab (Q:Exit->AA->ae->Prop):QF->AA->ae->Prop
 |.run c K,α,S=>fE P w0 rd n c (cS P w0 rd n Q K) α S
 |.out ex K,α,S=>cS P w0 rd n Q K ex α S
 |.bD dr l K,α,S=>ea P w0 n dr l (fun α S=>cS P w0 rd n Q K .normal α S) (fun ch α S=>cS P w0 rd n Q K (.panic ch) α S) α S
 |.dJ B V lg rs l K,α,S=>(∀ k ∈ rs,k < B)->B<=S.nx->lH P w0 n B V lg l (fun α S=>cS P w0 rd n Q K .normal α S) α S
def cj (f:Nat->AV):Option (Nat × Bool)->Option Bool
 |none=>some true
 |some (t,want)=>match f t with
  |.v (.bool true)=>some want
  |.v (.bool false)=>match want with|true=>some false|false=>some true
  |.v (.tuple _)=>some false
  |_=>none
def cD (d:Option Nat) (α:AA) (r:AV):AA:=match α,d with|⟨f,l⟩,some d=>⟨bO f d r,l⟩|α,none=>α
def ue:QF->AA->ae->Option (QF × AA × ae)
 |.run c K,α,S=>match c with
  |.skip=>some (.out .normal K,α,S)
  |.bD false l=>some (.bD false l K,α,S)
  |.bD true l=>some (.bD true l K,α,S)
  |.dJ V l=>match S with|⟨G,x⟩=>some (.dJ (x+(gA l x).length) V [] (gA l x) l K,α,tz ⟨G,x⟩ l)
  |.seq a b=>some (.run a (.seq b::K),α,S)
  |.cond x a b=>match x.ev α.tm with
   |.v (.bool true)=>some (.run a K,α,S)
   |.v (.bool false)=>some (.run b K,α,S)
   |_=>none
  |.block id c=>some (.run c (.qY id::K),α,S)
  |.scope c=>some (.run c (.uc::K),α,S)
  |.exit id=>some (.out (.exit id) K,α,S)
  |.ret=>some (.out .ret K,α,S)
  |_=>none
 |.out ex K,α,S=>match K with
  |[]=>none
  |.seq b::K=>match ex with
   |.normal=>some (.run b K,α,S)
   |e=>some (.out e K,α,S)
  |.qY id::K=>match ex with
   |.exit j=>match Nat.beq j id with
    |true=>some (.out .normal K,α,S)
    |false=>some (.out (.exit j) K,α,S)
   |e=>some (.out e K,α,S)
  |.uc::K=>match ex with
   |.goto _=>none
   |e=>some (.out e K,α,S)
 |.bD dr l K,α,S=>match l with
  |[]=>some (.out .normal K,α,S)
  |i::l=>match cj α.tm i.g with
   |some true=>match gU i.q α.tm S with
    |some (r,S')=>some (.bD dr l K,cD i.d α r,S')
    |none=>none
   |some false=>some (.bD dr l K,cD i.d α (.v undef),S)
   |none=>none
 |.dJ B V lg rs l K,α,S=>match l with
  |[]=>match V8 V lg with
   |true=>some (.out .normal K,α,S)
   |false=>none
  |i::l=>match cj α.tm i.g with
   |some true=>match dq i.q α.tm S rs with
    |some (r,d,mE)=>some (.dJ B V (lg++[d.ns]) mE l K,cD i.d α r,dQ S d.W d.m)
    |none=>none
   |some false=>some (.dJ B V (lg++[([],[],false)]) rs l K,cD i.d α (.v undef),S)
   |none=>none
end
section
variable {P:Program}{w0:World}{rd:Bool}{n:Nat}{α aA:AA}{S S':ae}{Q Q':Exit->AA->ae->Prop}{ex:Exit}{r:AV}{i:QI}{l:List QI}{R:AA->ae->Prop}{E:List PanicEntry->AA->ae->Prop}
theorem n_ {d:Option Nat}:cD d α r=vv d α r:=by cases d<;>cases α<;>rfl
theorem kW {ops rest:List Oper}(h:ko P.toTables n ops rest=some (i::l)):∃ o jT,rest=o::jT/\ko P.toTables n ops jT=some l/\pj n o.dst=true/\o.dst=i.d/\res P.toTables o.op=some i.q /\
  (∀ b,cj α.tm i.g=some b->iW ops α o=some b):=by
 cases rest with
 |nil=>cases h
 |cons o jT =>
  simp only [ko] at h
  split at h
  ·rename_i q l' h1 h2 h3
   split at h
   ·rename_i hg
    injection h with h
    injection h with h4 h5
    subst h4 h5
    exact⟨o,jT,rfl,h3,h1,rfl,h2,fun b hb=>by simp only [cj,Option.some.injEq] at hb;subst hb;simp only [iW,hg]⟩
   ·rename_i j want hg
    split at h
    ·rename_i t ht
     injection h with h
     injection h with h4 h5
     subst h4 h5
     refine⟨o,jT,rfl,h3,h1,rfl,h2,fun b hb=>?_⟩
     simp only [iW,hg,Ol,ht]
     simp only [cj] at hb
     split at hb
     ·rename_i e;rw [e];exact hb
     ·rename_i e;rw [e];cases want<;>exact hb
     ·rename_i e;rw [e];exact hb
     ·cases hb
    ·cases h
  ·cases h
theorem ea.nil {dr:Bool}(h:R α S):ea P w0 n dr [] R E α S:=by
 intro ops rest hc
 have:rest=[]:=by
  cases rest with
  |nil=>rfl
  |cons o r =>
   simp only [ko] at hc
   repeat' split at hc
   all_goals cases hc
 subst this
 cases dr with
 |false=>exact fun k hk=>.inl (M0.nil (ops:=ops) h k hk)
 |true=>exact mg.nil h
def FD (P:Program) (w0:World) (n:Nat) (o:Oper) (α:AA) (S:ae) (r:AV) (S':ae):Prop :=
 ew P w0 n o (α.only (dp o)) S r S'/\(jx o.op=true->S'=S/\∀ S,ew P w0 n o (α.only (dp o)) S r S)/\(y8 o.op=false->S'=S)
theorem FD.ofD {o:Oper}(h:qW P w0 o.op α S (tO r S')):FD P w0 n o α S r S':=by
 cases hp:jx o.op with
 |true =>
  obtain⟨r2,h1,h2⟩:=ZG hp (Qm h)
  obtain⟨rfl,rfl⟩:=h1
  have h3:∀ T,ew P w0 n o (α.only (dp o)) T r2 T:=fun T=>by
   obtain⟨r',S',h4,rfl,rfl⟩:=pE (n:=n) (h2 T)
   exact h4
  exact⟨h3 _,fun _=>⟨rfl,h3⟩,fun _=>rfl⟩
 |false =>
  cases hw:y8 o.op with
  |false =>
   obtain⟨r2,h1,h2⟩:=ZZ hp hw h
   obtain⟨rfl,rfl⟩:=h1
   obtain⟨r',S',h4,rfl,rfl⟩:=pE (n:=n) h2
   exact⟨h4,fun h=>(by rw [hp] at h;cases h),fun _=>rfl⟩
  |true =>
   obtain⟨r2,S2,h1,rfl,rfl⟩:=pE (n:=n) (Qm h)
   exact⟨h1,fun h=>(by rw [hp] at h;cases h),fun h=>(by rw [hw] at h;cases h)⟩
theorem mg.opG {o:Oper}{rest ops:List Oper}{Q:AA->ae->Prop}(hd:pj n o.dst=true) (hw:iW ops α o=some true) (h:FD P w0 n o α S r S') (k:mg P w0 n ops rest Q (vv o.dst α r) S'):mg P w0 n ops (o::rest) Q α S:=by
 intro i hi
 obtain⟨h1,h2⟩:=drop_cons hi
 obtain⟨aA,T,h4,h5⟩:=k (i+1) h2
 rw [vZ] at h4
 exact⟨aA,T,.cons ⟨o,h1,hd,.inr ⟨tG hw,r,rfl,h⟩⟩ h4,h5⟩
def ad (P:Program) (w0:World) (dr:Bool) (q:dm) (α:AA) (S:ae) (r:AV) (S':ae):Prop :=
 match dr with
 |true=>∀ (n:Nat) (o:Oper),res P.toTables o.op=some q->FD P w0 n o α S r S'
 |false=>∀ (n:Nat) (o:Oper),res P.toTables o.op=some q->ew P w0 n o α S r S'
theorem ew.Az {n:Nat}{o:Oper}(h:bo P w0 o.op α S (tO r S')):ew P w0 n o α S r S':=by
 obtain⟨r1,S1,h3,rfl,rfl⟩:=AQ (n:=n) h
 exact h3
theorem ad.run {q:dm}(h:∀ (n:Nat) (o:Oper),res P.toTables o.op=some q->bf P w0 n o α S r S'):ad P w0 false q α S r S':=fun n o hr=>(h n o hr).ops fun c e=>by rw [e] at hr;cases hr
theorem DW.step {ops:Array Oper}{i:Nat}{o:Oper}{rest:List Nat}{aA:AA}{bZ:ae}{ch:List PanicEntry}(hi:ops[i]?=some o) (hd:(match o.dst with|some d=>Nat.blt d n|none=>true)=true)
  (hw:∀ (g:Gh) (w:World) (a:Act),bY g w n α a->Region.wanted o (yielded ops a.tmps)=true) (h:ew P w0 n o α S r bZ) (k:DW P w0 n ops rest (α.put o.dst r) bZ ch aA S'):DW P w0 n ops (i::rest) α S ch aA S':=by
 intro F m A g a w Q hF hS hA hQ
 simp only [wpOpsIn,hi]
 rw [if_pos (hw g w a hA)]
 refine⟨fun f _=>hF.1 f,h F m A g a w _ Q hF hS hA fun v w' g' hr gR hE=>?_⟩
 exact k F m A g' _ w' Q hF gR (j_ (hA.later hE.toLater) hd hr) fun a' qz sc h1 h2 h3=>hQ a' qz sc h1 h2 (hE.trans h3)
theorem vw {ops:List Oper}{o:Oper}(hw:iW ops α o=some true) (g:Gh) (w:World) (a:Act) (hA:bY g w n α a):Region.wanted o (yielded ops.toArray a.tmps)=true:=by
 rcases tG hw with hg|⟨j,want,hg,hy⟩
 ·simp [Region.wanted,hg]
 ·simp [Region.wanted,hg,oH hA hy]
theorem tH.qy {o:Oper}{rest ops:List Oper}{Q:AA->ae->Prop}(hd:pj n o.dst=true) (hw:iW ops α o=some true) (h:ew P w0 n o α S r S') (k:tH P w0 n ops rest Q E (vv o.dst α r) S'):tH P w0 n ops (o::rest) Q E α S:=by
 intro i hi
 obtain⟨h1,h2⟩:=drop_cons hi
 have h3:=k (i+1) h2
 rw [vZ] at h3
 exact h3.imp (fun ⟨aA,T,h4,h5⟩=>⟨aA,T,qD.step h1 hd (vw hw) h h4,h5⟩) fun ⟨ch,aA,T,h4,h5⟩=>⟨ch,aA,T,DW.step h1 hd (vw hw) h h4,h5⟩
theorem tH.skip {o:Oper}{rest ops:List Oper}{Q:AA->ae->Prop}(hd:pj n o.dst=true) (hw:iW ops α o=some false) (k:tH P w0 n ops rest Q E (vv o.dst α (.v undef)) S):tH P w0 n ops (o::rest) Q E α S:=by
 intro i hi
 obtain⟨h1,h2⟩:=drop_cons hi
 have h3:=k (i+1) h2
 rw [vZ] at h3
 obtain⟨j,want,b,hg,hy,bG⟩:=wK hw
 have AW:∀ (g:Gh) (w:World) (a:Act),bY g w n α a->¬ Region.wanted o (yielded ops.toArray a.tmps)=true:=fun g w a hA=>by simp [Region.wanted,hg,oH hA hy,bG]
 refine h3.imp (fun ⟨aA,T,h4,h5⟩=>⟨aA,T,fun F m A g a w Q hF hS hA hQ=>?_,h5⟩) fun ⟨ch,aA,T,h4,h5⟩=>⟨ch,aA,T,fun F m A g a w Q hF hS hA hQ=>?_,h5⟩
 ·show wpOpsIn F m P ops.toArray Q (i::List.range' (i+1) rest.length) a w
  simp only [wpOpsIn,h1]
  rw [if_neg (AW g w a hA)]
  exact⟨fun f _=>hF.1 f,h4 F m A g _ w Q hF hS (j_ hA hd .v) hQ⟩
 ·show wpOpsIn F m P ops.toArray Q (i::List.range' (i+1) rest.length) a w
  simp only [wpOpsIn,h1]
  rw [if_neg (AW g w a hA)]
  exact⟨fun f _=>hF.1 f,h4 F m A g _ w Q hF hS (j_ hA hd .v) hQ⟩
def acW:dm->Bool
 |.call ..=>true
 |_=>false
theorem ad.of {dr:Bool}{q:dm}(hq:acW q=false) (h:∀ o,res P.toTables o=some q->bo P w0 o α S (tO r S')):ad P w0 dr q α S r S':=by
 cases dr with
 |false=>exact fun n o hr=>ew.Az (h o.op hr)
 |true =>
  intro n o hr
  refine FD.ofD ?_
  have h1:=h o.op hr
  generalize o.op=op at hr h1
  cases op with
  |call c =>
   simp only [qW]
   split
   ·rename_i f hc
    simp only [res,hc,Option.some.injEq] at hr
    subst hr
    cases hq
   ·exact h1
  |_=>exact h1
theorem ea.op {dr:Bool}(hw:cj α.tm i.g=some true) (h:ad P w0 dr i.q α S r S') (k:ea P w0 n dr l R E (cD i.d α r) S'):ea P w0 n dr (i::l) R E α S:=by
 intro ops rest hc
 obtain⟨o,jT,rfl,h1,h2,h3,h4,h5⟩:=kW (α:=α) hc
 have h7:=k ops jT h1
 rw [n_,<-h3] at h7
 cases dr with
 |false=>exact tH.qy h2 (h5 _ hw) (h n o h4) h7
 |true=>exact mg.opG h2 (h5 _ hw) (h n o h4) h7
theorem ea.skip {dr:Bool}(hw:cj α.tm i.g=some false) (k:ea P w0 n dr l R E (cD i.d α (.v undef)) S):ea P w0 n dr (i::l) R E α S:=by
 intro ops rest hc
 obtain⟨o,jT,rfl,h1,h2,h3,h4,h5⟩:=kW (α:=α) hc
 have h7:=k ops jT h1
 rw [n_,<-h3] at h7
 cases dr with
 |false=>exact tH.skip h2 (h5 _ hw) h7
 |true=>exact mg.skip h2 (h5 _ hw) h7
def OpP (P:Program) (w0:World) (n:Nat) (o:Oper) (α:AA) (S:ae) (ch:List PanicEntry) (S':ae):Prop :=
 ∀ (F:Fence) (m:Nat) (A:Nat->Prop) (g:Gh) (a:Act) (w:World) (next:Act->World->Prop) (Q:Exit->Act->World->Prop),g7 F->St w0 A g S w->bY g w n α a ->
  (∀ (w':World) (g':Gh),St w0 A g' S' w'->Ext A g w g' w'->Q (.panic ch) a w')->o.uponIn F m P a next Q ((o.semAt F.round a.eval).run P w)
def pS (P:Program) (w0:World) (q:dm) (α:AA) (S:ae) (ch:List PanicEntry) (S':ae):Prop:=∀ (n:Nat) (o:Oper),res P.toTables o.op=some q->OpP P w0 n o α S ch S'
theorem ea.ug {ch:List PanicEntry}(hw:cj α.tm i.g=some true) (h:pS P w0 i.q α S ch S') (k:E ch α S'):ea P w0 n false (i::l) R E α S:=by
 intro ops rest hc
 obtain⟨o,jT,rfl,h1,h2,h3,h4,h5⟩:=kW (α:=α) hc
 intro j hj
 obtain⟨k1,k2⟩:=drop_cons hj
 refine .inr ⟨ch,α,S',fun F m A g a w Q hF hS hA hQ=>?_,k⟩
 show wpOpsIn F m P ops.toArray Q (j::List.range' (j+1) jT.length) a w
 simp only [wpOpsIn,k1]
 rw [if_pos (vw (h5 _ hw) g w a hA)]
 exact⟨fun f _=>hF.1 f,h n o h4 F m A g a w _ Q hF hS hA fun w' g' q1 q2=>hQ a w' g' q1 (hA.later q2.toLater) q2⟩
theorem ad.quiet {dr:Bool}{q:dm}(h:gU q α.tm S=some (r,S')):ad P w0 dr q α S r S':=by
 refine ad.of ?_ fun o hr=>oM hr h
 cases q<;>first|rfl|(cases h)
theorem BU {c:Code}{dr:Bool}(h:comp P.toTables n c=some (.bD dr l)):∃ id ops,c=.region id ops dr/\ko P.toTables n ops.toList ops.toList=some l/\(dr=true->v5 ops=true):=by
 cases c<;>simp only [comp] at h<;>(repeat' split at h)<;>(try cases h)
 ·exact⟨_,_,rfl,by assumption,fun e=>by cases e⟩
 ·exact⟨_,_,rfl,by assumption,fun _=>by assumption⟩
theorem M3 {c:Code}{V:List (Nat × Nat)}(h:comp P.toTables n c=some (.dJ V l)):∃ id ops,c=.region id ops true/\ko P.toTables n ops.toList ops.toList=some l/\v5 ops=false/\V=tw ops:=by
 cases c<;>simp only [comp] at h<;>(repeat' split at h)<;>(try cases h)
 ·exact⟨_,_,rfl,by assumption,by assumption,rfl⟩
theorem M4 {c:Code}{a b:QC}(h:comp P.toTables n c=some (.seq a b)):∃ c1 c2,c=.seq c1 c2/\comp P.toTables n c1=some a/\comp P.toTables n c2=some b:=by
 cases c<;>simp only [comp] at h<;>(repeat' split at h)<;>(try cases h)
 ·exact⟨_,_,rfl,by assumption,by assumption⟩
theorem KJ {c:Code}{x:QO}{a b:QC}(h:comp P.toTables n c=some (.cond x a b)):∃ y c1 c2,c=.cond y c1 c2/\qo y=x/\comp P.toTables n c1=some a/\comp P.toTables n c2=some b:=by
 cases c<;>simp only [comp] at h<;>(repeat' split at h)<;>(try cases h)
 ·exact⟨_,_,_,rfl,rfl,by assumption,by assumption⟩
theorem IH {c:Code}{id:Nat}{a:QC}(h:comp P.toTables n c=some (.block id a)):∃ c1,c=.block id c1/\comp P.toTables n c1=some a:=by
 cases c<;>simp only [comp] at h<;>(repeat' split at h)<;>(try cases h)
 ·exact⟨_,rfl,by assumption⟩
theorem II {c:Code}{a:QC}(h:comp P.toTables n c=some (.scope a)):∃ c1,c=.scope c1/\comp P.toTables n c1=some a:=by
 cases c<;>simp only [comp] at h<;>(repeat' split at h)<;>(try cases h)
 ·exact⟨_,rfl,by assumption⟩
theorem KK {c:Code}{a:QC}(h:comp P.toTables n c=some (.loop a)):∃ c1,c=.loop c1/\comp P.toTables n c1=some a:=by
 cases c<;>simp only [comp] at h<;>(repeat' split at h)<;>(try cases h)
 ·exact⟨_,rfl,by assumption⟩
theorem I6 {c:Code}{x:QO}{ps:List Nat}{a b:QC}(h:comp P.toTables n c=some (.sR x ps a b)):∃ y pt c1 c2,c=.rangeFunc y pt c1 c2/\qo y=x/\pt.toList=ps/\comp P.toTables n c1=some a/\comp P.toTables n c2=some b:=by
 cases c<;>simp only [comp] at h<;>(repeat' split at h)<;>(try cases h)
 ·exact⟨_,_,_,_,rfl,rfl,rfl,by assumption,by assumption⟩
theorem pc {c:Code}:(comp P.toTables n c=some .skip->Ji c)/\(comp P.toTables n c=some .ret->c=.ret)/\∀ id,comp P.toTables n c=some (.exit id)->c=.exit id:=by
 refine⟨fun h=>?_,fun h=>?_,fun id h=>?_⟩
 all_goals
  cases c<;>simp only [comp] at h<;>(repeat' split at h)<;>(try cases h)<;>first|rfl|exact .inl rfl|exact .inr ⟨_,rfl⟩
theorem PU {x:Operand}:α.ev x=(qo x).ev α.tm:=(aR x).symm
theorem fE.seq {a b:QC}(h:fE P w0 rd n a (fun ex α S=>match ex with|.normal=>fE P w0 rd n b Q α S|e=>Q e α S) α S):fE P w0 rd n (.seq a b) Q α S:=by
 intro c hc hd
 obtain⟨c1,c2,rfl,h1,h2⟩:=M4 hc
 simp only [cH,Bool.and_eq_true] at hd
 refine Wp.seq ?_
 obtain⟨ex,bK,bZ,h3,h4⟩:=h c1 h1 hd.1
 refine⟨ex,bK,bZ,h3,?_⟩
 cases ex with
 |normal=>exact h4 c2 h2 hd.2
 |_=>exact h4
theorem fE.cond {x:QO}{a b:QC}{t:Bool}(hx:x.ev α.tm=.v (.bool t)) (h:fE P w0 rd n (if t then a else b) Q α S):fE P w0 rd n (.cond x a b) Q α S:=by
 intro c hc hd
 obtain⟨y,c1,c2,rfl,rfl,h1,h2⟩:=KJ hc
 simp only [cH,Bool.and_eq_true] at hd
 refine Wp.cond (by rw [PU];exact hx) ?_
 cases t with
 |true=>exact h c1 h1 hd.1
 |false=>exact h c2 h2 hd.2
theorem fE.block {id:Nat}{a:QC}(h:fE P w0 rd n a (fun ex α S=>match ex with|.exit j=>(match Nat.beq j id with|true=>Q .normal α S|false=>Q (.exit j) α S)|e=>Q e α S) α S):fE P w0 rd n (.block id a) Q α S:=by
 intro c hc hd
 obtain⟨c1,rfl,h1⟩:=IH hc
 exact Wp.block (h c1 h1 hd)
theorem fE.scope {a:QC}(h:fE P w0 rd n a (fun ex α S=>match ex with|.goto _=>False|e=>Q e α S) α S):fE P w0 rd n (.scope a) Q α S:=by
 intro c hc hd
 obtain⟨c1,rfl,h1⟩:=II hc
 obtain⟨ex,bK,bZ,h2,h3⟩:=h c1 h1 hd
 cases ex with
 |goto l=>exact h3.elim
 |_=>exact⟨_,bK,bZ,cu.scope h2 (fun l e=>by cases e),h3⟩
theorem fE.bD {dr:Bool}(h:ea P w0 n dr l (fun α S=>Q .normal α S) (fun ch α S=>Q (.panic ch) α S) α S):fE P w0 rd n (.bD dr l) Q α S:=by
 intro c hc hd
 obtain⟨id,ops,rfl,h1,nu⟩:=BU hc
 have h2:=h _ _ h1
 cases dr with
 |false =>
  rcases h2 0 rfl with ⟨aA,S',h3,h4⟩|⟨ch,aA,S',h3,h4⟩
  ·rw [Array.length_toList,<-List.range_eq_range'] at h3
   exact⟨_,aA,S',cu.region h3,h4⟩
  ·rw [Array.length_toList,<-List.range_eq_range'] at h3
   exact⟨.panic ch,aA,S',fun F m A g a w hF hR hS hA=>wpIn_region (h3 F m A g a w _ hF hS hA fun a' w' g' q1 q2 q3=>⟨rfl,g',q1,q2,q3⟩),h4⟩
 |true=>exact mg.wp (by simp only [cH,Bool.and_eq_true] at hd;simp only [Bool.and_eq_true];exact⟨hd.1,((Bool.and_eq_true _ _).mp (nu rfl)).1⟩) h2
theorem Bi {G:Nat->Option Ob}:∀ {ks:List Nat}{k:Nat},k ∉ ks->Fy G ks k=G k
 |[],_,_=>rfl
 |p::ks,k,h=>by
  simp only [List.mem_cons,not_or] at h
  rw [Fy,aK _ _ h.1,Bi h.2]
theorem qI:∀ {l:List QI}{x k:Nat},k ∈ gA l x->x<=k/\k < x+(gA l x).length
 |[],x,k,h=>by cases h
 |i::l,x,k,h=>by
  simp only [gA] at h ⊢
  split at h
  ·rename_i e
   simp only [e,List.length_cons]
   rcases List.mem_cons.1 h with rfl|h
   ·omega
   ·have:=qI h;omega
  ·rename_i e
   exact qI h
theorem St.rsv {A:Nat->Prop}{g:Gh}{w:World}(hS:St w0 A g S w) (l:List QI):St w0 A g (tz S l) w:=by
 obtain⟨G,x⟩:=S
 refine hS.forget (Nat.le_add_right _ _) fun k o hk ha=>?_
 have au:=hS.al k ha
 have au:k < x:=au
 have hk:Fy G (gA l x) k=some o:=hk
 rwa [Bi fun hm=>by have:=(qI hm).1;omega] at hk
theorem fE.dJ {V:List (Nat × Nat)}(h:(∀ k ∈ gA l S.nx,k < S.nx+(gA l S.nx).length)->S.nx+(gA l S.nx).length<=(tz S l).nx->lH P w0 n (S.nx+(gA l S.nx).length) V [] l (fun α S=>Q .normal α S) α (tz S l)):fE P w0 rd n (.dJ V l) Q α S:=by
 intro c hc hd
 obtain⟨id,ops,rfl,h1,h2,rfl⟩:=M3 hc
 simp only [cH,Bool.and_eq_true,Bool.or_eq_true,h2,Bool.false_eq_true,false_or] at hd
 have hl:l.length=ops.size:=by
  have key:∀ (ops rest:List Oper) (l:List QI),ko P.toTables n ops rest=some l->l.length=rest.length:=by
   intro ops rest
   induction rest with
   |nil=>intro l h;obtain rfl:=Option.some.inj h;rfl
   |cons o rest ih =>
    intro l h
    cases l with
    |nil =>
     exfalso
     simp only [ko] at h
     split at h
     ·split at h
      ·cases h
      ·split at h<;>cases h
     ·cases h
    |cons i l =>
     obtain⟨o',jT,e,h3,_⟩:=kW (α:=α) h
     injection e with e1 e2
     subst e1 e2
     simp [ih _ h3]
  rw [key _ _ _ h1];simp
 obtain⟨D,aA,S',h3,h4,h5⟩:=h (fun k hk=>(qI hk).2) (by cases S;exact Nat.le_refl _) ops.toList h1
 simp only [List.length_nil,hl,List.nil_append] at h3 h4
 rw [<-List.range_eq_range'] at h3 h4
 refine⟨.normal,aA,S',fun F m A g a w hF hR hS hA=>?_,h5⟩
 refine cu.Z1 hd.1 hd.2 (fun p hp=>?_) h3 F m A g a w hF hR (hS.rsv l) hA
 have h6:=List.all_eq_true.1 h4 p hp
 have eI:=(List.mem_filter.1 hp).1
 have in1:∀ {m:List Nat}{k:Nat}{q:Nat × Nat},q ∈ rD ops m k->q.1 < k/\q.2 < k:=by
  intro m k q
  induction k with
  |zero=>intro h;cases h
  |succ k ih =>
   intro h
   simp only [rD,List.mem_append,List.mem_map,List.mem_filter,List.mem_range] at h
   rcases h with ⟨x,⟨hx,_⟩,rfl⟩|h
   ·exact⟨by simp only;omega,by simp only;omega⟩
   ·have:=ih h;omega
 obtain⟨k1,k2⟩:=in1 eI
 have get:∀ i,i < ops.size->vi ((List.range ops.size).map fun i=>(D i).ns) i=(D i).ns:=fun i hi=>by
  unfold vi
  rw [List.getD_eq_getElem?_getD,List.getElem?_map,List.getElem?_range hi]
  rfl
 rw [get _ k1,get _ k2] at h6
 exact h6
theorem gN.congr {B:Nat}{ops:Array Oper}{D D':Nat->Dt}:∀ {L:List Nat}{α aA:AA}{S S':ae},(∀ i ∈ L,D i=D' i)->gN P w0 n ops B D L α S aA S'->gN P w0 n ops B D' L α S aA S'
 |[],_,_,_,_,_,.nil ..=>.nil ..
 |i::rest,_,_,_,_,he,.cons h t=>.cons (by rw [<-he i (by simp)];exact h) (t.congr fun j hj=>he j (by simp [hj]))
theorem kX {ops:List Oper}{k:Nat}{o:Oper}{rest:List Oper}(h:ops.drop k=o::rest):ops.toArray[k]?=some o/\ops.drop (k+1)=rest:=drop_cons h
theorem lH.step {B:Nat}{V:List (Nat × Nat)}{lg:List (List Nat × List Nat × Bool)}{d:Dt}{α1:AA}{S1:ae}{R:AA->ae->Prop}
  (hg:∀ ops o rest,ops.drop lg.length=o::rest->pj n o.dst=true->o.dst=i.d->res P.toTables o.op=some i.q->(∀ b,cj α.tm i.g=some b->iW ops α o=some b)->lW P w0 n ops.toArray B lg.length d α S α1 S1)
  (k:lH P w0 n B V (lg++[d.ns]) l R α1 S1):lH P w0 n B V lg (i::l) R α S:=by
 intro ops hr
 obtain⟨o,rest,h1,h2,h3,h4,h5,h6⟩:=kW (α:=α) hr
 obtain⟨h7,h8⟩:=kX h1
 obtain⟨D,aA,S',k1,k2,k3⟩:=k ops (by rw [List.length_append,List.length_singleton,h8];exact h2)
 simp only [List.length_append,List.length_singleton] at k1 k2
 refine⟨fun i=>if i=lg.length then d else D i,aA,S',?_,?_,k3⟩
 ·rw [List.length_cons,List.range'_succ]
  refine .cons (by rw [if_pos rfl];exact hg ops o rest h1 h3 h4 h5 h6) (k1.congr fun i hi=>?_)
  have:=(List.mem_range'_1.1 hi).1
  rw [if_neg (by omega)]
 ·rw [List.length_cons,List.range'_succ,List.map_cons]
  simp only [if_pos]
  have e:((List.range' (lg.length+1) l.length).map fun i=>(if i=lg.length then d else D i).ns)=(List.range' (lg.length+1) l.length).map fun i=>(D i).ns:=List.map_congr_left fun i hi=>by
   have:=(List.mem_range'_1.1 hi).1
   rw [if_neg (by omega)]
  rw [e]
  rw [List.append_assoc] at k2
  exact k2
theorem yU {ops:List Oper}{o:Oper}{b:Bool}(h:iW ops α o=some b):(b=true->o.guard=none\/∃ j want,o.guard=some (j,want)/\mR ops.toArray α j=some (some want))/\(b=false->∃ j want c,o.guard=some (j,want)/\mR ops.toArray α j=some c/\c ≠ some want):=by
 refine⟨fun e=>tG (by rw [<-e];exact h),fun e=>?_⟩
 subst e
 unfold iW at h
 split at h
 ·cases h
 ·rename_i j want hg
  split at h
  ·rename_i hy
   have:=Option.some.inj h
   subst this
   exact⟨j,false,some true,hg,by rw [<-uv];exact hy,by simp⟩
  ·rename_i hy
   have:=Option.some.inj h
   cases want with
   |true=>exact⟨j,true,some false,hg,by rw [<-uv];exact hy,by simp⟩
   |false=>simp at this
  ·rename_i hy
   exact⟨j,want,none,hg,by rw [<-uv];exact hy,by simp⟩
  ·cases h
theorem lH.op {B:Nat}{V:List (Nat × Nat)}{lg:List (List Nat × List Nat × Bool)}{d:Dt}{R:AA->ae->Prop}(hB:B<=S.nx) (hw:cj α.tm i.g=some true) (h:cB P w0 B i.q α S r d) (k:lH P w0 n B V (lg++[d.ns]) l R (cD i.d α r) (dQ S d.W d.m)):lH P w0 n B V lg (i::l) R α S:=by
 refine lH.step (fun ops o rest h1 h2 h3 h4 h5=>?_) k
 obtain⟨k1,k2,k3⟩:=h n o h4
 exact⟨o,(kX h1).1,h2,k1,hB,k2,rfl,.inr ⟨(yU (h5 _ hw)).1 rfl,r,by rw [n_,<-h3];cases o.dst<;>rfl,fun T hb ht hm=>k3 T hb ht hm⟩⟩
theorem lH.skip {B:Nat}{V:List (Nat × Nat)}{lg:List (List Nat × List Nat × Bool)}{R:AA->ae->Prop}(hB:B<=S.nx) (hw:cj α.tm i.g=some false) (k:lH P w0 n B V (lg++[([],[],false)]) l R (cD i.d α (.v undef)) S):lH P w0 n B V lg (i::l) R α S:=by
 refine lH.step (d:=.none_) (fun ops o rest h1 h2 h3 h4 h5=>?_) k
 obtain⟨j,want,c,e1,e2,e3⟩:=(yU (h5 _ hw)).2 rfl
 exact⟨o,(kX h1).1,h2,fun _=>rfl,hB,(show kE S [] from fun p hp=>by cases hp),cK.symm,.inl ⟨j,want,c,e1,e2,e3,by rw [n_,<-h3];cases o.dst<;>rfl,rfl⟩⟩
theorem fE.done {a:QC}(hd:∀ c,comp P.toTables n c=some a->Wp P w0 rd n c Q α S):fE P w0 rd n a Q α S:=fun c hc _=>hd c hc
theorem I_ {cf pR:QF}(h:ue cf α S=some (pR,aA,S')) (k:ab P w0 rd n Q pR aA S'):ab P w0 rd n Q cf α S:=by
 have e:∀ {x:QF}{y:AA}{z:ae},some (x,y,z)=some (pR,aA,S')->ab P w0 rd n Q x y z:=fun h=>by
  simp only [Option.some.injEq,Prod.mk.injEq] at h
  obtain⟨rfl,rfl,rfl⟩:=h
  exact k
 cases cf with
 |run c K =>
  simp only [ue] at h
  split at h
  ·exact fE.done fun c hc=>Wp.of (cu.skip (pc.1 hc)) (e h)
  ·exact fE.bD (e h)
  ·exact fE.bD (e h)
  ·rename_i V l
   cases S with
   |mk G x =>
    simp only [Option.some.injEq,Prod.mk.injEq] at h
    obtain⟨rfl,rfl,rfl⟩:=h
    exact fE.dJ fun h1 h2=>k h1 h2
  ·exact fE.seq (e h)
  ·split at h
   ·rename_i hc;exact fE.cond hc (e h)
   ·rename_i hc;exact fE.cond hc (e h)
   ·cases h
  ·exact fE.block (e h)
  ·exact fE.scope (e h)
  ·exact fE.done fun c hc=>by rw [pc.2.2 _ hc];exact Wp.of (cu.exit_ _) (e h)
  ·exact fE.done fun c hc=>by rw [pc.2.1 hc];exact Wp.of cu.ret (e h)
  ·cases h
 |out ex K =>
  cases K with
  |nil=>simp [ue] at h
  |cons it K =>
   cases it with
   |seq b=>cases ex<;>(simp only [ue] at h;have t:=e h;exact t)
   |qY id =>
    cases ex with
    |exit j =>
     simp only [ue] at h
     show (match Nat.beq j id with|true=>cS P w0 rd n Q K .normal α S|false=>cS P w0 rd n Q K (.exit j) α S)
     split at h
     ·have t:=e h;exact t
     ·have t:=e h;exact t
    |_=>simp only [ue] at h;have t:=e h;exact t
   |uc =>
    cases ex with
    |goto l=>simp [ue] at h
    |_=>simp only [ue] at h;have t:=e h;exact t
 |bD dr l K =>
  simp only [ue] at h
  split at h
  ·exact ea.nil (e h)
  ·rename_i i l
   split at h
   ·rename_i hw
    split at h
    ·rename_i r T hq
     exact ea.op hw (ad.quiet hq) (e h)
    ·cases h
   ·rename_i hw
    exact ea.skip hw (e h)
   ·cases h
 |dJ B V lg rs l K =>
  intro fp hB
  simp only [ue] at h
  split at h
  ·split at h
   ·rename_i hc
    have h1:=e h
    exact fun ops _=>⟨fun _=>.none_,α,S,.nil ..,by simpa using hc,h1⟩
   ·cases h
  ·rename_i i l
   split at h
   ·rename_i hw
    split at h
    ·rename_i r d mE hq
     obtain⟨h1,h2⟩:=xx (P:=P) (w0:=w0) (df:=α.df) fp hq
     exact lH.op hB hw h1 (e h (fun k hk=>fp k (h2 k hk)) (by rw [ec];exact Nat.le_trans hB (Nat.le_add_right _ _)))
    ·cases h
   ·rename_i hw
    exact lH.skip hB hw (e h fp hB)
   ·cases h
end
end Go.Proofs.YtbofilglphfceaaGreat
