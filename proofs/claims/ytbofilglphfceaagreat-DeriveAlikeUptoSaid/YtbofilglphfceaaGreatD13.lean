import Derived.Test.YtbofilglphfceaaGreatD12
namespace Go.Proofs.YtbofilglphfceaaGreat
set_option linter.unusedVariables false
set_option linter.unusedSimpArgs false
open Go.RowKit
structure Dt where
 F:List (Nat × Ob)
 W:List (Nat × Option Ob)
 m:Bool
def Dt.none_:Dt:=⟨[],[],false⟩
def gJ (T:U) (F:List (Nat × Ob)):Prop:=∀ p ∈ F,T.get p.1=some p.2
def dU (G:Nat->Option Ob):List (Nat × Option Ob)->Nat->Option Ob
 |[]=>G
 |p::W=>a6 (dU G W) p.1 p.2
def cD (T:U) (W:List (Nat × Option Ob)) (m:Bool):U:=match T,m with|⟨G,x⟩,true=>⟨dU G W,x+1⟩|⟨G,x⟩,false=>⟨dU G W,x⟩
theorem cJ {T:U}{W:List (Nat × Option Ob)}{m:Bool}:cD T W m=⟨dU T.get W,T.nx+m.toNat⟩:=by cases T;cases m<;>rfl
def pv (l m:List Nat):Bool:=l.all fun x=>m.all fun y=>!Nat.beq x y
theorem qw {l m:List Nat}(h:pv l m=true) {x y:Nat}(hx:x ∈ l) (hy:y ∈ m):x ≠ y:=by
 intro e
 subst e
 have:=List.all_eq_true.1 (List.all_eq_true.1 h x hx) x hy
 rw [Nat.beq_refl] at this
 cases this
def dj (x y:List Nat × List Nat × Bool):Bool:=pv x.2.1 y.1 && pv x.2.1 y.2.1 && pv x.1 y.2.1 && !(x.2.2 && y.2.2)
def Dt.ns (d:Dt):List Nat × List Nat × Bool:=(d.F.map (·.1),d.W.map (·.1),d.m)
theorem eX {G:Nat->Option Ob}:∀ {W:List (Nat × Option Ob)}{k:Nat},k ∉ W.map (·.1)->dU G W k=G k
 |[],_,_=>rfl
 |p::W,k,h=>by
  simp only [List.map_cons,List.mem_cons,not_or] at h
  rw [dU,aw _ _ h.1,eX h.2]
theorem Ci {G:Nat->Option Ob}{W V:List (Nat × Option Ob)}(h:∀ x ∈ W.map (·.1),∀ y ∈ V.map (·.1),x ≠ y):dU (dU G W) V=dU (dU G V) W:=by
 have key:∀ {G H:Nat->Option Ob}{W:List (Nat × Option Ob)}{k:Nat},k ∈ W.map (·.1)->dU G W k=dU H W k:=by
  intro G H W k
  induction W with
  |nil=>intro h;cases h
  |cons p W ih =>
   intro h
   by_cases e:k=p.1
   ·subst e;rw [dU,dU,ah,ah]
   ·rw [dU,dU,aw _ _ e,aw _ _ e]
    exact ih ((List.mem_cons.1 h).resolve_left e)
 funext k
 by_cases h1:k ∈ V.map (·.1)
 ·have h2:k ∉ W.map (·.1):=fun hw=>h k hw k h1 rfl
  rw [eX h2]
  exact key h1
 ·rw [eX h1]
  by_cases h2:k ∈ W.map (·.1)
  ·exact key h2
  ·rw [eX h2,eX h2,eX h1]
section
variable {P:Program}{w0:World}{n B:Nat}{α af:AA}{S S':U}{r:AV}{ops:Array Oper}{D:Nat->Dt}
def ir (P:Program) (w0:World) (n:Nat) (ops:Array Oper) (B:Nat) (i:Nat) (d:Dt) (α:AA) (S:U) (α1:AA) (S1:U):Prop :=
 ∃ o,ops[i]?=some o/\(match o.dst with|some d=>Nat.blt d n|none=>true)=true/\(fk o.op=true->d=.none_)/\B<=S.nx/\gJ S d.F/\S1=cD S d.W d.m /\
  ((∃ (j:Nat) (want:Bool) (b:Option Bool),o.guard=some (j,want)/\je ops α j=some b/\b ≠ some want/\α1=α.put o.dst (.v undef)/\d=.none_) \/
   ((o.guard=none\/∃ j want,o.guard=some (j,want)/\je ops α j=some (some want))/\∃ r,α1=α.put o.dst r/\∀ T,B<=T.nx->gJ T d.F->(d.m=true->T.nx=S.nx)->cP P w0 n o (α.only (cb o)) T r (cD T d.W d.m)))
theorem bH:cD S [] false=S:=by cases S;rfl
theorem ir.shape {i:Nat}{d:Dt}{α1:AA}{S1:U}(h:ir P w0 n ops B i d α S α1 S1):∃ o a,ops[i]?=some o/\α1=α.put o.dst a/\gJ S d.F/\S1=cD S d.W d.m/\B<=S.nx:=by
 obtain⟨o,h1,_,_,hB,h2,h3,h⟩:=h
 rcases h with ⟨j,want,b,hg,hy,aM,rfl,_⟩|⟨hg,r,rfl,_⟩
 ·exact⟨o,_,h1,rfl,h2,h3,hB⟩
 ·exact⟨o,r,h1,rfl,h2,h3,hB⟩
theorem ir.anyS {i:Nat}{d:Dt}{α1:AA}{S1 T:U}(h:ir P w0 n ops B i d α S α1 S1) (hB:B<=T.nx) (hT:gJ T d.F) (hm:d.m=true->T.nx=S.nx):ir P w0 n ops B i d α T α1 (cD T d.W d.m):=by
 obtain⟨o,h1,hn,hp,_,h2,h3,h⟩:=h
 refine⟨o,h1,hn,hp,hB,hT,rfl,?_⟩
 rcases h with h|⟨hg,r,h4,h5⟩
 ·exact .inl h
 ·exact .inr ⟨hg,r,h4,fun T' hb ht Sf=>h5 T' hb ht fun e=>(Sf e).trans (hm e)⟩
theorem ir.frame {i:Nat}{dt:Dt}{α1:AA}{S1:U}{d:Option Tmp}{a:AV}(h:ir P w0 n ops B i dt α S α1 S1) (hd:∀ o,ops[i]?=some o->∀ e,d=some e->e ∉ o.looksAt ops/\o.dst ≠ some e):ir P w0 n ops B i dt (α.put d a) S (α1.put d a) S1:=by
 obtain⟨o,hi,hn,hp,h0,h8,h9,h⟩:=h
 have h1:∀ e,d=some e->e ∉ cb o:=fun e he hm=>(hd o hi e he).1 (kg hm)
 have h2:∀ j want,o.guard=some (j,want)->∀ e,d=some e->(ops[j]?).bind (·.dst) ≠ some e:=by
  intro j want hg e he h3
  refine (hd o hi e he).1 (List.mem_append.2 (.inr ?_))
  rw [hg]
  simp only
  rw [h3]
  simp
 have hc:∀ x,(α.put o.dst x).put d a=(α.put d a).put o.dst x:=fun x=>(put_comm fun t ht e=>(hd o hi t ht).2 e).symm
 refine⟨o,hi,hn,hp,h0,h8,h9,?_⟩
 rcases h with ⟨j,want,b,hg,hy,aM,rfl,h7⟩|⟨hg,r,rfl,h3⟩
 ·exact .inl ⟨j,want,b,hg,by rw [gK (h2 j want hg)];exact hy,aM,hc _,h7⟩
 ·refine .inr ⟨?_,r,hc _,by rw [gL h1];exact h3⟩
  rcases hg with hg|⟨j,want,hg,hy⟩
  ·exact .inl hg
  ·exact .inr ⟨j,want,hg,by rw [gK (h2 j want hg)];exact hy⟩
theorem ir.swap {i j:Nat}{di gM:Dt}{oi oj:Oper}{α1 lY:AA}{S1 S2:U}(hi:ops[i]?=some oi) (hj:ops[j]?=some oj) (fc:oi.apart ops oj=true) (hd:dj di.ns gM.ns=true) (h:ir P w0 n ops B i di α S α1 S1) (k:ir P w0 n ops B j gM α1 S1 lY S2) :
  ∃ lr ov,ir P w0 n ops B j gM α S lr ov/\ir P w0 n ops B i di lr ov lY S2:=by
 obtain⟨e1,e2,e3⟩:=Oper.apart_spec fc
 obtain⟨hP,a,dD,rfl,mF,rfl,O4⟩:=h.shape
 obtain rfl:hP=oi:=by rw [hi] at dD;exact (Option.some.inj dD).symm
 obtain⟨jz,b,hO,rfl,Sg,rfl,Um⟩:=k.shape
 obtain rfl:jz=oj:=by rw [hj] at hO;exact (Option.some.inj hO).symm
 simp only [dj,Dt.ns,Bool.and_eq_true,Bool.not_eq_true',Bool.and_eq_false_iff] at hd
 obtain⟨⟨⟨d1,d2⟩,d3⟩,d4⟩:=hd
 have pS:gJ S gM.F:=fun p hp=>by
  have:=Sg p hp
  rw [cJ] at this
  rw [<-this]
  exact (eX fun hm=>qw d1 hm (List.mem_map.2 ⟨p,hp,rfl⟩) rfl).symm
 have ss:gJ (cD S gM.W gM.m) di.F:=fun p hp=>by
  rw [<-mF p hp,cJ]
  exact eX fun hm=>qw d3 (List.mem_map.2 ⟨p,hp,rfl⟩) hm rfl
 have P2:cD (cD S gM.W gM.m) di.W di.m=cD (cD S di.W di.m) gM.W gM.m:=by
  simp only [cJ]
  congr 1
  ·exact Ci fun x hx y hy e=>qw d2 hy hx e.symm
  ·omega
 have kj:ir P w0 n ops B j gM α S (α.put jz.dst b) (cD S gM.W gM.m):=by
  obtain⟨o,ho,hn,hp,q0,q1,q2,hk⟩:=k
  obtain rfl:o=jz:=by rw [hj] at ho;exact (Option.some.inj ho).symm
  have h1:∀ e,hP.dst=some e->e ∉ cb o:=fun e he hm=>e1 e he (kg hm)
  have h2:∀ q want,o.guard=some (q,want)->∀ e,hP.dst=some e->(ops[q]?).bind (·.dst) ≠ some e:=by
   intro q want hg e he h3
   refine e1 e he (List.mem_append.2 (.inr ?_))
   rw [hg]
   simp only
   rw [h3]
   simp
  have inj:∀ x y:AV,(α.put hP.dst a).put o.dst x=(α.put hP.dst a).put o.dst y->α.put o.dst x=α.put o.dst y:=by
   intro x y iS
   cases rk:o.dst with
   |none=>rfl
   |some d =>
    rw [rk] at iS
    have:x=y:=by
     have h3:=congrArg (fun z:AA=>z.tm d) iS
     simpa [AA.put,ah] using h3
    rw [this]
  refine⟨o,ho,hn,hp,O4,pS,rfl,?_⟩
  rcases hk with ⟨q,want,c,hg,hy,aM,h3,h4⟩|⟨hg,r,h3,h4⟩
  ·exact .inl ⟨q,want,c,hg,by rw [<-gK (h2 q want hg)];exact hy,aM,inj _ _ h3,h4⟩
  ·rw [gL h1] at h4
   refine .inr ⟨?_,r,inj _ _ h3,fun T hb ht hm=>h4 T hb ht fun e=>?_⟩
   ·rcases hg with hg|⟨q,want,hg,hy⟩
    ·exact .inl hg
    ·exact .inr ⟨q,want,hg,by rw [<-gK (h2 q want hg)];exact hy⟩
   ·rw [hm e,cJ]
    have:di.m=false:=d4.resolve_right (by rw [e];simp)
    simp [this]
 have ki:=(h.anyS (by rw [cJ];exact Nat.le_trans O4 (Nat.le_add_right _ _)) ss (fun e=>by
   rw [cJ]
   have:gM.m=false:=d4.resolve_left (by rw [e];simp)
   simp [this])).frame (d:=jz.dst) (a:=b) fun o ho e he=>by
  obtain rfl:o=hP:=by rw [hi] at ho;exact (Option.some.inj ho).symm
  exact⟨e3 e he,fun h3=>e2 e h3 he⟩
 rw [P2,show (α.put hP.dst a).put jz.dst b=(α.put hP.dst a).put jz.dst b from rfl] at ki
 exact⟨_,_,kj,ki⟩
inductive ef (P:Program) (w0:World) (n:Nat) (ops:Array Oper) (B:Nat) (D:Nat->Dt):List Nat->AA->U->AA->U->Prop where
 |nil (α:AA) (S:U):ef P w0 n ops B D [] α S α S
 |cons {i:Nat}{rest:List Nat}{α α1 af:AA}{S S1 S':U}(h:ir P w0 n ops B i (D i) α S α1 S1) (t:ef P w0 n ops B D rest α1 S1 af S'):ef P w0 n ops B D (i::rest) α S af S'
def Ir (ops:Array Oper) (D:Nat->Dt) (i j:Nat):Prop:=∃ oi oj,ops[i]?=some oi/\ops[j]?=some oj/\oi.apart ops oj=true/\dj (D i).ns (D j).ns=true
theorem ef.front {j:Nat}:∀ {C1 C2:List Nat}{α af:AA}{S S':U},(∀ x ∈ C1,Ir ops D x j)->ef P w0 n ops B D (C1++j::C2) α S af S'->ef P w0 n ops B D (j::(C1++C2)) α S af S'
 |[],C2,α,af,S,S',_,h=>h
 |x::C1,C2,α,af,S,S',hx,h=>by
  cases h with
  |@cons _ _ _ α1 _ _ S1 _ h t =>
   have t':=ef.front (fun y hy=>hx y (by simp [hy])) t
   cases t' with
   |@cons _ _ _ lY _ _ S2 _ k t2 =>
    obtain⟨oi,oj,hi,hj,h1,h2⟩:=hx x (by simp)
    obtain⟨lr,ov,h3,h4⟩:=h.swap hi hj h1 h2 k
    exact .cons h3 (.cons h4 t2)
theorem ef.perm:∀ {L C:List Nat}{α af:AA}{S S':U},C.Pairwise (· < ·)->L.Pairwise (fun y x=>x < y->Ir ops D x y)->(∀ x,x ∈ L ↔ x ∈ C)->L.Nodup->ef P w0 n ops B D C α S af S'->ef P w0 n ops B D L α S af S'
 |[],C,α,af,S,S',_,_,hm,_,h=>by
  have:C=[]:=by
   cases C with
   |nil=>rfl
   |cons x C=>have:=(hm x).2 (by simp);cases this
  subst this
  exact h
 |y::L,C,α,af,S,S',hC,hL,hm,hn,h=>by
  obtain⟨C1,C2,rfl⟩:=List.append_of_mem ((hm y).1 (by simp))
  rw [List.pairwise_cons] at hL
  rw [List.nodup_cons] at hn
  rw [List.pairwise_append,List.pairwise_cons] at hC
  obtain⟨p1,⟨p2,p3⟩,p4⟩:=hC
  have dR:∀ x ∈ C1,x < y:=fun x hx=>p4 x hx y (by simp)
  have bI:∀ x ∈ C2,y < x:=p2
  have fK:∀ x,x ∈ L ↔ x ∈ C1++C2:=by
   intro x
   have h0:=hm x
   simp only [List.mem_cons,List.mem_append] at h0 ⊢
   constructor
   ·intro hx
    rcases h0.1 (.inr hx) with h1|h1|h1
    ·exact .inl h1
    ·subst h1;exact absurd hx hn.1
    ·exact .inr h1
   ·intro hx
    have aM:x ≠ y:=by
     rintro rfl
     rcases hx with hx|hx
     ·exact absurd (dR x hx) (Nat.lt_irrefl _)
     ·exact absurd (bI x hx) (Nat.lt_irrefl _)
    rcases h0.2 (hx.elim .inl fun h=>.inr (.inr h)) with h1|h1
    ·exact absurd h1 aM
    ·exact h1
  have hf:=ef.front (fun x hx=>hL.1 x ((fK x).2 (by simp [hx])) (dR x hx)) h
  cases hf with
  |cons h1 h2 =>
   refine .cons h1 (ef.perm (L:=L) ?_ hL.2 fK hn.2 h2)
   rw [List.pairwise_append]
   exact⟨p1,p3,fun a ha b hb=>p4 a ha b (by simp [hb])⟩
theorem ef.oe:∀ {L:List Nat}{α af:AA}{S S':U},ef P w0 n ops B D L α S af S'->lq P w0 n ops L α S af S'
 |[],_,_,_,_,.nil α S=>fun F m A g a w Q hF hS hA hQ=>hQ a w g hS hA (Ext.refl ..)
 |i::rest,α,af,S,S',.cons (α1:=α1) (S1:=S1) h t=>by
  have ih:=ef.oe t
  obtain⟨o,hi,hd,hp,hB,pS,dF,h⟩:=h
  rcases h with ⟨j,want,b,hg,hy,aM,rfl,Is⟩|⟨hg,r,rfl,h3⟩
  ·have e:S1=S:=by rw [dF,Is];exact bH
   subst e
   intro F m A g a w Q hF hS hA hQ
   have tp:¬ Region.wanted o (yielded ops a.tmps)=true:=by simp [Region.wanted,hg,kh hA hy,aM]
   simp only [wpOpsIn,hi]
   rw [if_neg tp]
   exact⟨fun f _=>hF.1 f,ih F m A g _ w Q hF hS (gu hA hd .v) hQ⟩
  ·intro F m A g a w Q hF hS hA hQ
   have hw:Region.wanted o (yielded ops a.tmps)=true:=by
    rcases hg with hg|⟨j,want,hg,hy⟩
    ·simp [Region.wanted,hg]
    ·simp [Region.wanted,hg,kh hA hy]
   simp only [wpOpsIn,hi]
   rw [if_pos hw]
   have h4:=h3 S hB pS (fun _=>rfl)
   rw [<-dF] at h4
   refine⟨fun f _=>hF.1 f,h4 F m A g a w _ Q hF hS (hA.only _) fun v w' g' hr ew hE=>?_⟩
   exact ih F m A g' _ w' Q hF ew (gu (hA.later hE.toLater) hd hr) fun a' mG rm h1 h2 h3=>hQ a' mG rm h1 h2 (hE.trans h3)
def lZ (ops:Array Oper) (m:List Nat):Nat->List (Nat × Nat)
 |0=>[]
 |y+1=>((List.range y).filter fun x=>!(m.getD y 0).testBit x).map (fun x=>(x,y))++lZ ops m y
def kA (ops:Array Oper) (i:Nat):Bool:=match ops[i]? with|some o=>fk o.op|none=>true
def Iu (ops:Array Oper) (x y:Nat):Bool:=match ops[x]?,ops[y]? with|some a,some b=>a.apart ops b|_,_=>false
def FE (ops:Array Oper):List (Nat × Nat):=lZ ops (beforeL [] ops.toList) ops.size
def nc (ops:Array Oper):List (Nat × Nat):=(FE ops).filter fun p=>!kA ops p.1 && !kA ops p.2
def jL (ops:Array Oper):Bool:=iR 0 ops.toList && (FE ops).all fun p=>Iu ops p.1 p.2
theorem ow {m:List Nat}:∀ {k x y:Nat},y < k->x < y->(m.getD y 0).testBit x=false->(x,y) ∈ lZ ops m k
 |0,x,y,h,_,_=>by omega
 |k+1,x,y,h,hx,hb=>by
  simp only [lZ,List.mem_append]
  by_cases c:y=k
  ·subst c
   refine .inl (List.mem_map.2 ⟨x,List.mem_filter.2 ⟨by simpa using hx,by simp only [hb];rfl⟩,rfl⟩)
  ·exact .inr (ow (by omega) hx hb)
theorem tq {y:List Nat × List Nat × Bool}:dj Dt.none_.ns y=true:=by simp [dj,Dt.none_,Dt.ns,pv]
theorem tr {x:List Nat × List Nat × Bool}:dj x Dt.none_.ns=true:=by simp [dj,Dt.none_,Dt.ns,pv]
theorem ef.rp:∀ {L:List Nat}{α af:AA}{S S':U},ef P w0 n ops B D L α S af S'->∀ i ∈ L,kA ops i=true->D i=.none_
 |_,_,_,_,_,.nil ..,i,hi,_=>by cases hi
 |_,_,_,_,_,.cons h t,i,hi,hp=>by
  rcases List.mem_cons.1 hi with rfl|hi
  ·obtain⟨o,h1,_,h2,_⟩:=h
   simp only [kA,h1] at hp
   exact h2 hp
  ·exact ef.rp t i hi hp
theorem bA.K9 {rd:Bool}{id:Nat}(hm:P.follows .mixedOrders=true) (kH:jL ops=true) (hv:∀ p ∈ nc ops,dj (D p.1).ns (D p.2).ns=true) (h:ef P w0 n ops B D (List.range ops.size) α S af S'):bA P w0 rd n (.region id ops true) α S .normal af S':=by
 intro F m A g a w hF hR hS hA
 simp only [jL,Bool.and_eq_true] at kH
 obtain⟨he,hp⟩:=kH
 refine wpIn_region_draw fun t=>?_
 simp only [Region.schedule,hm,Bool.true_or,if_true]
 have hd:m6 ops (Array.replicate ops.size false):=⟨by simp,fun y x hy=>by
  simp only [Array.getD_eq_getD_getElem?,Array.getElem?_replicate] at hy
  split at hy<;>simp at hy⟩
 obtain⟨f1,f2,f3,f4⟩:=jc he ops.size t _ hd
 have gG:∀ x,x ∈ Region.linearise .any ops t ↔ x ∈ List.range ops.size:=by
  intro x
  refine⟨fun hx=>by simpa using (f1 x hx).1,fun hx=>?_⟩
  have hx:x < ops.size:=by simpa using hx
  by_cases c:x ∈ Region.linearise .any ops t
  ·exact c
  ·exfalso
   have hl:=f4 ⟨x,hx,by simp [Array.getD_eq_getD_getElem?,Array.getElem?_replicate,hx],c⟩
   have ll:(x::Region.linearise.go .any ops ops.size t (Array.replicate ops.size false) []).Nodup:=by
    rw [List.nodup_cons];exact⟨c,f2⟩
   have hlen:=od (x::Region.linearise.go .any ops ops.size t (Array.replicate ops.size false) []) ll ops.size (fun y hy=>by
    rcases List.mem_cons.1 hy with rfl|hy
    ·exact hx
    ·exact (f1 y hy).1)
   rw [List.length_cons,hl] at hlen
   omega
 have hL:(Region.linearise .any ops t).Pairwise (fun y x=>x < y->Ir ops D x y):=by
  refine List.Pairwise.imp_of_mem ?_ f3
  intro y x hy hx hb iS
  have fK:=ow (ops:=ops) (f1 y hy).1 iS hb
  have fc:=List.all_eq_true.1 hp _ fK
  unfold Iu at fc
  split at fc
  ·rename_i oi oj hi hj
   refine⟨oi,oj,hi,hj,fc,?_⟩
   have wY:x ∈ List.range ops.size:=(gG x).1 hx
   have FF:y ∈ List.range ops.size:=(gG y).1 hy
   cases wZ:kA ops x with
   |true=>rw [h.rp x wY wZ];exact tq
   |false =>
    cases w5:kA ops y with
    |true=>rw [h.rp y FF w5];exact tr
    |false=>exact hv (x,y) (List.mem_filter.2 ⟨fK,by simp [wZ,w5]⟩)
  ·cases fc
 have hC:(List.range ops.size).Pairwise (· < ·):=List.pairwise_lt_range
 obtain⟨hE,dF⟩:=hS.drew
 have dF:St w0 A g S { w with drawn:=w.drawn+1 }:=dF
 refine (ef.perm hC hL gG f2 h).oe F m A g a _ _ hF dF (hA.later hE.toLater) fun a' w' g' h1 h2 h3=>⟨rfl,g',h1,h2,hE.trans h3⟩
end
def bC (P:Program) (w0:World) (B:Nat) (q:cj) (α:AA) (S:U) (r:AV) (d:Dt):Prop :=
 ∀ (n:Nat) (o:Oper),res P.toTables o.op=some q->(fk o.op=true->d=.none_)/\gJ S d.F/\∀ T,B<=T.nx->gJ T d.F->(d.m=true->T.nx=S.nx)->cP P w0 n o (α.only (cb o)) T r (cD T d.W d.m)
def su:cj->Bool
 |.mv _|.pick ..|.build ..|.rows ..|.not _|.pn ..|.field ..|.extract ..|.uH ..|.pq _=>true
 |_=>false
def dq (q:cj) (f:Nat->AV) (S:U) (rs:List Nat):Option (AV × Dt × List Nat) :=
 match q with
 |.load k x=>match x.ev f with
  |.ip row=>match kc k row 0 with
   |some a=>some (a,⟨[],[],false⟩,rs)
   |none=>none
  |.pt b sz i j=>match S.get b with
   |some (.arr sz' rows fz ex)=>match fY k S (.pt b sz i j) with
    |some a=>some (a,⟨[(b,.arr sz' rows fz ex)],[],false⟩,rs)
    |none=>none
   |_=>none
  |_=>none
 |.store n x b=>match b.ev f,x.ev f with
  |bv,.pt k sz 0 j=>match S.get k with
   |some (.arr sz' [row] 0 ex)=>match Nat.beq sz sz' && (aA bv).all bp && Nat.beq n (aA bv).length with
    |true=>match Nat.ble (j+(aA bv).length) row.length with
     |true=>some (.v undef,⟨[(k,.arr sz' [row] 0 ex)],[(k,some (.arr sz [ib row j (aA bv)] 0 ex))],false⟩,rs)
     |false=>none
    |false=>none
   |_=>none
  |_,_=>none
 |.alloc cs=>match rs with
  |k::rs=>match S.get k with
   |some .un=>some (.pt k cs.length 0 0,⟨[(k,.un)],[(k,some (.arr cs.length [cs] 0 true))],false⟩,rs)
   |_=>none
  |[]=>none
 |.box x=>match (aA (x.ev f)).all bp with
  |true=>some (.pt S.nx (aA (x.ev f)).length 0 0,⟨[],[(S.nx,some (.arr (aA (x.ev f)).length [aA (x.ev f)] 0 true))],true⟩,rs)
  |false=>none
 |.call ..=>none
 |q=>match su q with
  |true=>match dY q f S with
   |some (r,_)=>some (r,⟨[],[],false⟩,rs)
   |none=>none
  |false=>none
section
variable {P:Program}{w0:World}{n B:Nat}{o:Oper}{α:AA}{S S':U}{r:AV}{q:cj}{d:Dt}{rs iU:List Nat}
theorem uM {f:Nat->AV}(hp:su q=true) (h:dY q f S=some (r,S')) (T:U):dY q f T=some (r,T):=by
 have e:∀ {a:AV}{X Y:U},some (a,X)=some (r,Y)->a=r:=fun h=>by injection h with h;injection h
 cases q<;>first|(exfalso;cases hp;done)|skip
 all_goals
  simp only [dY] at h ⊢
  repeat' split at h
  all_goals first
   |(cases h;done)
   |(obtain rfl:=e h;simp only [*];done)
   |(obtain rfl:=e h;rfl)
theorem bC.tt (h1:∀ o,res P.toTables o=some q->fk o=true->d=.none_) (h2:gJ S d.F) (h:∀ T,gJ T d.F->(d.m=true->T.nx=S.nx)->∀ o,res P.toTables o=some q->aE P w0 o α T (nS r (cD T d.W d.m))):bC P w0 B q α S r d:=by
 intro n o hr
 refine⟨h1 _ hr,h2,fun T _ hT hm=>?_⟩
 obtain⟨r',S1,h4,rfl,rfl⟩:=kQ (n:=n) (h T hT hm o.op hr)
 exact h4
theorem wA {e:TypeId}{z:Value}{k:Nat}(ho:o.op=.alloc e) (hz:bY P e=some z) (hk:S.get k=some .un) (au:k < S.nx):aC P w0 n o α S (.pt k (z.cells.toList.map aO).length 0 0) (S.set k (some (.arr (z.cells.toList.map aO).length [z.cells.toList.map aO] 0 true))):=by
 intro A g a w hS hA
 obtain⟨cs,tu⟩:∃ cs,z.cells.toList.map aO=cs:=⟨_,rfl⟩
 have eC:=iG.aO (g:=g) (w:=w) z.cells
 rw [tu] at eC ⊢
 have qZ:¬ g.al k:=fun h=>(hS.bE k _ hk h).2.2
 have km:St w0 A g (S.set k (some (.arr cs.length [cs] 0 true))) w:=hS.forget (Nat.le_refl _) fun j p hj ha=>by
  have hj:a6 S.get k (some (.arr cs.length [cs] 0 true)) j=some p:=hj
  rwa [aw _ _ (fun e=>qZ (by rw [<-e];exact ha))] at hj
 obtain⟨hE,cz⟩:=km.newAt (.cells z.cells e) qZ au 1 (fun J hJ=>by
  have hJ:a6 S.get k (some (.arr cs.length [cs] 0 true)) k=some (.fo J):=hJ
  rw [ah] at hJ
  cases hJ) (fun ob gE hL=>by
  have gE:a6 S.get k (some (.arr cs.length [cs] 0 true)) k=some ob:=gE
  rw [ah] at gE
  obtain rfl:=Option.some.inj gE
  refine⟨z.cells,e,bZ,by rw [eC.1];simp,by simp,fun _=>rfl,fun i row hr=>?_,Nat.zero_le _,fun q=>⟨fun hf=>?_,fun hf=>by simp at hf⟩⟩
  ·cases i with
   |succ i=>simp at hr
   |zero =>
    simp at hr
    subst hr
    refine⟨rfl,fun j a ha=>?_⟩
    have hj:j < z.cells.size:=by rw [eC.1];exact (List.getElem?_eq_some_iff.1 ha).1
    exact⟨z.cells[j],by simp,(eC.2 j a _ ha (Array.getElem?_eq_getElem hj)).later hL⟩
  ·exact absurd (hS.bM _ _ hf) (by omega))
 have hp:=ao.pt (g:=g.new k w.heap.size 1) (w:=w.alloc (.cells z.cells e)) (k:=k) (sz:=cs.length) (i:=0) (j:=0) (.inr rfl)
 rw [show (g.new k w.heap.size 1).ob k=w.heap.size from ah _ _ _] at hp
 refine⟨_,_,_,.inl ?_,by simpa using hp,cz,hE⟩
 simp [execOp,ho,Instr.alloc,iT hz,newVar,newRow]
theorem qx {f:Nat->AV}{df:List Nat}(fZ:∀ k ∈ rs,k < B) (h:dq q f S rs=some (r,d,iU)):bC P w0 B q ⟨f,df⟩ S r d/\∀ k ∈ iU,k ∈ rs:=by
 have hq:∀ {T:U},su q=true->(match dY q f S with|some (r,_)=>some (r,(⟨[],[],false⟩:Dt),rs)|none=>none)=some (r,d,iU)->bC P w0 B q ⟨f,df⟩ S r d/\∀ k ∈ iU,k ∈ rs:=by
  intro T hp h
  split at h
  ·rename_i a X hx
   simp only [Option.some.injEq,Prod.mk.injEq] at h
   obtain⟨rfl,rfl,rfl⟩:=h
   exact⟨bC.tt (fun _ _ _=>rfl) (fun p hp=>by cases hp) fun T _ _ o hr=>by
    rw [show cD T [] false=T from bH]
    exact kf (α:=⟨f,df⟩) hr (uM hp hx T),fun _ hk=>hk⟩
  ·cases h
 have nP:∀ {A:Prop},(∀ o,res P.toTables o=some q->fk o=true->A)->∀ o,res P.toTables o=some q->fk o=true->A:=fun h=>h
 cases q with
 |load k x =>
  have np:∀ o,res P.toTables o=some (.load k x)->fk o=true->d=.none_:=fun o hr hp=>by
   cases o<;>simp only [res] at hr<;>(repeat' split at hr)<;>(try cases hr)<;>cases hp
  have fin:∀ {a:AV}{F:List (Nat × Ob)},(∀ T,gJ T F->fY k T (x.ev f)=some a)->gJ S F->some (a,(⟨F,[],false⟩:Dt),rs)=some (r,d,iU)->bC P w0 B (.load k x) ⟨f,df⟩ S r d/\∀ k ∈ iU,k ∈ rs:=by
   intro a F h1 h2 h
   simp only [Option.some.injEq,Prod.mk.injEq] at h
   obtain⟨rfl,rfl,rfl⟩:=h
   refine⟨bC.tt np h2 fun T hT _ o hr=>?_,fun _ hk=>hk⟩
   rw [show cD T [] false=T from bH]
   exact kf (α:=⟨f,df⟩) hr (by simp only [dY,h1 T hT])
  simp only [dq] at h
  split at h
  ·rename_i row hx
   split at h
   ·rename_i a ha
    exact fin (fun T _=>by rw [hx];exact ha) (fun p hp=>by cases hp) h
   ·cases h
  ·rename_i b sz i j hx
   split at h
   ·rename_i sz' rows fz ex hb
    split at h
    ·rename_i a ha
     refine fin (fun T hT=>?_) (fun p hp=>by simp only [List.mem_singleton] at hp;subst hp;exact hb) h
     have w6:T.get b=some (.arr sz' rows fz ex):=hT (b,_) (by simp)
     rw [hx]
     simp only [fY,hb,w6] at ha ⊢
     exact ha
    ·cases h
   ·cases h
  ·cases h
 |store m x b =>
  have np:∀ o,res P.toTables o=some (.store m x b)->fk o=true->d=.none_:=fun o hr hp=>by
   cases o<;>simp only [res] at hr<;>(repeat' split at hr)<;>(try cases hr)<;>cases hp
  simp only [dq] at h
  split at h
  ·rename_i bv k sz j hx
   split at h
   ·rename_i sz' row ex hk
    split at h
    ·rename_i hc
     split at h
     ·rename_i hl
      simp only [Option.some.injEq,Prod.mk.injEq] at h
      obtain⟨rfl,rfl,rfl⟩:=h
      refine⟨bC.tt np (fun p hp=>by simp only [List.mem_singleton] at hp;subst hp;exact hk) fun T hT _ o hr=>?_,fun _ hk=>hk⟩
      refine kf (α:=⟨f,df⟩) hr ?_
      obtain⟨G,X⟩:=T
      have kK:G k=some (.arr sz' [row] 0 ex):=hT (k,_) (by simp)
      simp only [dY,hx,kK,hc,hl,cD,dU]
     ·cases h
    ·cases h
   ·cases h
  ·cases h
 |alloc cs =>
  simp only [dq] at h
  split at h
  ·rename_i k FG
   split at h
   ·rename_i hk
    simp only [Option.some.injEq,Prod.mk.injEq] at h
    obtain⟨rfl,rfl,rfl⟩:=h
    refine⟨fun n o hr=>⟨fun hp=>?_,fun p hp=>by simp only [List.mem_singleton] at hp;subst hp;exact hk,fun T hb hT _=>?_⟩,fun _ h=>by simp [h]⟩
    ·cases ho:o.op<;>rw [ho] at hr hp<;>simp only [res] at hr<;>(repeat' split at hr)<;>(try cases hr)<;>cases hp
    ·have kK:T.get k=some .un:=hT (k,_) (by simp)
     have aF:∃ e z,o.op=.alloc e/\bY P e=some z/\cs=z.cells.toList.map aO:=by
      cases ho:o.op<;>rw [ho] at hr<;>simp only [res,dX] at hr<;>(repeat' split at hr)<;>(try cases hr)
      exact⟨_,_,rfl,by assumption,rfl⟩
     obtain⟨e,z,ho,hz,rfl⟩:=aF
     have e1:cD T [(k,some (.arr (z.cells.toList.map aO).length [z.cells.toList.map aO] 0 true))] false=T.set k (some (.arr (z.cells.toList.map aO).length [z.cells.toList.map aO] 0 true)):=by cases T;rfl
     rw [e1]
     refine fun F mm A g a w nx Q hF hS hA hn=>?_
     have au:k < T.nx:=Nat.lt_of_lt_of_le (fZ k (by simp)) hb
     exact ((wA (P:=P) (n:=n) ho hz kK au).ops fun c e=>by rw [ho] at e;cases e) F mm A g a w nx Q hF hS hA hn
   ·cases h
  ·cases h
 |box x =>
  have np:∀ o,res P.toTables o=some (.box x)->fk o=true->d=.none_:=fun o hr hp=>by
   cases o<;>simp only [res] at hr<;>(repeat' split at hr)<;>(try cases hr)<;>cases hp
  simp only [dq] at h
  split at h
  ·rename_i hc
   simp only [Option.some.injEq,Prod.mk.injEq] at h
   obtain⟨rfl,rfl,rfl⟩:=h
   refine⟨bC.tt np (fun p hp=>by cases hp) fun T hT hm o hr=>?_,fun _ hk=>hk⟩
   have hm:=hm rfl
   refine kf (α:=⟨f,df⟩) hr ?_
   obtain⟨G,X⟩:=T
   simp only at hm
   subst hm
   simp only [dY,hc,jJ,jd,cD,dU]
   rfl
  ·cases h
 |call g aZ9=>cases h
 |_ =>
  first
  |exact hq (T:=S) rfl h
  |(simp only [dq,su] at h;cases h)
end
end Go.Proofs.YtbofilglphfceaaGreat
