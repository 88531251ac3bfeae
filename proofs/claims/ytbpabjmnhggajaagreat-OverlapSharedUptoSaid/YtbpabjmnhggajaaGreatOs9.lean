import Derived.Test.YtbpabjmnhggajaaGreatOs8
namespace Go.Proofs.YtbpabjmnhggajaaGreat
set_option linter.unusedVariables false
set_option linter.unusedSimpArgs false
open Go.RowKit
structure Dt where
 F:List (Nat × Ob)
 W:List (Nat × Option Ob)
 m:Bool
def Dt.none_:Dt:=⟨[],[],false⟩
def fC (T:ae) (F:List (Nat × Ob)):Prop:=∀ p ∈ F,T.get p.1=some p.2
def dC (G:Nat->Option Ob):List (Nat × Option Ob)->Nat->Option Ob
 |[]=>G
 |p::W=>a7 (dC G W) p.1 p.2
def Cp:List (Nat × Option Ob)->Bool->Nat
 |_::_::_::_,true=>16
 |_,true=>1
 |_,false=>0
theorem xU {W:List (Nat × Option Ob)}:Cp W false=0:=by grind[Cp]
def dm (T:ae) (W:List (Nat × Option Ob)) (m:Bool):ae:=match T,m with|⟨G,x⟩,true=>⟨dC G W,x+Cp W true⟩|⟨G,x⟩,false=>⟨dC G W,x⟩
theorem dT {T:ae}{W:List (Nat × Option Ob)}{m:Bool}:dm T W m=⟨dC T.get W,T.nx+Cp W m⟩:=by
 cases T;cases m
 ·rw[xU];rfl
 ·rfl
def Bb (l m:List Nat):Bool:=l.all fun x=>m.all fun y=>!Nat.beq x y
theorem CI {l m:List Nat}(h:Bb l m=true) {x y:Nat}(hx:x ∈ l) (hy:y ∈ m):x ≠ y:=by
 intro e;subst e;have:=List.all_eq_true.1 (List.all_eq_true.1 h x hx) x hy;rw[Nat.beq_refl] at this;cases this
def dj (x y:List Nat × List Nat × Bool):Bool:=Bb x.2.1 y.1 && Bb x.2.1 y.2.1 && Bb x.1 y.2.1 && !(x.2.2 && y.2.2)
def Dt.ns (d:Dt):List Nat × List Nat × Bool:=(d.F.map (·.1),d.W.map (·.1),d.m)
theorem l7 {G:Nat->Option Ob}:∀ {W:List (Nat × Option Ob)}{k:Nat},k ∉ W.map (·.1)->dC G W k=G k
 |[],_,_=>rfl
 |p::W,k,h=>by
  simp only[List.map_cons,List.mem_cons,not_or] at h;rw[dC,aD _ _ h.1,l7 h.2]
theorem RK {G:Nat->Option Ob}{W V:List (Nat × Option Ob)}(h:∀ x ∈ W.map (·.1),∀ y ∈ V.map (·.1),x ≠ y):dC (dC G W) V=dC (dC G V) W:=by
 have key:∀ {G H:Nat->Option Ob}{W:List (Nat × Option Ob)}{k:Nat},k ∈ W.map (·.1)->dC G W k=dC H W k:=by
  intro G H W k
  induction W with
  |nil=>intro h;cases h
  |cons p W ih =>
   intro h;by_cases e:k=p.1
   ·subst e;rw[dC,dC,az,az]
   ·rw[dC,dC,aD _ _ e,aD _ _ e];exact ih ((List.mem_cons.1 h).resolve_left e)
 funext k;by_cases h1:k ∈ V.map (·.1)
 ·grind[l7]
 ·grind[l7]
section
variable {P:Program}{w0:World}{n B:Nat}{α au:AA}{S S':ae}{r:AV}{ops:Array Oper}{D:Nat->Dt}
def oP:Op->Bool
 |.buildSlice ..=>false
 |o=>m_ o
theorem sX {o:Op}(h:m_ o=false):oP o=false:=by cases o<;>first|rfl|exact h
def oq (P:Program) (w0:World) (n:Nat) (ops:Array Oper) (B:Nat) (i:Nat) (d:Dt) (α:AA) (S:ae) (α1:AA) (S1:ae):Prop :=
 ∃ o,ops[i]?=some o/\(match o.dst with|some d=>Nat.blt d n|none=>true)=true/\(oP o.op=true->d=.none_)/\B<=S.nx/\fC S d.F/\S1=dm S d.W d.m /\
  ((∃ (j:Nat) (want:Bool) (b:Option Bool),o.guard=some (j,want)/\oX ops α j=some b/\b ≠ some want/\α1=α.put o.dst (.v undef)/\d=.none_) \/
   ((o.guard=none\/∃ j want,o.guard=some (j,want)/\oX ops α j=some (some want))/\∃ r,α1=α.put o.dst r/\∀ T,B<=T.nx->fC T d.F->(d.m=true->T.nx=S.nx)->ez P w0 n o (α.only (cG o)) T r (dm T d.W d.m)))
theorem cQ:dm S [] false=S:=by cases S;rfl
theorem oq.shape {i:Nat}{d:Dt}{α1:AA}{S1:ae}(h:oq P w0 n ops B i d α S α1 S1):∃ o a,ops[i]?=some o/\α1=α.put o.dst a/\fC S d.F/\S1=dm S d.W d.m/\B<=S.nx:=by
 obtain⟨o,h1,_,_,hB,h2,h3,h⟩:=h;rcases h with ⟨j,want,b,hg,hy,bU,rfl,_⟩|⟨hg,r,rfl,_⟩
 ·grind
 ·grind
theorem oq.anyS {i:Nat}{d:Dt}{α1:AA}{S1 T:ae}(h:oq P w0 n ops B i d α S α1 S1) (hB:B<=T.nx) (hT:fC T d.F) (hm:d.m=true->T.nx=S.nx):oq P w0 n ops B i d α T α1 (dm T d.W d.m):=by
 obtain⟨o,h1,hn,hp,_,h2,h3,h⟩:=h;refine⟨o,h1,hn,hp,hB,hT,rfl,?_⟩;rcases h with h|⟨hg,r,h4,h5⟩
 ·grind
 ·grind
theorem oq.frame {i:Nat}{dt:Dt}{α1:AA}{S1:ae}{d:Option Tmp}{a:AV}(h:oq P w0 n ops B i dt α S α1 S1) (hd:∀ o,ops[i]?=some o->∀ e,d=some e->e ∉ o.looksAt ops/\o.dst ≠ some e):oq P w0 n ops B i dt (α.put d a) S (α1.put d a) S1:=by
 obtain⟨o,hi,hn,hp,h0,h8,h9,h⟩:=h;have h1:∀ e,d=some e->e ∉ cG o:=fun e he hm=>(hd o hi e he).1 (rq hm);have h2:∀ j want,o.guard=some (j,want)->∀ e,d=some e->(ops[j]?).bind (·.dst) ≠ some e:=by
  intro j want hg e he h3;refine (hd o hi e he).1 (List.mem_append.2 (.inr ?_));rw[hg];simp only;rw[h3];simp
 have hc:∀ x,(α.put o.dst x).put d a=(α.put d a).put o.dst x:=fun x=>(put_comm fun t ht e=>(hd o hi t ht).2 e).symm;refine⟨o,hi,hn,hp,h0,h8,h9,?_⟩;rcases h with ⟨j,want,b,hg,hy,bU,rfl,h7⟩|⟨hg,r,rfl,h3⟩
 ·grind[nf]
 ·refine .inr ⟨?_,r,hc _,by grind[oS]⟩;rcases hg with hg|⟨j,want,hg,hy⟩
  ·grind
  ·grind[nf]
theorem oq.swap {i j:Nat}{di nN:Dt}{oi oj:Oper}{α1 nO:AA}{S1 S2:ae}(hi:ops[i]?=some oi) (hj:ops[j]?=some oj) (ot:oi.apart ops oj=true) (hd:dj di.ns nN.ns=true) (h:oq P w0 n ops B i di α S α1 S1) (k:oq P w0 n ops B j nN α1 S1 nO S2) :
  ∃ tZ zU,oq P w0 n ops B j nN α S tZ zU/\oq P w0 n ops B i di tZ zU nO S2:=by
 obtain⟨e1,e2,e3⟩:=Oper.apart_spec ot;obtain⟨o7,a,jV,rfl,mV,rfl,hBi⟩:=h.shape;obtain rfl:o7=oi:=by grind
 obtain⟨qk,b,lx,rfl,ZB,rfl,hBj⟩:=k.shape;obtain rfl:qk=oj:=by grind
 simp only[dj,Dt.ns,Bool.and_eq_true,Bool.not_eq_true',Bool.and_eq_false_iff] at hd;obtain⟨⟨⟨d1,d2⟩,d3⟩,d4⟩:=hd;have x_:fC S nN.F:=fun p hp=>by
  have:=ZB p hp;rw[dT] at this;rw[<-this];exact (l7 fun hm=>CI d1 hm (List.mem_map.2 ⟨p,hp,rfl⟩) rfl).symm
 have Fb:fC (dm S nN.W nN.m) di.F:=fun p hp=>by
  rw[<-mV p hp,dT];exact l7 fun hm=>CI d3 (List.mem_map.2 ⟨p,hp,rfl⟩) hm rfl
 have ajv:dm (dm S nN.W nN.m) di.W di.m=dm (dm S di.W di.m) nN.W nN.m:=by grind[dT,RK,CI]
 have kj:oq P w0 n ops B j nN α S (α.put qk.dst b) (dm S nN.W nN.m):=by
  obtain⟨o,ho,hn,hp,q0,q1,q2,hk⟩:=k;obtain rfl:o=qk:=by grind
  have h1:∀ e,o7.dst=some e->e ∉ cG o:=fun e he hm=>e1 e he (rq hm);have h2:∀ q want,o.guard=some (q,want)->∀ e,o7.dst=some e->(ops[q]?).bind (·.dst) ≠ some e:=by
   intro q want hg e he h3;refine e1 e he (List.mem_append.2 (.inr ?_));rw[hg];simp only;rw[h3];simp
  have inj:∀ x y:AV,(α.put o7.dst a).put o.dst x=(α.put o7.dst a).put o.dst y->α.put o.dst x=α.put o.dst y:=by
   intro x y kr;cases tI:o.dst with
   |none=>rfl
   |some d =>
    rw[tI] at kr;have:x=y:=by
     have h3:=congrArg (fun z:AA=>z.tm d) kr;simpa[AA.put,az] using h3
    rw[this]
  refine⟨o,ho,hn,hp,hBi,x_,rfl,?_⟩;rcases hk with ⟨q,want,c,hg,hy,bU,h3,h4⟩|⟨hg,r,h3,h4⟩
  ·grind[nf]
  ·grind[oS,nf,dT,xU]
 have ki:=(h.anyS (by grind[dT]) Fb (fun e=>by grind[dT,xU])).frame (d:=qk.dst) (a:=b) fun o ho e he=>by
  obtain rfl:o=o7:=by grind
  exact⟨e3 e he,fun h3=>e2 e h3 he⟩
 rw[ajv,show (α.put o7.dst a).put qk.dst b=(α.put o7.dst a).put qk.dst b from rfl] at ki;exact⟨_,_,kj,ki⟩
inductive jl (P:Program) (w0:World) (n:Nat) (ops:Array Oper) (B:Nat) (D:Nat->Dt):List Nat->AA->ae->AA->ae->Prop where
 |nil (α:AA) (S:ae):jl P w0 n ops B D [] α S α S
 |cons {i:Nat}{rest:List Nat}{α α1 au:AA}{S S1 S':ae}(h:oq P w0 n ops B i (D i) α S α1 S1) (t:jl P w0 n ops B D rest α1 S1 au S'):jl P w0 n ops B D (i::rest) α S au S'
def okD (ops:Array Oper) (D:Nat->Dt) (i j:Nat):Prop:=∃ oi oj,ops[i]?=some oi/\ops[j]?=some oj/\oi.apart ops oj=true/\dj (D i).ns (D j).ns=true
theorem jl.front {j:Nat}:∀ {C1 C2:List Nat}{α au:AA}{S S':ae},(∀ x ∈ C1,okD ops D x j)->jl P w0 n ops B D (C1++j::C2) α S au S'->jl P w0 n ops B D (j::(C1++C2)) α S au S'
 |[],C2,α,au,S,S',_,h=>h
 |x::C1,C2,α,au,S,S',hx,h=>by
  cases h with
  |@cons _ _ _ α1 _ _ S1 _ h t =>
   have t':=jl.front (fun y hy=>hx y (by grind)) t;cases t' with
   |@cons _ _ _ nO _ _ S2 _ k t2 =>
    obtain⟨oi,oj,hi,hj,h1,h2⟩:=hx x (by simp);obtain⟨tZ,zU,h3,h4⟩:=h.swap hi hj h1 h2 k;exact .cons h3 (.cons h4 t2)
theorem jl.perm:∀ {L C:List Nat}{α au:AA}{S S':ae},C.Pairwise (· < ·)->L.Pairwise (fun y x=>x < y->okD ops D x y)->(∀ x,x ∈ L ↔ x ∈ C)->L.Nodup->jl P w0 n ops B D C α S au S'->jl P w0 n ops B D L α S au S'
 |[],C,α,au,S,S',_,_,hm,_,h=>by
  have:C=[]:=by
   cases C with
   |nil=>rfl
   |cons x C=>have:=(hm x).2 (by simp);cases this
  subst this;exact h
 |y::L,C,α,au,S,S',hC,hL,hm,hn,h=>by
  obtain⟨C1,C2,rfl⟩:=List.append_of_mem ((hm y).1 (by simp));rw[List.pairwise_cons] at hL;rw[List.nodup_cons] at hn;rw[List.pairwise_append,List.pairwise_cons] at hC;obtain⟨p1,⟨p2,p3⟩,p4⟩:=hC;have lQ:∀ x ∈ C1,x < y:=fun x hx=>p4 x hx y (by simp);have bK:∀ x ∈ C2,y < x:=p2;have fG:∀ x,x ∈ L ↔ x ∈ C1++C2:=by grind
  have hf:=jl.front (fun x hx=>hL.1 x ((fG x).2 (by grind)) (lQ x hx)) h;cases hf with
  |cons h1 h2 =>
   refine .cons h1 (jl.perm (L:=L) ?_ hL.2 fG hn.2 h2);rw[List.pairwise_append];exact⟨p1,p3,fun a ha b hb=>p4 a ha b (by grind)⟩
theorem jl.zV:∀ {L:List Nat}{α au:AA}{S S':ae},jl P w0 n ops B D L α S au S'->rT P w0 n ops L α S au S'
 |[],_,_,_,_,.nil α S=>fun F m A g a w Q hF hS hA hQ=>hQ a w g hS hA (Ext.refl ..)
 |i::rest,α,au,S,S',.cons (α1:=α1) (S1:=S1) h t=>by
  have ih:=jl.zV t;obtain⟨o,hi,hd,hp,hB,x_,fJ,h⟩:=h;rcases h with ⟨j,want,b,hg,hy,bU,rfl,Gf⟩|⟨hg,r,rfl,h3⟩
  ·have e:S1=S:=by rw[fJ,Gf];exact cQ
   subst e;intro F m A g a w Q hF hS hA hQ;have Gu:¬ Region.wanted o (yielded ops a.tmps)=true:=by simp[Region.wanted,hg,pW hA hy,bU]
   simp only[wpOpsIn,hi];rw[if_neg Gu];exact⟨fun f _=>hF.1 f,ih F m A g _ w Q hF hS (lE hA hd .v) hQ⟩
  ·intro F m A g a w Q hF hS hA hQ;have hw:Region.wanted o (yielded ops a.tmps)=true:=by
    rcases hg with hg|⟨j,want,hg,hy⟩
    ·simp[Region.wanted,hg]
    ·simp[Region.wanted,hg,pW hA hy]
   simp only[wpOpsIn,hi];rw[if_pos hw];have h4:=h3 S hB x_ (fun _=>rfl);rw[<-fJ] at h4;refine⟨fun f _=>hF.1 f,h4 F m A g a w _ Q hF hS (hA.only _) fun v w' g' hr fk hE=>?_⟩;exact ih F m A g' _ w' Q hF fk (lE (hA.later hE.toLater) hd hr) fun a' kR vP h1 h2 h3=>hQ a' kR vP h1 h2 (hE.trans h3)
def vc (ops:Array Oper) (m:List Nat):Nat->List (Nat × Nat)
 |0=>[]
 |y+1=>((List.range y).filter fun x=>!(m.getD y 0).testBit x).map (fun x=>(x,y))++vc ops m y
def rS (ops:Array Oper) (i:Nat):Bool:=match ops[i]? with|some o=>oP o.op|none=>true
def apB (ops:Array Oper) (x y:Nat):Bool:=match ops[x]?,ops[y]? with|some a,some b=>a.apart ops b|_,_=>false
def Wr (ops:Array Oper):List (Nat × Nat):=vc ops (beforeL [] ops.toList) ops.size
def xw (ops:Array Oper):List (Nat × Nat):=(Wr ops).filter fun p=>!rS ops p.1 && !rS ops p.2
def qG (ops:Array Oper):Bool:=pc 0 ops.toList && (Wr ops).all fun p=>apB ops p.1 p.2
theorem zX {m:List Nat}:∀ {k x y:Nat},y < k->x < y->(m.getD y 0).testBit x=false->(x,y) ∈ vc ops m k
 |0,x,y,h,_,_=>by omega
 |k+1,x,y,h,hx,hb=>by
  simp only[vc,List.mem_append];by_cases c:y=k
  ·grind
  ·exact .inr (zX (by omega) hx hb)
theorem Gv {y:List Nat × List Nat × Bool}:dj Dt.none_.ns y=true:=by simp[dj,Dt.none_,Dt.ns,Bb]
theorem Gw {x:List Nat × List Nat × Bool}:dj x Dt.none_.ns=true:=by simp[dj,Dt.none_,Dt.ns,Bb]
theorem jl.DW:∀ {L:List Nat}{α au:AA}{S S':ae},jl P w0 n ops B D L α S au S'->∀ i ∈ L,rS ops i=true->D i=.none_
 |_,_,_,_,_,.nil ..,i,hi,_=>by grind
 |_,_,_,_,_,.cons h t,i,hi,hp=>by
  rcases List.mem_cons.1 hi with rfl|hi
  ·obtain⟨o,h1,_,h2,_⟩:=h;simp only[rS,h1] at hp;exact h2 hp
  ·exact jl.DW t i hi hp
theorem cC.afa {rd:Bool}{id:Nat}(hm:P.follows .mixedOrders=true) (jA:qG ops=true) (hv:∀ p ∈ xw ops,dj (D p.1).ns (D p.2).ns=true) (h:jl P w0 n ops B D (List.range ops.size) α S au S'):cC P w0 rd n (.region id ops true) α S .normal au S':=by
 intro F m A g a w hF hR hS hA;simp only[qG,Bool.and_eq_true] at jA;obtain⟨he,hp⟩:=jA;refine wpIn_region_draw fun t=>?_;simp only[Region.schedule,hm,Bool.true_or,if_true];have hd:xx ops (Array.replicate ops.size false):=⟨by simp,fun y x hy=>by
  simp only[Array.getD_eq_getD_getElem?,Array.getElem?_replicate] at hy;split at hy<;>simp at hy⟩
 obtain⟨f1,f2,f3,f4⟩:=pX he ops.size t _ hd;have mZ:∀ x,x ∈ Region.linearise .any ops t ↔ x ∈ List.range ops.size:=by
  intro x;refine⟨fun hx=>by simpa using (f1 x hx).1,fun hx=>?_⟩;have hx:x < ops.size:=by grind
  by_cases c:x ∈ Region.linearise .any ops t
  ·grind
  ·exfalso;have hl:=f4 ⟨x,hx,by simp[Array.getD_eq_getD_getElem?,Array.getElem?_replicate,hx],c⟩;have rI:(x::Region.linearise.go .any ops ops.size t (Array.replicate ops.size false) []).Nodup:=by
    rw[List.nodup_cons];exact⟨c,f2⟩
   have hlen:=zW (x::Region.linearise.go .any ops ops.size t (Array.replicate ops.size false) []) rI ops.size (fun y hy=>by grind);rw[List.length_cons,hl] at hlen;omega
 have hL:(Region.linearise .any ops t).Pairwise (fun y x=>x < y->okD ops D x y):=by
  refine List.Pairwise.imp_of_mem ?_ f3;intro y x hy hx hb kr;have fG:=zX (ops:=ops) (f1 y hy).1 kr hb;have ot:=List.all_eq_true.1 hp _ fG;unfold apB at ot;split at ot
  ·rename_i oi oj hi hj;refine⟨oi,oj,hi,hj,ot,?_⟩;have LX:x ∈ List.range ops.size:=(mZ x).1 hx;have VL:y ∈ List.range ops.size:=(mZ y).1 hy;cases VM:rS ops x with
   |true=>rw[h.DW x LX VM];exact Gv
   |false =>
    cases VN:rS ops y with
    |true=>rw[h.DW y VL VN];exact Gw
    |false=>exact hv (x,y) (List.mem_filter.2 ⟨fG,by grind⟩)
  ·grind
 have hC:(List.range ops.size).Pairwise (· < ·):=List.pairwise_lt_range;obtain⟨hE,fJ⟩:=hS.drew;have fJ:St w0 A g S { w with drawn:=w.drawn+1 }:=fJ;refine (jl.perm hC hL mZ f2 h).zV F m A g a _ _ hF fJ (hA.later hE.toLater) fun a' w' g' h1 h2 h3=>⟨rfl,g',h1,h2,hE.trans h3⟩
end
def a6 (P:Program) (w0:World) (B:Nat) (q:ee) (α:AA) (S:ae) (r:AV) (d:Dt):Prop :=
 ∀ (n:Nat) (o:Oper),res P.toTables o.op=some q->(oP o.op=true->d=.none_)/\fC S d.F/\∀ T,B<=T.nx->fC T d.F->(d.m=true->T.nx=S.nx)->ez P w0 n o (α.only (cG o)) T r (dm T d.W d.m)
def EZ:ee->Bool
 |.mv _|.pick ..|.build ..|.rows ..|.not _|.AH ..|.field ..|.extract ..|.HL ..|.AI _=>true
 |_=>false
def dq (q:ee) (f:Nat->AV) (S:ae) (rs:List Nat):Option (AV × Dt × List Nat) :=
 match q with
 |.load k x=>match x.ev f with
  |.ip row=>match pD k row 0 with
   |some a=>some (a,⟨[],[],false⟩,rs)
   |none=>none
  |.pt b sz i j=>match S.get b with
   |some (.arr sz' rows fz ex)=>match mc k S (.pt b sz i j) with
    |some a=>some (a,⟨[(b,.arr sz' rows fz ex)],[],false⟩,rs)
    |none=>none
   |_=>none
  |_=>none
 |.store n x b=>match b.ev f,x.ev f with
  |bv,.pt k sz 0 j=>match S.get k with
   |some (.arr sz' [row] 0 ex)=>match Nat.beq sz sz' && (aL bv).all bO && Nat.beq n (aL bv).length with
    |true=>match Nat.ble (j+(aL bv).length) row.length with
     |true=>some (.v undef,⟨[(k,.arr sz' [row] 0 ex)],[(k,some (.arr sz [mF row j (aL bv)] 0 ex))],false⟩,rs)
     |false=>none
    |false=>none
   |_=>none
  |_,_=>none
 |.alloc cs=>match rs with
  |k::rs=>match S.get k with
   |some .un=>some (.pt k cs.length 0 0,⟨[(k,.un)],[(k,some (.arr cs.length [cs] 0 true))],false⟩,rs)
   |_=>none
  |[]=>none
 |.box x=>match (aL (x.ev f)).all bO with
  |true=>some (.pt S.nx (aL (x.ev f)).length 0 0,⟨[],[(S.nx,some (.arr (aL (x.ev f)).length [aL (x.ev f)] 0 true))],true⟩,rs)
  |false=>none
 |.call ..=>none
 |q=>match EZ q with
  |true=>match ja q f S with
   |some (r,_)=>some (r,⟨[],[],false⟩,rs)
   |none=>none
  |false=>none
section
variable {P:Program}{w0:World}{n B:Nat}{o:Oper}{α:AA}{S S':ae}{r:AV}{q:ee}{d:Dt}{rs o8:List Nat}
theorem IG {f:Nat->AV}(hp:EZ q=true) (h:ja q f S=some (r,S')) (T:ae):ja q f T=some (r,T):=by
 have e:∀ {a:AV}{X Y:ae},some (a,X)=some (r,Y)->a=r:=fun h=>by grind
 cases q<;>first|(exfalso;cases hp;done)|skip
 all_goals
  simp only[ja] at h ⊢
  repeat' split at h
  all_goals first
   |cases h;done
   |obtain rfl:=e h;simp only[*];done
   |obtain rfl:=e h;rfl
theorem a6.Fs (h1:∀ o,res P.toTables o=some q->oP o=true->d=.none_) (h2:fC S d.F) (h:∀ T,fC T d.F->(d.m=true->T.nx=S.nx)->∀ o,res P.toTables o=some q->a8 P w0 o α T (td r (dm T d.W d.m))):a6 P w0 B q α S r d:=by
 intro n o hr;refine⟨h1 _ hr,h2,fun T _ hT hm=>?_⟩;obtain⟨r',S1,h4,rfl,rfl⟩:=l9 (n:=n) (h T hT hm o.op hr);exact h4
theorem KZ {e:TypeId}{z:Value}{k:Nat}(ho:o.op=.alloc e) (hz:de P e=some z) (hk:S.get k=some .un) (aA:k < S.nx):aQ P w0 n o α S (.pt k (z.cells.toList.map bJ).length 0 0) (S.set k (some (.arr (z.cells.toList.map bJ).length [z.cells.toList.map bJ] 0 true))):=by
 intro A g a w hS hA;obtain⟨cs,Bg⟩:∃ cs,z.cells.toList.map bJ=cs:=⟨_,rfl⟩;have jH:=oL.bJ (g:=g) (w:=w) z.cells;rw[Bg] at jH ⊢;have uq:¬ g.al k:=fun h=>(hS.bT k _ hk h).2.2;have mM:St w0 A g (S.set k (some (.arr cs.length [cs] 0 true))) w:=hS.forget (Nat.le_refl _) fun j p hj ha=>by
  have hj:a7 S.get k (some (.arr cs.length [cs] 0 true)) j=some p:=hj
  rwa [aD _ _ (fun e=>uq (by grind))] at hj
 obtain⟨hE,cZ⟩:=mM.newAt (.cells z.cells e) uq aA 1 (fun J hJ=>by
  have hJ:a7 S.get k (some (.arr cs.length [cs] 0 true)) k=some (.fo J):=hJ;rw[az] at hJ;cases hJ) (fun ob jm hL=>by
  have jm:a7 S.get k (some (.arr cs.length [cs] 0 true)) k=some ob:=jm;rw[az] at jm;obtain rfl:=oJ_ jm;refine⟨z.cells,e,dw,by grind,by simp,fun _=>rfl,fun i row hr=>?_,Nat.zero_le _,fun q=>⟨fun hf=>?_,fun hf=>by grind⟩⟩
  ·cases i with
   |succ i=>simp at hr
   |zero =>
    simp at hr;subst hr;refine⟨rfl,fun j a ha=>?_⟩;have hj:j < z.cells.size:=by grind
    exact⟨z.cells[j],by simp,(jH.2 j a _ ha (Array.getElem?_eq_getElem hj)).later hL⟩
  ·exact absurd (hS.cK _ _ hf) (by omega))
 have hp:=aF.pt (g:=g.new k w.heap.size 1) (w:=w.alloc (.cells z.cells e)) (k:=k) (sz:=cs.length) (i:=0) (j:=0) (.inr rfl);rw[show (g.new k w.heap.size 1).ob k=w.heap.size from az _ _ _] at hp;refine⟨_,_,_,.inl ?_,by simpa using hp,cZ,hE⟩;simp[execOp,ho,Instr.alloc,lN hz,newVar,newRow]
theorem Cw {f:Nat->AV}{df:List DE}(mL:∀ k ∈ rs,k < B) (h:dq q f S rs=some (r,d,o8)):a6 P w0 B q ⟨f,df⟩ S r d/\∀ k ∈ o8,k ∈ rs:=by
 have hq:∀ {T:ae},EZ q=true->(match ja q f S with|some (r,_)=>some (r,(⟨[],[],false⟩:Dt),rs)|none=>none)=some (r,d,o8)->a6 P w0 B q ⟨f,df⟩ S r d/\∀ k ∈ o8,k ∈ rs:=by
  intro T hp h;split at h
  ·rename_i a X hx;simp only[oI_,pI_] at h;obtain⟨rfl,rfl,rfl⟩:=h;exact⟨a6.Fs (fun _ _ _=>rfl) (fun p hp=>by grind) fun T _ _ o hr=>by grind[dm,cQ,rF,IG],fun _ hk=>hk⟩
  ·grind
 have nP:∀ {A:Prop},(∀ o,res P.toTables o=some q->oP o=true->A)->∀ o,res P.toTables o=some q->oP o=true->A:=fun h=>h;cases q with
 |load k x =>
  have np:∀ o,res P.toTables o=some (.load k x)->oP o=true->d=.none_:=fun o hr hp=>by
   cases o<;>simp only[res] at hr<;>(repeat' split at hr)<;>(try cases hr)<;>cases hp
  have fin:∀ {a:AV}{F:List (Nat × Ob)},(∀ T,fC T F->mc k T (x.ev f)=some a)->fC S F->some (a,(⟨F,[],false⟩:Dt),rs)=some (r,d,o8)->a6 P w0 B (.load k x) ⟨f,df⟩ S r d/\∀ k ∈ o8,k ∈ rs:=by
   intro a F h1 h2 h;simp only[oI_,pI_] at h;obtain⟨rfl,rfl,rfl⟩:=h;refine⟨a6.Fs np h2 fun T hT _ o hr=>?_,fun _ hk=>hk⟩;rw[show dm T [] false=T from cQ];exact rF (α:=⟨f,df⟩) hr (by grind[ja])
  simp only[dq] at h;split at h
  ·rename_i row hx;split at h
   ·rename_i a ha;exact fin (fun T _=>by rw[hx];exact ha) (fun p hp=>by grind) h
   ·grind
  ·rename_i b sz i j hx;split at h
   ·rename_i sz' rows fz ex hb;split at h
    ·rename_i a ha;refine fin (fun T hT=>?_) (fun p hp=>by grind) h;have Bm:T.get b=some (.arr sz' rows fz ex):=hT (b,_) (by simp);rw[hx];simp only[mc,hb,Bm] at ha ⊢;exact ha
    ·grind
   ·grind
  ·grind
 |store m x b =>
  have np:∀ o,res P.toTables o=some (.store m x b)->oP o=true->d=.none_:=fun o hr hp=>by
   cases o<;>simp only[res] at hr<;>(repeat' split at hr)<;>(try cases hr)<;>cases hp
  simp only[dq] at h;split at h
  ·rename_i bv k sz j hx;split at h
   ·rename_i sz' row ex hk;split at h
    ·rename_i hc;split at h
     ·rename_i hl;simp only[oI_,pI_] at h;obtain⟨rfl,rfl,rfl⟩:=h;refine⟨a6.Fs np (fun p hp=>by grind) fun T hT _ o hr=>?_,fun _ hk=>hk⟩;refine rF (α:=⟨f,df⟩) hr ?_;obtain⟨G,X⟩:=T;have gT:G k=some (.arr sz' [row] 0 ex):=hT (k,_) (by simp);simp only[ja,hx,gT,hc,hl,dm,dC]
     ·grind
    ·grind
   ·grind
  ·grind
 |alloc cs =>
  simp only[dq] at h;split at h
  ·rename_i k VU;split at h
   ·rename_i hk;simp only[oI_,pI_] at h;obtain⟨rfl,rfl,rfl⟩:=h;refine⟨fun n o hr=>⟨fun hp=>?_,fun p hp=>by grind,fun T hb hT _=>?_⟩,fun _ h=>by grind⟩
    ·cases ho:o.op<;>rw[ho] at hr hp<;>simp only[res] at hr<;>(repeat' split at hr)<;>(try cases hr)<;>cases hp
    ·have gT:T.get k=some .un:=hT (k,_) (by simp);have bl:∃ e z,o.op=.alloc e/\de P e=some z/\cs=z.cells.toList.map bJ:=by
      cases ho:o.op<;>rw[ho] at hr<;>simp only[res,gU] at hr<;>(repeat' split at hr)<;>(try cases hr)
      exact⟨_,_,rfl,by grind,rfl⟩
     obtain⟨e,z,ho,hz,rfl⟩:=bl;have e1:dm T [(k,some (.arr (z.cells.toList.map bJ).length [z.cells.toList.map bJ] 0 true))] false=T.set k (some (.arr (z.cells.toList.map bJ).length [z.cells.toList.map bJ] 0 true)):=by cases T;rfl
     rw[e1];refine fun F mm A g a w nx Q hF hS hA hn=>?_;have aA:k < T.nx:=Nat.lt_of_lt_of_le (mL k (by simp)) hb;exact ((KZ (P:=P) (n:=n) ho hz gT aA).ops fun c e=>by grind) F mm A g a w nx Q hF hS hA hn
   ·grind
  ·grind
 |box x =>
  have np:∀ o,res P.toTables o=some (.box x)->oP o=true->d=.none_:=fun o hr hp=>by
   cases o<;>simp only[res] at hr<;>(repeat' split at hr)<;>(try cases hr)<;>cases hp
  simp only[dq] at h;split at h
  ·rename_i hc;simp only[oI_,pI_] at h;obtain⟨rfl,rfl,rfl⟩:=h;refine⟨a6.Fs np (fun p hp=>by grind) fun T hT hm o hr=>?_,fun _ hk=>hk⟩;have hm:=hm rfl;refine rF (α:=⟨f,df⟩) hr ?_;obtain⟨G,X⟩:=T;simp only at hm;subst hm;simp only[ja,hc,qC,jF,dm,dC]
   rfl
  ·grind
 |call g aZ9=>cases h
 |_ =>
  first
  |exact hq (T:=S) rfl h
  |simp only[dq,EZ] at h;cases h
end
structure QI where
 d:Option Nat
 g:Option (Nat × Bool)
 q:ee
inductive QC where
 |skip
 |aN (dr:Bool) (l:List QI)
 |dN (V:List (Nat × Nat)) (l:List QI)
 |seq (a b:QC)
 |cond (x:QO) (a b:QC)
 |block (id:Nat) (a:QC)
 |scope (a:QC)
 |loop (a:QC)
 |exit (id:Nat)
 |ret
 |wM (x:QO) (ps:List Nat) (a b:QC)
 |raw (c:Code)
def mH (T:Tables) (n:Nat) (ops:List Oper):List Oper->Option (List QI)
 |[]=>some []
 |o::l=>match oz n o.dst,res T o.op,mH T n ops l with
  |true,some q,some l'=>match o.guard with
   |none=>some (⟨o.dst,none,q⟩::l')
   |some (j,want)=>match wZ ops j with
    |some t=>some (⟨o.dst,some (t,want),q⟩::l')
    |none=>none
  |_,_,_=>none
def UE (ops:Array Oper):Bool:=ops.toList.any fun o=>match o.op with
 |.call c=>match c.callee,c.args.toList with
  |.builtin .append,.tmp t::_=>ops.toList.any fun p=>(match p.dst with|some d=>Nat.beq d t|none=>false) && (match p.op with|.call c=>(match c.callee with|.value _=>true|_=>false)|_=>false)
  |_,_=>false
 |_=>false
def X0 (ops:Array Oper):Bool:=ops.toList.any fun o=>match o.op with
 |.call c=>match c.callee with
  |.value (.tmp _)=>true
  |_=>false
 |_=>false
def X1 (ops:Array Oper):Bool:=Ek ops && !(UE ops || X0 ops)
def afb (T:Tables) (t:TypeId):Bool:=match eZ T t with
 |some (.pointer e)=>match eZ T e with
  |some (.struct fs)=>Nat.ble 2 (fs.toList.filter fun f=>match eZ T f.type with|some (.map _ _)|some (.slice _)=>true|_=>false).length
  |_=>false
 |_=>false
def X2 (ops:Array Oper):Bool:=ops.toList.any fun o=>match o.op with
 |.call c=>match c.callee,c.args.toList with
  |.value _,[.tmp t,_,.tmp u] =>
   (ops.toList.any fun p=>(match p.dst with|some d=>Nat.beq d t|none=>false) && (match p.op with|.call c=>(match c.callee with|.value _=>true|_=>false)|_=>false)) &&
   (ops.toList.any fun p=>(match p.dst with|some d=>Nat.beq d u|none=>false) && (match p.op with|.buildSlice ..=>true|_=>false))
  |_,_=>false
 |_=>false
def X3 (ops:Array Oper):Bool:=ops.toList.any fun o=>match o.op with
 |.call c=>match c.callee with
  |.value _=>c.args.toList.any fun a=>match a with
   |.tmp t=>ops.toList.any fun p=>(match p.dst with|some d=>Nat.beq d t|none=>false) && (match p.op with|.call c=>(match c.callee with|.builtin .append=>true|_=>false)|_=>false)
   |_=>false
  |_=>false
 |_=>false
def UG (T:Tables) (ops:Array Oper):Bool:=X2 ops || X3 ops || ops.toList.any fun o=>match o.op with
 |.call c=>match c.callee,c.argTypes.toList with
  |.value _,t::_=>afb T t
  |_,_=>false
 |_=>false
def Bc (T:Tables) (ops:Array Oper):Bool:=X1 ops && !UG T ops
def comp (T:Tables) (n:Nat):Code->Option QC
 |.skip=>some .skip
 |.label _=>some .skip
 |.region id ops dr=>match mH T n ops.toList ops.toList with
  |some l=>match dr with
   |false=>some (.aN false l)
   |true=>match Bc T ops with
    |true=>some (.aN true l)
    |false=>some (.dN (xw ops) l)
  |none=>some (.raw (.region id ops dr))
 |.seq a b=>match comp T n a,comp T n b with
  |some a',some b'=>some (.seq a' b')
  |_,_=>none
 |.cond c a b=>match comp T n a,comp T n b with
  |some a',some b'=>some (.cond (qo c) a' b')
  |_,_=>none
 |.block id a=>match comp T n a with
  |some a'=>some (.block id a')
  |none=>none
 |.scope a=>match comp T n a with
  |some a'=>some (.scope a')
  |none=>none
 |.loop a=>match comp T n a with
  |some a'=>some (.loop a')
  |none=>none
 |.exit id=>some (.exit id)
 |.ret=>some .ret
 |.rangeFunc f ps a b=>match comp T n a,comp T n b with
  |some a',some b'=>some (.wM (qo f) ps.toList a' b')
  |_,_=>none
 |c=>some (.raw c)
def cU (P:Program):Code->Bool
 |.region _ ops true=>P.follows .mixedOrders && (Bc P.toTables ops || qG ops)
 |.seq a b=>cU P a && cU P b
 |.cond _ a b=>cU P a && cU P b
 |.block _ a=>cU P a
 |.scope a=>cU P a
 |.loop a=>cU P a
 |.rangeFunc _ _ a b=>cU P a && cU P b
 |_=>true
inductive ff where
 |seq (c:QC)
 |qe (id:Nat)
 |yN
inductive QF where
 |run (c:QC) (K:List ff)
 |out (ex:Exit) (K:List ff)
 |aN (dr:Bool) (l:List QI) (K:List ff)
 |dN (B:Nat) (V:List (Nat × Nat)) (lg:List (List Nat × List Nat × Bool)) (rs:List Nat) (l:List QI) (K:List ff)
def zZ (lg:List (List Nat × List Nat × Bool)) (i:Nat):List Nat × List Nat × Bool:=lg.getD i ([],[],false)
def iX:List QI->Nat->List Nat
 |[],_=>[]
 |i::l,x=>match i.q with|.alloc _=>x::iX l (x+1)|_=>iX l x
def L8 (G:Nat->Option Ob):List Nat->Nat->Option Ob
 |[]=>G
 |k::ks=>a7 (L8 G ks) k (some .un)
def xy (S:ae) (l:List QI):ae:=match S with|⟨G,x⟩=>⟨L8 G (iX l x),x+(iX l x).length⟩
def ab3 (V:List (Nat × Nat)) (lg:List (List Nat × List Nat × Bool)):Bool:=V.all fun p=>dj (zZ lg p.1) (zZ lg p.2)
section
variable (P:Program) (w0:World) (rd:Bool) (n:Nat)
def ib (b:QC) (Q:Exit->AA->ae->Prop) (α:AA) (S:ae):Prop:=∀ c,comp P.toTables n c=some b->cU P c=true->Wp P w0 rd n c Q α S
def dx (Q:Exit->AA->ae->Prop):List ff->Exit->AA->ae->Prop
 |[]=>Q
 |.seq b::K=>fun ex α S=>match ex with|.normal=>ib P w0 rd n b (dx Q K) α S|e=>dx Q K e α S
 |.qe id::K=>fun ex α S=>match ex with|.exit j=>(match Nat.beq j id with|true=>dx Q K .normal α S|false=>dx Q K (.exit j) α S)|e=>dx Q K e α S
 |.yN::K=>fun ex α S=>match ex with|.goto _=>False|e=>dx Q K e α S
def KA (ops:Array Oper) (l:List Nat) (α:AA) (S:ae) (ch:List PanicEntry) (au:AA) (S':ae):Prop :=
 ∀ (F:Fence) (m:Nat) (A:Nat->Prop) (g:Gh) (a:Act) (w:World) (Q:Exit->Act->World->Prop),ir F->St w0 A g S w->bR g w n α a ->
  (∀ (a':Act) (w':World) (g':Gh),St w0 A g' S' w'->bR g' w' n au a'->Ext A g w g' w'->Q (.panic ch) a' w')->wpOpsIn F m P ops Q l a w
def xV (ops l:List Oper) (Q:AA->ae->Prop) (E:List PanicEntry->AA->ae->Prop) (α:AA) (S:ae):Prop :=
 ∀ k,ops.drop k=l->(∃ au S',rT P w0 n ops.toArray (List.range' k l.length) α S au S'/\Q au S')\/∃ ch au S',KA P w0 n ops.toArray (List.range' k l.length) α S ch au S'/\E ch au S'
def eX (dr:Bool) (l:List QI) (Q:AA->ae->Prop) (E:List PanicEntry->AA->ae->Prop) (α:AA) (S:ae):Prop :=
 ∀ ops rest,mH P.toTables n ops rest=some l->match dr with|false=>xV P w0 n ops rest Q E α S|true=>l_ P w0 n ops rest Q α S
def nT (B:Nat) (V:List (Nat × Nat)) (lg:List (List Nat × List Nat × Bool)) (l:List QI) (Q:AA->ae->Prop) (α:AA) (S:ae):Prop :=
 ∀ ops:List Oper,mH P.toTables n ops (ops.drop lg.length)=some l->∃ (D:Nat->Dt) (au:AA) (S':ae),jl P w0 n ops.toArray B D (List.range' lg.length l.length) α S au S'/\ab3 V (lg++(List.range' lg.length l.length).map fun i=>(D i).ns)=true/\Q au S'
def ad (Q:Exit->AA->ae->Prop):QF->AA->ae->Prop
 |.run c K,α,S=>ib P w0 rd n c (dx P w0 rd n Q K) α S
 |.out ex K,α,S=>dx P w0 rd n Q K ex α S
 |.aN dr l K,α,S=>eX P w0 n dr l (fun α S=>dx P w0 rd n Q K .normal α S) (fun ch α S=>dx P w0 rd n Q K (.panic ch) α S) α S
 |.dN B V lg rs l K,α,S=>(∀ k ∈ rs,k < B)->B<=S.nx->nT P w0 n B V lg l (fun α S=>dx P w0 rd n Q K .normal α S) α S
def bm (f:Nat->AV):Option (Nat × Bool)->Option Bool
 |none=>some true
 |some (t,want)=>match f t with
  |.v (.bool true)=>some want
  |.v (.bool false)=>match want with|true=>some false|false=>some true
  |.v (.tuple _)=>some false
  |_=>none
def bC (d:Option Nat) (α:AA) (r:AV):AA:=match α,d with|⟨f,l⟩,some d=>⟨a7 f d r,l⟩|α,none=>α
def yP:QF->AA->ae->Option (QF × AA × ae)
 |.run c K,α,S=>match c with
  |.skip=>some (.out .normal K,α,S)
  |.aN false l=>some (.aN false l K,α,S)
  |.aN true l=>some (.aN true l K,α,S)
  |.dN V l=>match S with|⟨G,x⟩=>some (.dN (x+(iX l x).length) V [] (iX l x) l K,α,xy ⟨G,x⟩ l)
  |.seq a b=>some (.run a (.seq b::K),α,S)
  |.cond x a b=>match x.ev α.tm with
   |.v (.bool true)=>some (.run a K,α,S)
   |.v (.bool false)=>some (.run b K,α,S)
   |_=>none
  |.block id c=>some (.run c (.qe id::K),α,S)
  |.scope c=>some (.run c (.yN::K),α,S)
  |.exit id=>some (.out (.exit id) K,α,S)
  |.ret=>some (.out .ret K,α,S)
  |_=>none
 |.out ex K,α,S=>match K with
  |[]=>none
  |.seq b::K=>match ex with
   |.normal=>some (.run b K,α,S)
   |e=>some (.out e K,α,S)
  |.qe id::K=>match ex with
   |.exit j=>match Nat.beq j id with
    |true=>some (.out .normal K,α,S)
    |false=>some (.out (.exit j) K,α,S)
   |e=>some (.out e K,α,S)
  |.yN::K=>match ex with
   |.goto _=>none
   |e=>some (.out e K,α,S)
 |.aN dr l K,α,S=>match l with
  |[]=>some (.out .normal K,α,S)
  |i::l=>match bm α.tm i.g with
   |some true=>match ja i.q α.tm S with
    |some (r,S')=>some (.aN dr l K,bC i.d α r,S')
    |none=>none
   |some false=>some (.aN dr l K,bC i.d α (.v undef),S)
   |none=>none
 |.dN B V lg rs l K,α,S=>match l with
  |[]=>match ab3 V lg with
   |true=>some (.out .normal K,α,S)
   |false=>none
  |i::l=>match bm α.tm i.g with
   |some true=>match dq i.q α.tm S rs with
    |some (r,d,o8)=>some (.dN B V (lg++[d.ns]) o8 l K,bC i.d α r,dm S d.W d.m)
    |none=>none
   |some false=>some (.dN B V (lg++[([],[],false)]) rs l K,bC i.d α (.v undef),S)
   |none=>none
end
section
variable {P:Program}{w0:World}{rd:Bool}{n:Nat}{α au:AA}{S S':ae}{Q Q':Exit->AA->ae->Prop}{ex:Exit}{r:AV}{i:QI}{l:List QI}{R:AA->ae->Prop}{E:List PanicEntry->AA->ae->Prop}
theorem qH {d:Option Nat}:bC d α r=uo d α r:=by cases d<;>cases α<;>rfl
theorem ng {ops rest:List Oper}(h:mH P.toTables n ops rest=some (i::l)):∃ o mN,rest=o::mN/\mH P.toTables n ops mN=some l/\oz n o.dst=true/\o.dst=i.d/\res P.toTables o.op=some i.q /\
  (∀ b,bm α.tm i.g=some b->iQ ops α o=some b):=by
 cases rest with
 |nil=>cases h
 |cons o mN =>
  simp only[mH] at h;split at h
  ·rename_i q l' h1 h2 h3;split at h
   ·grind[bm,iQ]
   ·rename_i j want hg;split at h
    ·rename_i t ht;injection h with h;injection h with h4 h5;subst h4 h5;refine⟨o,mN,rfl,h3,h1,rfl,h2,fun b hb=>?_⟩;simp only[iQ,hg,U9,ht];simp only[bm] at hb;split at hb
     ·grind
     ·grind
     ·grind
     ·grind
    ·grind
  ·grind
theorem eX.nil {dr:Bool}(h:R α S):eX P w0 n dr [] R E α S:=by
 intro ops rest hc;have:rest=[]:=by
  cases rest with
  |nil=>rfl
  |cons o r =>
   simp only[mH] at hc
   repeat' split at hc
   all_goals cases hc
 subst this;cases dr with
 |false=>exact fun k hk=>.inl (Av.nil (ops:=ops) h k hk)
 |true=>exact l_.nil h
def K1 (P:Program) (w0:World) (n:Nat) (o:Oper) (α:AA) (S:ae) (r:AV) (S':ae):Prop :=
 ez P w0 n o (α.only (cG o)) S r S'/\(m_ o.op=true->S'=S/\∀ S,ez P w0 n o (α.only (cG o)) S r S)/\(zL o.op=false->S'=S)
theorem K1.ofD {o:Oper}(h:fe P w0 o.op α S (td r S')):K1 P w0 n o α S r S':=by
 cases hp:m_ o.op with
 |true =>
  obtain⟨r2,h1,h2⟩:=Wn hp (Ho h);obtain⟨rfl,rfl⟩:=h1;have h3:∀ T,ez P w0 n o (α.only (cG o)) T r2 T:=fun T=>by
   obtain⟨r',S',h4,rfl,rfl⟩:=l9 (n:=n) (h2 T);exact h4
  exact⟨h3 _,fun _=>⟨rfl,h3⟩,fun _=>rfl⟩
 |false =>
  cases hw:zL o.op with
  |false =>
   obtain⟨r2,h1,h2⟩:=Wo hp hw h;obtain⟨rfl,rfl⟩:=h1;obtain⟨r',S',h4,rfl,rfl⟩:=l9 (n:=n) h2;exact⟨h4,fun h=>(by grind),fun _=>rfl⟩
  |true =>
   obtain⟨r2,S2,h1,rfl,rfl⟩:=l9 (n:=n) (Ho h);exact⟨h1,fun h=>(by grind),fun h=>(by grind)⟩
theorem l_.opG {o:Oper}{rest ops:List Oper}{Q:AA->ae->Prop}(hd:oz n o.dst=true) (hw:iQ ops α o=some true) (h:K1 P w0 n o α S r S') (k:l_ P w0 n ops rest Q (uo o.dst α r) S'):l_ P w0 n ops (o::rest) Q α S:=by
 intro i hi;obtain⟨h1,h2⟩:=drop_cons hi;obtain⟨au,T,h4,h5⟩:=k (i+1) h2;rw[s7] at h4;exact⟨au,T,.cons ⟨o,h1,hd,.inr ⟨p_ hw,r,rfl,h⟩⟩ h4,h5⟩
def af (P:Program) (w0:World) (dr:Bool) (q:ee) (α:AA) (S:ae) (r:AV) (S':ae):Prop :=
 match dr with
 |true=>∀ (n:Nat) (o:Oper),res P.toTables o.op=some q->K1 P w0 n o α S r S'
 |false=>∀ (n:Nat) (o:Oper),res P.toTables o.op=some q->ez P w0 n o α S r S'
theorem ez.Fs {n:Nat}{o:Oper}(h:a8 P w0 o.op α S (td r S')):ez P w0 n o α S r S':=by
 obtain⟨r1,S1,h3,rfl,rfl⟩:=Al (n:=n) h;exact h3
theorem af.run {q:ee}(h:∀ (n:Nat) (o:Oper),res P.toTables o.op=some q->aQ P w0 n o α S r S'):af P w0 false q α S r S':=fun n o hr=>(h n o hr).ops fun c e=>by rw[e] at hr;cases hr
theorem KA.step {ops:Array Oper}{i:Nat}{o:Oper}{rest:List Nat}{au:AA}{bW:ae}{ch:List PanicEntry}(hi:ops[i]?=some o) (hd:(match o.dst with|some d=>Nat.blt d n|none=>true)=true)
  (hw:∀ (g:Gh) (w:World) (a:Act),bR g w n α a->Region.wanted o (yielded ops a.tmps)=true) (h:ez P w0 n o α S r bW) (k:KA P w0 n ops rest (α.put o.dst r) bW ch au S'):KA P w0 n ops (i::rest) α S ch au S':=by
 intro F m A g a w Q hF hS hA hQ;simp only[wpOpsIn,hi];rw[if_pos (hw g w a hA)];refine⟨fun f _=>hF.1 f,h F m A g a w _ Q hF hS hA fun v w' g' hr fk hE=>?_⟩;exact k F m A g' _ w' Q hF fk (lE (hA.later hE.toLater) hd hr) fun a' kR vP h1 h2 h3=>hQ a' kR vP h1 h2 (hE.trans h3)
theorem Aw {ops:List Oper}{o:Oper}(hw:iQ ops α o=some true) (g:Gh) (w:World) (a:Act) (hA:bR g w n α a):Region.wanted o (yielded ops.toArray a.tmps)=true:=by
 rcases p_ hw with hg|⟨j,want,hg,hy⟩
 ·simp[Region.wanted,hg]
 ·simp[Region.wanted,hg,pW hA hy]
theorem xV.tW {o:Oper}{rest ops:List Oper}{Q:AA->ae->Prop}(hd:oz n o.dst=true) (hw:iQ ops α o=some true) (h:ez P w0 n o α S r S') (k:xV P w0 n ops rest Q E (uo o.dst α r) S'):xV P w0 n ops (o::rest) Q E α S:=by
 intro i hi;obtain⟨h1,h2⟩:=drop_cons hi;have h3:=k (i+1) h2;rw[s7] at h3;exact h3.imp (fun ⟨au,T,h4,h5⟩=>⟨au,T,rT.step h1 hd (Aw hw) h h4,h5⟩) fun ⟨ch,au,T,h4,h5⟩=>⟨ch,au,T,KA.step h1 hd (Aw hw) h h4,h5⟩
theorem xV.skip {o:Oper}{rest ops:List Oper}{Q:AA->ae->Prop}(hd:oz n o.dst=true) (hw:iQ ops α o=some false) (k:xV P w0 n ops rest Q E (uo o.dst α (.v undef)) S):xV P w0 n ops (o::rest) Q E α S:=by
 intro i hi;obtain⟨h1,h2⟩:=drop_cons hi;have h3:=k (i+1) h2;rw[s7] at h3;obtain⟨j,want,b,hg,hy,bU⟩:=BV hw;have Gu:∀ (g:Gh) (w:World) (a:Act),bR g w n α a->¬ Region.wanted o (yielded ops.toArray a.tmps)=true:=fun g w a hA=>by simp[Region.wanted,hg,pW hA hy,bU]
 refine h3.imp (fun ⟨au,T,h4,h5⟩=>⟨au,T,fun F m A g a w Q hF hS hA hQ=>?_,h5⟩) fun ⟨ch,au,T,h4,h5⟩=>⟨ch,au,T,fun F m A g a w Q hF hS hA hQ=>?_,h5⟩
 ·show wpOpsIn F m P ops.toArray Q (i::List.range' (i+1) rest.length) a w;simp only[wpOpsIn,h1];rw[if_neg (Gu g w a hA)];exact⟨fun f _=>hF.1 f,h4 F m A g _ w Q hF hS (lE hA hd .v) hQ⟩
 ·show wpOpsIn F m P ops.toArray Q (i::List.range' (i+1) rest.length) a w;simp only[wpOpsIn,h1];rw[if_neg (Gu g w a hA)];exact⟨fun f _=>hF.1 f,h4 F m A g _ w Q hF hS (lE hA hd .v) hQ⟩
def ajw:ee->Bool
 |.call ..=>true
 |_=>false
theorem af.of {dr:Bool}{q:ee}(hq:ajw q=false) (h:∀ o,res P.toTables o=some q->a8 P w0 o α S (td r S')):af P w0 dr q α S r S':=by
 cases dr with
 |false=>exact fun n o hr=>ez.Fs (h o.op hr)
 |true =>
  intro n o hr;refine K1.ofD ?_;have h1:=h o.op hr;generalize o.op=op at hr h1;cases op with
  |call c =>
   simp only[fe];split
   ·rename_i f hc;simp only[res,hc,oI_] at hr;subst hr;cases hq
   ·grind
  |_=>exact h1
theorem eX.op {dr:Bool}(hw:bm α.tm i.g=some true) (h:af P w0 dr i.q α S r S') (k:eX P w0 n dr l R E (bC i.d α r) S'):eX P w0 n dr (i::l) R E α S:=by
 intro ops rest hc;obtain⟨o,mN,rfl,h1,h2,h3,h4,h5⟩:=ng (α:=α) hc;have h7:=k ops mN h1;rw[qH,<-h3] at h7;cases dr with
 |false=>exact xV.tW h2 (h5 _ hw) (h n o h4) h7
 |true=>exact l_.opG h2 (h5 _ hw) (h n o h4) h7
theorem eX.skip {dr:Bool}(hw:bm α.tm i.g=some false) (k:eX P w0 n dr l R E (bC i.d α (.v undef)) S):eX P w0 n dr (i::l) R E α S:=by
 intro ops rest hc;obtain⟨o,mN,rfl,h1,h2,h3,h4,h5⟩:=ng (α:=α) hc;have h7:=k ops mN h1;rw[qH,<-h3] at h7;cases dr with
 |false=>exact xV.skip h2 (h5 _ hw) h7
 |true=>exact l_.skip h2 (h5 _ hw) h7
def OpP (P:Program) (w0:World) (n:Nat) (o:Oper) (α:AA) (S:ae) (ch:List PanicEntry) (S':ae):Prop :=
 ∀ (F:Fence) (m:Nat) (A:Nat->Prop) (g:Gh) (a:Act) (w:World) (next:Act->World->Prop) (Q:Exit->Act->World->Prop),ir F->St w0 A g S w->bR g w n α a ->
  (∀ (w':World) (g':Gh),St w0 A g' S' w'->Ext A g w g' w'->Q (.panic ch) a w')->o.uponIn F m P a next Q ((o.semAt F.round a.eval).run P w)
def tz (P:Program) (w0:World) (q:ee) (α:AA) (S:ae) (ch:List PanicEntry) (S':ae):Prop:=∀ (n:Nat) (o:Oper),res P.toTables o.op=some q->OpP P w0 n o α S ch S'
theorem eX.y9 {ch:List PanicEntry}(hw:bm α.tm i.g=some true) (h:tz P w0 i.q α S ch S') (k:E ch α S'):eX P w0 n false (i::l) R E α S:=by
 intro ops rest hc;obtain⟨o,mN,rfl,h1,h2,h3,h4,h5⟩:=ng (α:=α) hc;intro j hj;obtain⟨k1,k2⟩:=drop_cons hj;refine .inr ⟨ch,α,S',fun F m A g a w Q hF hS hA hQ=>?_,k⟩;show wpOpsIn F m P ops.toArray Q (j::List.range' (j+1) mN.length) a w;simp only[wpOpsIn,k1];rw[if_pos (Aw (h5 _ hw) g w a hA)];exact⟨fun f _=>hF.1 f,h n o h4 F m A g a w _ Q hF hS hA fun w' g' q1 q2=>hQ a w' g' q1 (hA.later q2.toLater) q2⟩
theorem af.quiet {dr:Bool}{q:ee}(h:ja q α.tm S=some (r,S')):af P w0 dr q α S r S':=by
 refine af.of ?_ fun o hr=>rF hr h;cases q<;>first|rfl|(cases h)
theorem HK {c:Code}{dr:Bool}(h:comp P.toTables n c=some (.aN dr l)):∃ id ops,c=.region id ops dr/\mH P.toTables n ops.toList ops.toList=some l/\(dr=true->Bc P.toTables ops=true):=by
 cases c<;>simp only[comp] at h<;>(repeat' split at h)<;>(try cases h)
 ·grind
 ·grind
theorem UH {c:Code}{V:List (Nat × Nat)}(h:comp P.toTables n c=some (.dN V l)):∃ id ops,c=.region id ops true/\mH P.toTables n ops.toList ops.toList=some l/\Bc P.toTables ops=false/\V=xw ops:=by
 cases c<;>simp only[comp] at h<;>(repeat' split at h)<;>(try cases h)
 ·grind
theorem UI {c:Code}{a b:QC}(h:comp P.toTables n c=some (.seq a b)):∃ c1 c2,c=.seq c1 c2/\comp P.toTables n c1=some a/\comp P.toTables n c2=some b:=by
 cases c<;>simp only[comp] at h<;>(repeat' split at h)<;>(try cases h)
 ·grind
theorem RL {c:Code}{x:QO}{a b:QC}(h:comp P.toTables n c=some (.cond x a b)):∃ y c1 c2,c=.cond y c1 c2/\qo y=x/\comp P.toTables n c1=some a/\comp P.toTables n c2=some b:=by
 cases c<;>simp only[comp] at h<;>(repeat' split at h)<;>(try cases h)
 ·grind
theorem OL {c:Code}{id:Nat}{a:QC}(h:comp P.toTables n c=some (.block id a)):∃ c1,c=.block id c1/\comp P.toTables n c1=some a:=by
 cases c<;>simp only[comp] at h<;>(repeat' split at h)<;>(try cases h)
 ·grind
theorem OM {c:Code}{a:QC}(h:comp P.toTables n c=some (.scope a)):∃ c1,c=.scope c1/\comp P.toTables n c1=some a:=by
 cases c<;>simp only[comp] at h<;>(repeat' split at h)<;>(try cases h)
 ·grind
theorem OS {c:Code}{a:QC}(h:comp P.toTables n c=some (.loop a)):∃ c1,c=.loop c1/\comp P.toTables n c1=some a:=by
 cases c<;>simp only[comp] at h<;>(repeat' split at h)<;>(try cases h)
 ·grind
theorem O1 {c:Code}{x:QO}{ps:List Nat}{a b:QC}(h:comp P.toTables n c=some (.wM x ps a b)):∃ y pt c1 c2,c=.rangeFunc y pt c1 c2/\qo y=x/\pt.toList=ps/\comp P.toTables n c1=some a/\comp P.toTables n c2=some b:=by
 cases c<;>simp only[comp] at h<;>(repeat' split at h)<;>(try cases h)
 ·grind
theorem TN {c:Code}{d:Code}(h:comp P.toTables n c=some (.raw d)):c=d:=by
 cases c<;>simp only[comp] at h<;>(repeat' split at h)<;>(try cases h)<;>rfl
theorem sF {c:Code}:(comp P.toTables n c=some .skip->Pn c)/\(comp P.toTables n c=some .ret->c=.ret)/\∀ id,comp P.toTables n c=some (.exit id)->c=.exit id:=by
 refine⟨fun h=>?_,fun h=>?_,fun id h=>?_⟩
 all_goals
  cases c<;>simp only[comp] at h<;>(repeat' split at h)<;>(try cases h)<;>first|rfl|exact .inl rfl|exact .inr ⟨_,rfl⟩
theorem VP {x:Operand}:α.ev x=(qo x).ev α.tm:=(aI x).symm
theorem ib.seq {a b:QC}(h:ib P w0 rd n a (fun ex α S=>match ex with|.normal=>ib P w0 rd n b Q α S|e=>Q e α S) α S):ib P w0 rd n (.seq a b) Q α S:=by
 intro c hc hd;obtain⟨c1,c2,rfl,h1,h2⟩:=UI hc;simp only[cU,Bool.and_eq_true] at hd;refine Wp.seq ?_;obtain⟨ex,bF,bW,h3,h4⟩:=h c1 h1 hd.1;refine⟨ex,bF,bW,h3,?_⟩;cases ex with
 |normal=>exact h4 c2 h2 hd.2
 |_=>exact h4
theorem ib.cond {x:QO}{a b:QC}{t:Bool}(hx:x.ev α.tm=.v (.bool t)) (h:ib P w0 rd n (if t then a else b) Q α S):ib P w0 rd n (.cond x a b) Q α S:=by
 intro c hc hd;obtain⟨y,c1,c2,rfl,rfl,h1,h2⟩:=RL hc;simp only[cU,Bool.and_eq_true] at hd;refine Wp.cond (by rw[VP];exact hx) ?_;cases t with
 |true=>exact h c1 h1 hd.1
 |false=>exact h c2 h2 hd.2
theorem ib.block {id:Nat}{a:QC}(h:ib P w0 rd n a (fun ex α S=>match ex with|.exit j=>(match Nat.beq j id with|true=>Q .normal α S|false=>Q (.exit j) α S)|e=>Q e α S) α S):ib P w0 rd n (.block id a) Q α S:=by
 intro c hc hd;obtain⟨c1,rfl,h1⟩:=OL hc;exact Wp.block (h c1 h1 hd)
theorem ib.scope {a:QC}(h:ib P w0 rd n a (fun ex α S=>match ex with|.goto _=>False|e=>Q e α S) α S):ib P w0 rd n (.scope a) Q α S:=by
 intro c hc hd;obtain⟨c1,rfl,h1⟩:=OM hc;obtain⟨ex,bF,bW,h2,h3⟩:=h c1 h1 hd;cases ex with
 |goto l=>exact h3.elim
 |_=>exact⟨_,bF,bW,cC.scope h2 (fun l e=>by grind),h3⟩
theorem ib.aN {dr:Bool}(h:eX P w0 n dr l (fun α S=>Q .normal α S) (fun ch α S=>Q (.panic ch) α S) α S):ib P w0 rd n (.aN dr l) Q α S:=by
 intro c hc hd;obtain⟨id,ops,rfl,h1,jA⟩:=HK hc;have h2:=h _ _ h1;cases dr with
 |false =>
  rcases h2 0 rfl with ⟨au,S',h3,h4⟩|⟨ch,au,S',h3,h4⟩
  ·rw[Array.length_toList,<-List.range_eq_range'] at h3;exact⟨_,au,S',cC.region h3,h4⟩
  ·rw[Array.length_toList,<-List.range_eq_range'] at h3;exact⟨.panic ch,au,S',fun F m A g a w hF hR hS hA=>wpIn_region (h3 F m A g a w _ hF hS hA fun a' w' g' q1 q2 q3=>⟨rfl,g',q1,q2,q3⟩),h4⟩
 |true=>exact l_.wp (by simp only[cU,Bool.and_eq_true] at hd;simp only[Bool.and_eq_true];exact⟨hd.1,((Bool.and_eq_true _ _).mp ((Bool.and_eq_true _ _).mp (jA rfl)).1).1⟩) h2
theorem Ha {G:Nat->Option Ob}:∀ {ks:List Nat}{k:Nat},k ∉ ks->L8 G ks k=G k
 |[],_,_=>rfl
 |p::ks,k,h=>by
  simp only[List.mem_cons,not_or] at h;rw[L8,aD _ _ h.1,Ha h.2]
theorem t_:∀ {l:List QI}{x k:Nat},k ∈ iX l x->x<=k/\k < x+(iX l x).length
 |[],x,k,h=>by cases h
 |i::l,x,k,h=>by
  simp only[iX] at h ⊢;split at h
  ·rename_i e;simp only[e,List.length_cons];rcases List.mem_cons.1 h with rfl|h
   ·omega
   ·have:=t_ h;omega
  ·rename_i e;exact t_ h
theorem St.rsv {A:Nat->Prop}{g:Gh}{w:World}(hS:St w0 A g S w) (l:List QI):St w0 A g (xy S l) w:=by
 obtain⟨G,x⟩:=S;refine hS.forget (Nat.le_add_right _ _) fun k o hk ha=>?_;have aA:=hS.al k ha;have aA:k < x:=aA;have hk:L8 G (iX l x) k=some o:=hk
 rwa [Ha fun hm=>by have:=(t_ hm).1;omega] at hk
theorem ib.dN {V:List (Nat × Nat)}(h:(∀ k ∈ iX l S.nx,k < S.nx+(iX l S.nx).length)->S.nx+(iX l S.nx).length<=(xy S l).nx->nT P w0 n (S.nx+(iX l S.nx).length) V [] l (fun α S=>Q .normal α S) α (xy S l)):ib P w0 rd n (.dN V l) Q α S:=by
 intro c hc hd;obtain⟨id,ops,rfl,h1,h2,rfl⟩:=UH hc;simp only[cU,Bool.and_eq_true,Bool.or_eq_true,h2,Bool.false_eq_true,false_or] at hd;have hl:l.length=ops.size:=by
  have key:∀ (ops rest:List Oper) (l:List QI),mH P.toTables n ops rest=some l->l.length=rest.length:=by
   intro ops rest
   induction rest with
   |nil=>intro l h;obtain rfl:=oJ_ h;rfl
   |cons o rest ih =>
    intro l h;cases l with
    |nil =>
     exfalso;simp only[mH] at h;split at h
     ·grind
     ·grind
    |cons i l =>
     obtain⟨o',mN,e,h3,_⟩:=ng (α:=α) h;injection e with e1 e2;subst e1 e2;simp[ih _ h3]
  rw[key _ _ _ h1];simp
 obtain⟨D,au,S',h3,h4,h5⟩:=h (fun k hk=>(t_ hk).2) (by cases S;exact Nat.le_refl _) ops.toList h1;simp only[List.length_nil,hl,List.nil_append] at h3 h4;rw[<-List.range_eq_range'] at h3 h4;refine⟨.normal,au,S',fun F m A g a w hF hR hS hA=>?_,h5⟩;refine cC.afa hd.1 hd.2 (fun p hp=>?_) h3 F m A g a w hF hR (hS.rsv l) hA;have h6:=List.all_eq_true.1 h4 p hp;have fG:=(List.mem_filter.1 hp).1;have in1:∀ {m:List Nat}{k:Nat}{q:Nat × Nat},q ∈ vc ops m k->q.1 < k/\q.2 < k:=by
  intro m k q
  induction k with
  |zero=>intro h;cases h
  |succ k ih =>
   intro h;simp only[vc,List.mem_append,List.mem_map,List.mem_filter,List.mem_range] at h;rcases h with ⟨x,⟨hx,_⟩,rfl⟩|h
   ·grind
   ·grind
 obtain⟨k1,k2⟩:=in1 fG;have get:∀ i,i < ops.size->zZ ((List.range ops.size).map fun i=>(D i).ns) i=(D i).ns:=fun i hi=>by grind[zZ]
 rw[get _ k1,get _ k2] at h6;exact h6
theorem jl.congr {B:Nat}{ops:Array Oper}{D D':Nat->Dt}:∀ {L:List Nat}{α au:AA}{S S':ae},(∀ i ∈ L,D i=D' i)->jl P w0 n ops B D L α S au S'->jl P w0 n ops B D' L α S au S'
 |[],_,_,_,_,_,.nil ..=>.nil ..
 |i::rest,_,_,_,_,he,.cons h t=>.cons (by grind) (t.congr fun j hj=>he j (by grind))
theorem nh {ops:List Oper}{k:Nat}{o:Oper}{rest:List Oper}(h:ops.drop k=o::rest):ops.toArray[k]?=some o/\ops.drop (k+1)=rest:=drop_cons h
theorem nT.step {B:Nat}{V:List (Nat × Nat)}{lg:List (List Nat × List Nat × Bool)}{d:Dt}{α1:AA}{S1:ae}{R:AA->ae->Prop}
  (hg:∀ ops o rest,ops.drop lg.length=o::rest->oz n o.dst=true->o.dst=i.d->res P.toTables o.op=some i.q->(∀ b,bm α.tm i.g=some b->iQ ops α o=some b)->oq P w0 n ops.toArray B lg.length d α S α1 S1)
  (k:nT P w0 n B V (lg++[d.ns]) l R α1 S1):nT P w0 n B V lg (i::l) R α S:=by
 intro ops hr;obtain⟨o,rest,h1,h2,h3,h4,h5,h6⟩:=ng (α:=α) hr;obtain⟨h7,h8⟩:=nh h1;obtain⟨D,au,S',k1,k2,k3⟩:=k ops (by grind);simp only[List.length_append,List.length_singleton] at k1 k2;refine⟨fun i=>if i=lg.length then d else D i,au,S',?_,?_,k3⟩
 ·rw[List.length_cons,List.range'_succ];refine .cons (by grind) (k1.congr fun i hi=>?_);have:=(List.mem_range'_1.1 hi).1;rw[if_neg (by omega)]
 ·rw[List.length_cons,List.range'_succ,List.map_cons];simp only[if_pos];have e:((List.range' (lg.length+1) l.length).map fun i=>(if i=lg.length then d else D i).ns)=(List.range' (lg.length+1) l.length).map fun i=>(D i).ns:=List.map_congr_left fun i hi=>by grind
  rw[e];rw[List.append_assoc] at k2;exact k2
theorem DX {ops:List Oper}{o:Oper}{b:Bool}(h:iQ ops α o=some b):(b=true->o.guard=none\/∃ j want,o.guard=some (j,want)/\oX ops.toArray α j=some (some want))/\(b=false->∃ j want c,o.guard=some (j,want)/\oX ops.toArray α j=some c/\c ≠ some want):=by
 refine⟨fun e=>p_ (by grind),fun e=>?_⟩;subst e;unfold iQ at h;split at h
 ·grind
 ·rename_i j want hg;split at h
  ·rename_i hy;have:=oJ_ h;subst this;exact⟨j,false,some true,hg,by rw[<-y0];exact hy,by simp⟩
  ·rename_i hy;have:=oJ_ h;cases want with
   |true=>exact⟨j,true,some false,hg,by rw[<-y0];exact hy,by simp⟩
   |false=>simp at this
  ·rename_i hy;exact⟨j,want,none,hg,by rw[<-y0];exact hy,by simp⟩
  ·grind
theorem nT.op {B:Nat}{V:List (Nat × Nat)}{lg:List (List Nat × List Nat × Bool)}{d:Dt}{R:AA->ae->Prop}(hB:B<=S.nx) (hw:bm α.tm i.g=some true) (h:a6 P w0 B i.q α S r d) (k:nT P w0 n B V (lg++[d.ns]) l R (bC i.d α r) (dm S d.W d.m)):nT P w0 n B V lg (i::l) R α S:=by
 refine nT.step (fun ops o rest h1 h2 h3 h4 h5=>?_) k;obtain⟨k1,k2,k3⟩:=h n o h4;exact⟨o,(nh h1).1,h2,k1,hB,k2,rfl,.inr ⟨(DX (h5 _ hw)).1 rfl,r,by rw[qH,<-h3];cases o.dst<;>rfl,fun T hb ht hm=>k3 T hb ht hm⟩⟩
theorem nT.skip {B:Nat}{V:List (Nat × Nat)}{lg:List (List Nat × List Nat × Bool)}{R:AA->ae->Prop}(hB:B<=S.nx) (hw:bm α.tm i.g=some false) (k:nT P w0 n B V (lg++[([],[],false)]) l R (bC i.d α (.v undef)) S):nT P w0 n B V lg (i::l) R α S:=by
 refine nT.step (d:=.none_) (fun ops o rest h1 h2 h3 h4 h5=>?_) k;obtain⟨j,want,c,e1,e2,e3⟩:=(DX (h5 _ hw)).2 rfl;exact⟨o,(nh h1).1,h2,fun _=>rfl,hB,(show fC S [] from fun p hp=>by grind),cQ.symm,.inl ⟨j,want,c,e1,e2,e3,by rw[qH,<-h3];cases o.dst<;>rfl,rfl⟩⟩
theorem ib.done {a:QC}(hd:∀ c,comp P.toTables n c=some a->Wp P w0 rd n c Q α S):ib P w0 rd n a Q α S:=fun c hc _=>hd c hc
theorem O3 {cf s9:QF}(h:yP cf α S=some (s9,au,S')) (k:ad P w0 rd n Q s9 au S'):ad P w0 rd n Q cf α S:=by
 have e:∀ {x:QF}{y:AA}{z:ae},some (x,y,z)=some (s9,au,S')->ad P w0 rd n Q x y z:=fun h=>by grind
 cases cf with
 |run c K =>
  simp only[yP] at h;split at h
  ·exact ib.done fun c hc=>Wp.of (cC.skip (sF.1 hc)) (e h)
  ·exact ib.aN (e h)
  ·exact ib.aN (e h)
  ·rename_i V l;cases S with
   |mk G x =>
    simp only[oI_,pI_] at h;obtain⟨rfl,rfl,rfl⟩:=h;exact ib.dN fun h1 h2=>k h1 h2
  ·exact ib.seq (e h)
  ·split at h
   ·rename_i hc;exact ib.cond hc (e h)
   ·rename_i hc;exact ib.cond hc (e h)
   ·grind
  ·exact ib.block (e h)
  ·exact ib.scope (e h)
  ·exact ib.done fun c hc=>by rw[sF.2.2 _ hc];exact Wp.of (cC.exit_ _) (e h)
  ·exact ib.done fun c hc=>by rw[sF.2.1 hc];exact Wp.of cC.ret (e h)
  ·grind
 |out ex K =>
  cases K with
  |nil=>simp[yP] at h
  |cons it K =>
   cases it with
   |seq b=>cases ex<;>(simp only[yP] at h;have t:=e h;exact t)
   |qe id =>
    cases ex with
    |exit j =>
     simp only[yP] at h;show (match Nat.beq j id with|true=>dx P w0 rd n Q K .normal α S|false=>dx P w0 rd n Q K (.exit j) α S);split at h
     ·have t:=e h;exact t
     ·have t:=e h;exact t
    |_=>simp only[yP] at h;have t:=e h;exact t
   |yN =>
    cases ex with
    |goto l=>simp[yP] at h
    |_=>simp only[yP] at h;have t:=e h;exact t
 |aN dr l K =>
  simp only[yP] at h;split at h
  ·exact eX.nil (e h)
  ·rename_i i l;split at h
   ·rename_i hw;split at h
    ·rename_i r T hq;exact eX.op hw (af.quiet hq) (e h)
    ·grind
   ·rename_i hw;exact eX.skip hw (e h)
   ·grind
 |dN B V lg rs l K =>
  intro mL hB;simp only[yP] at h;split at h
  ·split at h
   ·rename_i hc;have h1:=e h;exact fun ops _=>⟨fun _=>.none_,α,S,.nil ..,by grind,h1⟩
   ·grind
  ·rename_i i l;split at h
   ·rename_i hw;split at h
    ·rename_i r d o8 hq;obtain⟨h1,h2⟩:=Cw (P:=P) (w0:=w0) (df:=α.df) mL hq;exact nT.op hB hw h1 (e h (fun k hk=>mL k (h2 k hk)) (by grind[dT]))
    ·grind
   ·rename_i hw;exact nT.skip hB hw (e h mL hB)
   ·grind
end
end Go.Proofs.YtbpabjmnhggajaaGreat
