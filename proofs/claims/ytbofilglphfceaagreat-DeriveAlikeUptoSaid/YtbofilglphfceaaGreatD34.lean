import Derived.Test.YtbofilglphfceaaGreatD33
namespace Go.Proofs.YtbofilglphfceaaGreat
set_option linter.unusedVariables false
set_option linter.unusedSimpArgs false
open Go.RowKit
def bj (T:Tables) (n:Nat):Code->Option QC
 |.skip=>some .skip
 |.label _=>some .skip
 |.region _ ops dr=>match gA T n ops.toList ops.toList with
  |some l=>match dr with
   |false=>some (.bB false l)
   |true=>match jL ops with
    |true=>some (.cB (nc ops) l)
    |false=>none
  |none=>none
 |.seq a b=>match bj T n a,bj T n b with
  |some a',some b'=>some (.seq a' b')
  |_,_=>none
 |.cond c a b=>match bj T n a,bj T n b with
  |some a',some b'=>some (.cond (qo c) a' b')
  |_,_=>none
 |.block id a=>match bj T n a with
  |some a'=>some (.block id a')
  |none=>none
 |.scope a=>match bj T n a with
  |some a'=>some (.scope a')
  |none=>none
 |.loop a=>match bj T n a with
  |some a'=>some (.loop a')
  |none=>none
 |.exit id=>some (.exit id)
 |.ret=>some .ret
 |.rangeFunc f ps a b=>match bj T n a,bj T n b with
  |some a',some b'=>some (.qy (qo f) ps.toList a' b')
  |_,_=>none
 |c=>some (.raw c)
def Py (i:Nat):List (Nat × Nat)->Bool
 |[]=>false
 |p::V=>match Nat.beq p.1 i with
  |true=>true
  |false=>match Nat.beq p.2 i with|true=>true|false=>Py i V
def tX (x y:List Nat × List Nat × Bool):Bool:=match tV x,tV y with
 |none,none=>dj x y
 |some l,none=>tU y l
 |none,some l=>tU x l
 |some _,some _=>false
def Eo (V:List (Nat × Nat)) (lg:List (List Nat × List Nat × Bool)):Bool:=V.all fun p=>tX (ox lg p.1) (ox lg p.2)
def Dt.ok (d:Dt):Prop:=tV d.ns=none
theorem JP {d e:Dt × Option Nat}(h1:d.2=none->d.1.ok) (h2:e.2=none->e.1.ok) (h:tX (qf d) (qf e)=true):sP d e:=by
 obtain⟨d,x⟩:=d
 obtain⟨e,y⟩:=e
 cases x with
 |none =>
  have q1:tV d.ns=none:=h1 rfl
  cases y with
  |none =>
   have q2:tV e.ns=none:=h2 rfl
   simp only [tX,qf,q1,q2] at h
   exact h
  |some l =>
   have h:tX d.ns ([l],[],true)=true:=h
   unfold tX at h
   rw [q1] at h
   exact h
 |some l =>
  cases y with
  |none =>
   have q2:tV e.ns=none:=h2 rfl
   have h:tX ([l],[],true) e.ns=true:=h
   unfold tX at h
   rw [q2] at h
   exact h
  |some l'=>simp only [tX,qf,tV] at h;cases h
section
variable (P:Program) (w0:World) (rd:Bool) (n:Nat)
def eQ (b:QC) (Q:Exit->AA->U->Prop) (α:AA) (S:U):Prop:=∀ c,bj P.toTables n c=some b->bS P c=true->Wp P w0 rd n c Q α S
def eJ (Q:Exit->AA->U->Prop):List ji->Exit->AA->U->Prop
 |[]=>Q
 |.seq b::K=>fun ex α S=>match ex with|.normal=>eQ P w0 rd n b (eJ Q K) α S|e=>eJ Q K e α S
 |.nT id::K=>fun ex α S=>match ex with|.exit j=>(match Nat.beq j id with|true=>eJ Q K .normal α S|false=>eJ Q K (.exit j) α S)|e=>eJ Q K e α S
 |.rq::K=>fun ex α S=>match ex with|.goto _=>False|e=>eJ Q K e α S
def o5 (B:Nat) (V:List (Nat × Nat)) (lg:List (List Nat × List Nat × Bool)) (l:List QI) (Q:AA->U->Prop) (α:AA) (S:U):Prop :=
 ∀ ops:List Oper,gA P.toTables n ops (ops.drop lg.length)=some l->nc ops.toArray=V->∃ (D:Nat->Dt × Option Nat) (af:AA) (S':U),er P w0 n ops.toArray B D (List.range' lg.length l.length) α S af S' /\
  Eo V (lg++(List.range' lg.length l.length).map fun i=>qf (D i))=true/\(∀ i ∈ List.range' lg.length l.length,(D i).2=none->(D i).1.ok)/\Q af S'
def a8 (Q:Exit->AA->U->Prop):QF->AA->U->Prop
 |.run c K,α,S=>eQ P w0 rd n c (eJ P w0 rd n Q K) α S
 |.out ex K,α,S=>eJ P w0 rd n Q K ex α S
 |.bB dr l K,α,S=>match dr with
  |false=>dH P w0 n false l (fun α S=>eJ P w0 rd n Q K .normal α S) (fun ch α S=>eJ P w0 rd n Q K (.panic ch) α S) α S
  |true=>False
 |.cB B V lg rs l K,α,S=>(∀ k ∈ rs,k < B)->B<=S.nx->o5 P w0 n B V lg l (fun α S=>eJ P w0 rd n Q K .normal α S) α S
end
section
variable {P:Program}{w0:World}{rd:Bool}{n:Nat}{α af:AA}{S S':U}{Q Q':Exit->AA->U->Prop}{ex:Exit}{r:AV}{i:QI}{l:List QI}{R:AA->U->Prop}
theorem tY {c:Code}{dr:Bool}(h:bj P.toTables n c=some (.bB dr l)):∃ id ops,c=.region id ops false/\dr=false/\gA P.toTables n ops.toList ops.toList=some l:=by
 cases c<;>simp only [bj] at h<;>(repeat' split at h)<;>(try cases h)
 ·exact⟨_,_,rfl,rfl,by assumption⟩
theorem CW {c:Code}{V:List (Nat × Nat)}(h:bj P.toTables n c=some (.cB V l)):∃ id ops,c=.region id ops true/\gA P.toTables n ops.toList ops.toList=some l/\jL ops=true/\V=nc ops:=by
 cases c<;>simp only [bj] at h<;>(repeat' split at h)<;>(try cases h)
 ·exact⟨_,_,rfl,by assumption,by assumption,rfl⟩
theorem tZ {c:Code}{a b:QC}(h:bj P.toTables n c=some (.seq a b)):∃ c1 c2,c=.seq c1 c2/\bj P.toTables n c1=some a/\bj P.toTables n c2=some b:=by
 cases c<;>simp only [bj] at h<;>(repeat' split at h)<;>(try cases h)
 ·exact⟨_,_,rfl,by assumption,by assumption⟩
theorem y5 {c:Code}{x:QO}{a b:QC}(h:bj P.toTables n c=some (.cond x a b)):∃ y c1 c2,c=.cond y c1 c2/\qo y=x/\bj P.toTables n c1=some a/\bj P.toTables n c2=some b:=by
 cases c<;>simp only [bj] at h<;>(repeat' split at h)<;>(try cases h)
 ·exact⟨_,_,_,rfl,rfl,by assumption,by assumption⟩
theorem wE {c:Code}{id:Nat}{a:QC}(h:bj P.toTables n c=some (.block id a)):∃ c1,c=.block id c1/\bj P.toTables n c1=some a:=by
 cases c<;>simp only [bj] at h<;>(repeat' split at h)<;>(try cases h)
 ·exact⟨_,rfl,by assumption⟩
theorem wF {c:Code}{a:QC}(h:bj P.toTables n c=some (.scope a)):∃ c1,c=.scope c1/\bj P.toTables n c1=some a:=by
 cases c<;>simp only [bj] at h<;>(repeat' split at h)<;>(try cases h)
 ·exact⟨_,rfl,by assumption⟩
theorem y6 {c:Code}{a:QC}(h:bj P.toTables n c=some (.loop a)):∃ c1,c=.loop c1/\bj P.toTables n c1=some a:=by
 cases c<;>simp only [bj] at h<;>(repeat' split at h)<;>(try cases h)
 ·exact⟨_,rfl,by assumption⟩
theorem y7 {c:Code}{x:QO}{ps:List Nat}{a b:QC}(h:bj P.toTables n c=some (.qy x ps a b)):∃ y pt c1 c2,c=.rangeFunc y pt c1 c2/\qo y=x/\pt.toList=ps/\bj P.toTables n c1=some a/\bj P.toTables n c2=some b:=by
 cases c<;>simp only [bj] at h<;>(repeat' split at h)<;>(try cases h)
 ·exact⟨_,_,_,_,rfl,rfl,rfl,by assumption,by assumption⟩
theorem j2 {c:Code}:(bj P.toTables n c=some .skip->Cl c)/\(bj P.toTables n c=some .ret->c=.ret)/\∀ id,bj P.toTables n c=some (.exit id)->c=.exit id:=by
 refine⟨fun h=>?_,fun h=>?_,fun id h=>?_⟩
 all_goals
  cases c<;>simp only [bj] at h<;>(repeat' split at h)<;>(try cases h)<;>first|rfl|exact .inl rfl|exact .inr ⟨_,rfl⟩
theorem eQ.seq {a b:QC}(h:eQ P w0 rd n a (fun ex α S=>match ex with|.normal=>eQ P w0 rd n b Q α S|e=>Q e α S) α S):eQ P w0 rd n (.seq a b) Q α S:=by
 intro c hc hd
 obtain⟨c1,c2,rfl,h1,h2⟩:=tZ hc
 simp only [bS,Bool.and_eq_true] at hd
 refine Wp.seq ?_
 obtain⟨ex,bD,bQ,h3,h4⟩:=h c1 h1 hd.1
 refine⟨ex,bD,bQ,h3,?_⟩
 cases ex with
 |normal=>exact h4 c2 h2 hd.2
 |_=>exact h4
theorem eQ.cond {x:QO}{a b:QC}{t:Bool}(hx:x.ev α.tm=.v (.bool t)) (h:eQ P w0 rd n (if t then a else b) Q α S):eQ P w0 rd n (.cond x a b) Q α S:=by
 intro c hc hd
 obtain⟨y,c1,c2,rfl,rfl,h1,h2⟩:=y5 hc
 simp only [bS,Bool.and_eq_true] at hd
 refine Wp.cond (by rw [FH];exact hx) ?_
 cases t with
 |true=>exact h c1 h1 hd.1
 |false=>exact h c2 h2 hd.2
theorem eQ.scope {a:QC}(h:eQ P w0 rd n a (fun ex α S=>match ex with|.goto _=>False|e=>Q e α S) α S):eQ P w0 rd n (.scope a) Q α S:=by
 intro c hc hd
 obtain⟨c1,rfl,h1⟩:=wF hc
 obtain⟨ex,bD,bQ,h2,h3⟩:=h c1 h1 hd
 cases ex with
 |goto l=>exact h3.elim
 |_=>exact⟨_,bD,bQ,bA.scope h2 (fun l e=>by cases e),h3⟩
theorem eQ.block {id:Nat}{a:QC}(h:eQ P w0 rd n a (fun ex α S=>match ex with|.exit j=>(match Nat.beq j id with|true=>Q .normal α S|false=>Q (.exit j) α S)|e=>Q e α S) α S):eQ P w0 rd n (.block id a) Q α S:=by
 intro c hc hd
 obtain⟨c1,rfl,h1⟩:=wE hc
 exact Wp.block (h c1 h1 hd)
theorem eQ.bB (h:dH P w0 n false l (fun α S=>Q .normal α S) (fun ch α S=>Q (.panic ch) α S) α S):eQ P w0 rd n (.bB false l) Q α S:=by
 intro c hc hd
 obtain⟨id,ops,rfl,_,h1⟩:=tY hc
 rcases h _ _ h1 0 rfl with ⟨af,S',h3,h4⟩|⟨ch,af,S',h3,h4⟩
 ·rw [Array.length_toList,<-List.range_eq_range'] at h3
  exact⟨_,af,S',bA.region h3,h4⟩
 ·rw [Array.length_toList,<-List.range_eq_range'] at h3
  exact⟨.panic ch,af,S',fun F m A g a w hF hR hS hA=>wpIn_region (h3 F m A g a w _ hF hS hA fun a' w' g' q1 q2 q3=>⟨rfl,g',q1,q2,q3⟩),h4⟩
theorem vz {ops:List Oper}:∀ {rest:List Oper}{l:List QI},gA P.toTables n ops rest=some l->l.length=rest.length
 |[],l,h=>by obtain rfl:=Option.some.inj h;rfl
 |o::rest,l,h=>by
  cases l with
  |nil =>
   exfalso
   simp only [gA] at h
   split at h
   ·split at h
    ·cases h
    ·split at h<;>cases h
   ·cases h
  |cons i l =>
   obtain⟨o',g_,e,h3,_⟩:=iV (α:=⟨fun _=>.u,[]⟩) h
   injection e with e1 e2
   subst e1 e2
   simp [vz h3]
theorem vA {ops:Array Oper}{m:List Nat}:∀ {k:Nat}{q:Nat × Nat},q ∈ lZ ops m k->q.1 < k/\q.2 < k
 |0,q,h=>by cases h
 |k+1,q,h=>by
  simp only [lZ,List.mem_append,List.mem_map,List.mem_filter,List.mem_range] at h
  rcases h with ⟨x,⟨hx,_⟩,rfl⟩|h
  ·exact⟨by simp only;omega,by simp only;omega⟩
  ·have:=vA h;omega
theorem eQ.cB {V:List (Nat × Nat)}(h:(∀ k ∈ dV l S.nx,k < S.nx+(dV l S.nx).length)->S.nx+(dV l S.nx).length<=(ng S l).nx->o5 P w0 n (S.nx+(dV l S.nx).length) V [] l (fun α S=>Q .normal α S) α (ng S l)):eQ P w0 rd n (.cB V l) Q α S:=by
 intro c hc hd
 obtain⟨id,ops,rfl,h1,h2,rfl⟩:=CW hc
 simp only [bS,Bool.and_eq_true] at hd
 have hl:l.length=ops.size:=by rw [vz h1];simp
 obtain⟨D,af,S',h3,h4,h6,h5⟩:=h (fun k hk=>(lv hk).2) (by cases S;exact Nat.le_refl _) ops.toList h1 rfl
 simp only [List.length_nil,hl,List.nil_append] at h3 h4 h6
 rw [<-List.range_eq_range'] at h3 h4 h6
 refine⟨.normal,af,S',fun F m A g a w hF hR hS hA=>?_,h5⟩
 refine bA.LU hd.1 h2 (fun p hp=>?_) h3 F m A g a w hF hR (hS.O6 l) hA
 obtain⟨k1,k2⟩:=vA (List.mem_filter.1 hp).1
 have get:∀ i,i < ops.size->ox ((List.range ops.size).map fun i=>qf (D i)) i=qf (D i):=fun i hi=>by
  unfold ox
  rw [List.getD_eq_getElem?_getD,List.getElem?_map,List.getElem?_range hi]
  rfl
 have h7:=List.all_eq_true.1 h4 p hp
 rw [get _ k1,get _ k2] at h7
 exact JP (h6 _ (List.mem_range.2 k1)) (h6 _ (List.mem_range.2 k2)) h7
theorem eQ.done {a:QC}(hd:∀ c,bj P.toTables n c=some a->Wp P w0 rd n c Q α S):eQ P w0 rd n a Q α S:=fun c hc _=>hd c hc
variable {K:List ji}
theorem a8.skip (h:a8 P w0 rd n Q (.out .normal K) α S):a8 P w0 rd n Q (.run .skip K) α S:=eQ.done fun c hc=>Wp.of (bA.skip (j2.1 hc)) h
theorem a8.exit_ {id:Nat}(h:a8 P w0 rd n Q (.out (.exit id) K) α S):a8 P w0 rd n Q (.run (.exit id) K) α S:=eQ.done fun c hc=>by rw [j2.2.2 _ hc];exact Wp.of (bA.exit_ _) h
theorem a8.QK (h:a8 P w0 rd n Q (.out .ret K) α S):a8 P w0 rd n Q (.run .ret K) α S:=eQ.done fun c hc=>by rw [j2.2.1 hc];exact Wp.of bA.ret h
theorem a8.seq {a b:QC}(h:a8 P w0 rd n Q (.run a (.seq b::K)) α S):a8 P w0 rd n Q (.run (.seq a b) K) α S:=eQ.seq h
theorem a8.cond {x:QO}{a b:QC}{t:Bool}(hx:x.ev α.tm=.v (.bool t)) (h:a8 P w0 rd n Q (.run (if t then a else b) K) α S):a8 P w0 rd n Q (.run (.cond x a b) K) α S:=eQ.cond hx h
theorem a8.scope {a:QC}(h:a8 P w0 rd n Q (.run a (.rq::K)) α S):a8 P w0 rd n Q (.run (.scope a) K) α S:=eQ.scope h
theorem a8.block {id:Nat}{a:QC}(h:a8 P w0 rd n Q (.run a (.nT id::K)) α S):a8 P w0 rd n Q (.run (.block id a) K) α S:=eQ.block h
theorem a8.bB (h:a8 P w0 rd n Q (.bB false l K) α S):a8 P w0 rd n Q (.run (.bB false l) K) α S:=eQ.bB h
theorem a8.cB {V:List (Nat × Nat)}(h:a8 P w0 rd n Q (.cB (S.nx+(dV l S.nx).length) V [] (dV l S.nx) l K) α (ng S l)):a8 P w0 rd n Q (.run (.cB V l) K) α S:=eQ.cB fun h1 h2=>h h1 h2
theorem a8.fin (h:a8 P w0 rd n Q (.out .normal K) α S):a8 P w0 rd n Q (.bB false [] K) α S:=by
 show dH P w0 n false [] _ _ α S
 exact dH.nil h
theorem a8.op (hw:ca α.tm i.g=some true) (h:aa P w0 false i.q α S r S') (k:a8 P w0 rd n Q (.bB false l K) (cH i.d α r) S'):a8 P w0 rd n Q (.bB false (i::l) K) α S:=by
 show dH P w0 n false (i::l) _ _ α S
 exact dH.op hw h k
theorem a8.no (hw:ca α.tm i.g=some false) (k:a8 P w0 rd n Q (.bB false l K) (cH i.d α (.v undef)) S):a8 P w0 rd n Q (.bB false (i::l) K) α S:=by
 show dH P w0 n false (i::l) _ _ α S
 exact dH.skip hw k
theorem a8.cv {c:QC}(h:Cv w0 n α S af S') (k:a8 P w0 rd n Q (.run c K) af S'):a8 P w0 rd n Q (.run c K) α S:=by
 intro c0 hc hd
 obtain⟨ex,bD,bQ,h1,h2⟩:=k c0 hc hd
 exact⟨ex,bD,bQ,h1.cv h,h2⟩
theorem er.congr {ops:Array Oper}{B:Nat}{D D':Nat->Dt × Option Nat}:∀ {L:List Nat}{α af:AA}{S S':U},(∀ i ∈ L,D i=D' i)->er P w0 n ops B D L α S af S'->er P w0 n ops B D' L α S af S'
 |[],_,_,_,_,_,.nil ..=>.nil ..
 |i::rest,_,_,_,_,he,.cons h t=>.cons (by rw [<-he i (by simp)];exact h) (t.congr fun j hj=>he j (by simp [hj]))
theorem o5.step {B:Nat}{V:List (Nat × Nat)}{lg:List (List Nat × List Nat × Bool)}{d:Dt × Option Nat}{α1:AA}{S1:U}(hx:d.2=none->d.1.ok)
  (hg:∀ ops o rest,ops.drop lg.length=o::rest->kR n o.dst=true->o.dst=i.d->res P.toTables o.op=some i.q->(∀ b,ca α.tm i.g=some b->eW ops α o=some b)->vy P w0 n ops.toArray B lg.length d α S α1 S1)
  (k:o5 P w0 n B V (lg++[qf d]) l R α1 S1):o5 P w0 n B V lg (i::l) R α S:=by
 intro ops hr hV
 obtain⟨o,rest,h1,h2,h3,h4,h5,h6⟩:=iV (α:=α) hr
 obtain⟨h7,h8⟩:=gN h1
 obtain⟨D,af,S',k1,k2,k4,k3⟩:=k ops (by rw [List.length_append,List.length_singleton,h8];exact h2) hV
 simp only [List.length_append,List.length_singleton] at k1 k2 k4
 refine⟨fun i=>if i=lg.length then d else D i,af,S',?_,?_,?_,k3⟩
 ·rw [List.length_cons,List.range'_succ]
  refine .cons (by rw [if_pos rfl];exact hg ops o rest h1 h3 h4 h5 h6) (k1.congr fun i hi=>?_)
  have:=(List.mem_range'_1.1 hi).1
  rw [if_neg (by omega)]
 ·rw [List.length_cons,List.range'_succ,List.map_cons]
  simp only [if_pos]
  have e:((List.range' (lg.length+1) l.length).map fun i=>qf (if i=lg.length then d else D i))=(List.range' (lg.length+1) l.length).map fun i=>qf (D i):=List.map_congr_left fun i hi=>by
   have:=(List.mem_range'_1.1 hi).1
   rw [if_neg (by omega)]
  rw [e]
  rw [List.append_assoc] at k2
  exact k2
 ·intro j hj hb
  rw [List.length_cons,List.range'_succ] at hj
  rcases List.mem_cons.1 hj with rfl|hj
  ·show ((if lg.length=lg.length then d else D lg.length):Dt × Option Nat).1.ok
   have hb:((if lg.length=lg.length then d else D lg.length):Dt × Option Nat).2=none:=hb
   rw [if_pos rfl] at hb ⊢
   exact hx hb
  ·have:=(List.mem_range'_1.1 hj).1
   show ((if j=lg.length then d else D j):Dt × Option Nat).1.ok
   have hb:((if j=lg.length then d else D j):Dt × Option Nat).2=none:=hb
   rw [if_neg (by omega)] at hb ⊢
   exact k4 j hj hb
theorem a8.xf {B:Nat}{V:List (Nat × Nat)}{lg:List (List Nat × List Nat × Bool)}{rs:List Nat}{d:Dt}(hw:ca α.tm i.g=some true) (kH:d.ok) (h:bC P w0 B i.q α S r d) (k:a8 P w0 rd n Q (.cB B V (lg++[d.ns]) rs l K) (cH i.d α r) (cD S d.W d.m)):a8 P w0 rd n Q (.cB B V lg rs (i::l) K) α S:=by
 intro fZ hB
 refine o5.step (d:=(d,none)) (fun _=>kH) (fun ops o rest h1 h2 h3 h4 h5=>?_) (k fZ (by rw [cJ];exact Nat.le_trans hB (Nat.le_add_right _ _)))
 obtain⟨k1,k2,k3⟩:=h n o h4
 exact⟨o,(gN h1).1,h2,k1,hB,k2,rfl,.inr ⟨(ru (h5 _ hw)).1 rfl,r,by rw [jM,<-h3];cases o.dst<;>rfl,fun T hb ht hm=>k3 T hb ht hm⟩⟩
theorem a8.SU {B:Nat}{V:List (Nat × Nat)}{lg:List (List Nat × List Nat × Bool)}{rs:List Nat}(hw:ca α.tm i.g=some false) (k:a8 P w0 rd n Q (.cB B V (lg++[([],[],false)]) rs l K) (cH i.d α (.v undef)) S):a8 P w0 rd n Q (.cB B V lg rs (i::l) K) α S:=by
 intro fZ hB
 refine o5.step (d:=(.none_,none)) (fun _=>rfl) (fun ops o rest h1 h2 h3 h4 h5=>?_) (k fZ hB)
 obtain⟨j,want,c,e1,e2,e3⟩:=(ru (h5 _ hw)).2 rfl
 exact⟨o,(gN h1).1,h2,fun _=>rfl,hB,(show gJ S [] from fun p hp=>by cases hp),bH.symm,.inl ⟨j,want,c,e1,e2,e3,by rw [jM,<-h3];cases o.dst<;>rfl,rfl⟩⟩
def vB:cj->Bool
 |.mv _|.pick ..|.build ..|.rows ..|.bin ..|.eqs ..|.not _|.neg _|.conv ..|.kS _|.DA _|.pn ..|.field ..|.kT ..|.j_ ..|.oq ..|.na ..|.slice ..|.extract ..|.uH ..|.pq _|.len ..|.min ..|.max ..=>true
 |_=>false
theorem HR {o:Op}{q:cj}(h:res P.toTables o=some q) (hq:vB q=false):fk o=false:=by
 cases o<;>simp only [res] at h<;>(repeat' split at h)<;>(try cases h)<;>first|rfl|(cases hq;done)|(simp only [fk, *])
def iy:cj->List QO
 |.mv x|.box x|.not x|.neg x|.conv _ x|.kS x|.pn _ x|.field _ _ x|.ot x|.po x|.pq x|.DA x|.O1 x|.Il _ x|.mE _ x|.Ch x|.cap x|.extract x _|.len _ x|.load _ x=>[x]
 |.store _ a b|.bin _ _ a b|.kT _ a b|.j_ _ _ a b|.oq a b|.na _ _ _ a b|.append _ _ a b|.min a b|.max a b|.look _ _ a b|.eqs _ a b|.del a b|.copy _ a b|.fg _ _ _ a b|.Io a b|.eB _ _ a b|.sr _ _ a b=>[a,b]
 |.pick a b c|.mu a b c|.jf _ a b c|.Ip a b c=>[a,b,c]
 |.slice _ x a b c=>[x]++a.toList++b.toList++c.toList
 |.call f aZ9=>f::aZ9
 |.jZ x=>x.toList
 |_=>[]
def r6:List QO->List Nat
 |[]=>[]
 |.t n::l=>n::r6 l
 |.c _::l=>r6 l
theorem sT {t:Nat}:∀ {l:List QO},t ∈ r6 l->QO.t t ∈ l
 |[],h=>by cases h
 |.t n::l,h=>by
  rcases List.mem_cons.1 h with rfl|h
  ·exact List.mem_cons_self
  ·exact List.mem_cons_of_mem _ (sT h)
 |.c a::l,h=>List.mem_cons_of_mem _ (sT (l:=l) h)
theorem Ep {o:Op}{q:cj}(hq:vB q=false) (h:res P.toTables o=some q):∀ x ∈ iy q,∃ y ∈ o.operands,x=qo y:=by
 have arr:∀ {c:Call}{x:Operand},x ∈ c.args.toList->x ∈ c.operands:=fun {c x} hx=>by
  have:=Array.mem_toList_iff.1 hx
  unfold Call.operands
  split<;>simp [this]
 have opt:∀ {z:Option Operand}{x:QO},x ∈ (z.map qo).toList->∃ y,z=some y/\x=qo y:=by
  intro z x hx
  cases z with
  |none=>simp at hx
  |some y=>simp at hx;exact⟨y,rfl,hx⟩
 cases o with
 |call c =>
  simp only [res] at h
  intro x hx
  split at h
  ·rename_i f hf
   obtain rfl:=Option.some.inj h
   simp only [iy,List.mem_cons,List.mem_map] at hx
   rcases hx with rfl|⟨y,hy,rfl⟩
   ·exact⟨f,by show f ∈ c.operands;simp [Call.operands,hf],rfl⟩
   ·exact⟨y,arr hy,rfl⟩
  ·have key:∀ {u v:Operand},c.args.toList=[u,v]->∀ y,y=u\/y=v->y ∈ c.operands:=fun e y hy=>arr (by rw [e];simpa using hy)
   have QL:∀ {u:Operand},c.args.toList=[u]->u ∈ c.operands:=fun e=>arr (by rw [e];simp)
   repeat' split at h
   all_goals first
    |(cases h;done)
    |(obtain rfl:=Option.some.inj h
      simp only [iy,List.mem_cons,List.not_mem_nil,or_false] at hx
      first
       |(rcases hx with rfl|rfl
         exact⟨_,key (by assumption) _ (.inl rfl),rfl⟩
         exact⟨_,key (by assumption) _ (.inr rfl),rfl⟩)
       |(subst hx;exact⟨_,QL (by assumption),rfl⟩)
       |fail "call")
    |fail "callall"
  ·cases h
 |makeMap t r =>
  simp only [res] at h
  split at h
  ·obtain rfl:=Option.some.inj h
   intro x hx
   obtain⟨y,rfl,rfl⟩:=opt hx
   exact⟨y,by simp [Op.operands],rfl⟩
  ·cases h
 |_ =>
  simp only [res] at h
  repeat' split at h
  all_goals first
   |(cases h;done)
   |(obtain rfl:=Option.some.inj h
     first
      |(cases hq;done)
      |(intro x hx;cases hx;done)
      |(intro x hx
        simp only [iy,List.mem_cons,List.not_mem_nil,or_false] at hx
        first
         |(cases hx;done)
         |(subst hx;exact⟨_,by simp [Op.operands],rfl⟩)
         |(rcases hx with rfl|rfl<;>exact⟨_,by simp [Op.operands],rfl⟩)
         |(rcases hx with rfl|rfl|rfl<;>exact⟨_,by simp [Op.operands],rfl⟩)
         |fail "ops")
      |fail "cs")
   |fail "all"
def pH (L:List Nat) (f:Nat->AV):Nat->AV:=fun t=>match fF t L with|true=>f t|false=>.u
theorem qO {k:Nat}:∀ {l:List Nat},fF k l=true->k ∈ l
 |[],h=>by cases h
 |j::l,h=>by
  simp only [fF] at h
  split at h
  ·rename_i hb
   rw [Nat.eq_of_beq_eq_true hb]
   exact List.mem_cons_self
  ·exact List.mem_cons_of_mem _ (qO h)
theorem cP.QM {o:Oper}{β:AA}(hw:∀ t,β.tm t=α.tm t\/β.tm t=.u) (hd:β.df=α.df) (h:cP P w0 n o β S r S'):cP P w0 n o α S r S':=by
 intro F m A g a w next R hF hS hA me
 refine h F m A g a w next R hF hS ⟨hA.size,fun t ht=>?_,fun t ht=>?_,by rw [hd];exact hA.df,fun k hk=>hA.nU k (by rw [<-hd];exact hk)⟩ me
 ·rcases hw t with e|e
  ·rw [e];exact hA.tm t ht
  ·rw [e];exact .u
 ·rcases hw t with e|e
  ·rw [e];exact hA.out t ht
  ·exact e
theorem a8.SV {B:Nat}{V:List (Nat × Nat)}{lg:List (List Nat × List Nat × Bool)}{rs:List Nat}(hw:ca α.tm i.g=some true) (hp:vB i.q=false) (hn:S.nx<=S'.nx) {lw:Nat}(hold:∀ k,k < lw->S'.get k=S.get k) (h:aa P w0 false i.q ⟨pH (r6 (iy i.q)) α.tm,α.df⟩ S r S')
  (k:a8 P w0 rd n Q (.cB B V (lg++[([lw],[],true)]) rs l K) (cH i.d α r) S'):a8 P w0 rd n Q (.cB B V lg rs (i::l) K) α S:=by
 intro fZ hB
 refine o5.step (d:=(.none_,some lw)) (fun e=>by cases e) (fun ops o rest h1 h2 h3 h4 h5=>?_) (k fZ (Nat.le_trans hB hn))
 have hi:=(gN h1).1
 refine⟨o,hi,h2,by simp only [kA,hi];exact HR h4 hp,hB,hn,hold,(ru (h5 _ hw)).1 rfl,r,by rw [jM,<-h3];cases o.dst<;>rfl,?_⟩
 refine cP.QM (β:=⟨pH (r6 (iy i.q)) α.tm,α.df⟩) (fun t=>?_) rfl (h n o h4)
 show pH (r6 (iy i.q)) α.tm t=(α.only (cb o)).tm t\/pH (r6 (iy i.q)) α.tm t=.u
 unfold pH
 cases hm:fF t (r6 (iy i.q)) with
 |false=>exact .inr rfl
 |true =>
  left
  obtain⟨y,hy,e⟩:=Ep hp h4 _ (sT (qO hm))
  have:t ∈ cb o:=by
   cases y with
   |tmp t' =>
    injection e with e
    subst e
    exact eU hy
   |_=>cases e
  show α.tm t=if (cb o).contains t then α.tm t else .u
  rw [if_pos (by simpa using this)]
theorem a8.QN {B:Nat}{V:List (Nat × Nat)}{lg:List (List Nat × List Nat × Bool)}{rs:List Nat}(hc:Eo V lg=true) (h:a8 P w0 rd n Q (.out .normal K) α S):a8 P w0 rd n Q (.cB B V lg rs [] K) α S:=by
 intro fZ hB
 exact fun ops _ _=>⟨fun _=>(.none_,none),α,S,.nil ..,by simpa using hc,fun i hi=>(by cases hi),h⟩
structure ad (P:Program) (f:FuncId) (q:QC × List QR) (n:Nat):Prop where
 out:∃ fn c,P.funcs[f]?=some fn/\fn.body=some c/\fn.ntmps=n/\mw P.toTables fn.results.toList=some q.2/\bj P.toTables n c=some q.1/\bS P c=true/\∀ (xs:Array Value) (w:World),(callFunc f xs).run P w=.ok (.enter f xs) w
def ae (T:Tables) (fn:Func):Option (QC × List QR):=match fn.body with
 |some c=>match bj T fn.ntmps c,mw T fn.results.toList with
  |some q,some qs=>some (q,qs)
  |_,_=>none
 |none=>none
theorem ad.of {f:FuncId}{q:QC × List QR}{fn:Func}{T:Tables}(hf:P.funcs[f]?=some fn) (hq:ae T fn=some q) (hT:P.toTables=T) (hn:fn.ntmps=n) (hd:rz P fn=true)
  (hc:∀ (xs:Array Value) (w:World),(callFunc f xs).run P w=.ok (.enter f xs) w):ad P f q n:=by
 subst hT
 unfold ae at hq
 unfold rz at hd
 cases hb:fn.body with
 |none=>rw [hb] at hq;cases hq
 |some c =>
  rw [hb] at hq hd
  simp only at hq
  split at hq
  ·rename_i q1 qs h1 h2
   obtain rfl:=Option.some.inj hq
   exact⟨⟨fn,c,hf,hb,hn,h2,by rw [<-hn];exact h1,hd,hc⟩⟩
  ·cases hq
theorem a8.mono {Q':Exit->AA->U->Prop}(hm:∀ ex α S,Q ex α S->Q' ex α S) {c:QC}(h:a8 P w0 rd n Q (.run c []) α S):a8 P w0 rd n Q' (.run c []) α S:=by
 intro c0 hc hd
 obtain⟨ex,af,S',h1,h2⟩:=h c0 hc hd
 exact⟨ex,af,S',h1,hm _ _ _ h2⟩
theorem ad.bc {f:FuncId}{q:QC × List QR}{args:List AV}(F:ad P f q n) (aH:args.length<=n) (hp:Pure r) (h:a8 P w0 false n (lA q.2 fun r' S=>bG S r' r) (.run q.1 []) ⟨iH args,[]⟩ U.none_):ag P w0 f args r:=by
 obtain⟨fn,c,hf,hb,hn,hr,hq,hd,hc⟩:=F.out
 exact ag.of_wp hf hb hc hn aH hp (a8.mono (fun ex α S=>ry hr) h c hq hd)
theorem ad.tj {f:FuncId}{q:QC × List QR}{args:List AV}{R:AV->U->Prop}(F:ad P f q n) (aH:args.length<=n) (h:a8 P w0 false n (lA q.2 R) (.run q.1 []) ⟨iH args,[]⟩ S):∃ r S',aR P w0 f args S r S'/\R r S':=by
 obtain⟨fn,c,hf,hb,hn,hr,hq,hd,hc⟩:=F.out
 exact aR.of_wp hf hb hc hn aH (a8.mono (fun ex α S=>ry hr) h c hq hd)
end
end Go.Proofs.YtbofilglphfceaaGreat
