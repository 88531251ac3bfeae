import Derived.Test.YtbofilglphfceaaGreatQ42
namespace Go.Proofs.YtbofilglphfceaaGreat
set_option linter.unusedVariables false
set_option linter.unusedSimpArgs false
open Go.RowKit
def ct (T:Tables) (n:Nat):Code->Option QC
 |.skip=>some .skip
 |.label _=>some .skip
 |.region _ ops dr=>match ko T n ops.toList ops.toList with
  |some l=>match dr with
   |false=>some (.bD false l)
   |true=>match n0 ops with
    |true=>some (.dJ (tw ops) l)
    |false=>none
  |none=>none
 |.seq a b=>match ct T n a,ct T n b with
  |some a',some b'=>some (.seq a' b')
  |_,_=>none
 |.cond c a b=>match ct T n a,ct T n b with
  |some a',some b'=>some (.cond (qo c) a' b')
  |_,_=>none
 |.block id a=>match ct T n a with
  |some a'=>some (.block id a')
  |none=>none
 |.scope a=>match ct T n a with
  |some a'=>some (.scope a')
  |none=>none
 |.loop a=>match ct T n a with
  |some a'=>some (.loop a')
  |none=>none
 |.exit id=>some (.exit id)
 |.ret=>some .ret
 |.rangeFunc f ps a b=>match ct T n a,ct T n b with
  |some a',some b'=>some (.sR (qo f) ps.toList a' b')
  |_,_=>none
 |c=>some (.raw c)
def inV (i:Nat):List (Nat × Nat)->Bool
 |[]=>false
 |p::V=>match Nat.beq p.1 i with
  |true=>true
  |false=>match Nat.beq p.2 i with|true=>true|false=>inV i V
def AZ (x y:List Nat × List Nat × Bool):Bool:=match AT x,AT y with
 |none,none=>dj x y
 |some l,none=>AS y l
 |none,some l=>AS x l
 |some _,some _=>false
def Mq (V:List (Nat × Nat)) (lg:List (List Nat × List Nat × Bool)):Bool:=V.all fun p=>AZ (vi lg p.1) (vi lg p.2)
def Dt.ok (d:Dt):Prop:=AT d.ns=none
theorem Vz {d e:Dt × Option Nat}(h1:d.2=none->d.1.ok) (h2:e.2=none->e.1.ok) (h:AZ (wC d) (wC e)=true):zX d e:=by
 obtain⟨d,x⟩:=d
 obtain⟨e,y⟩:=e
 cases x with
 |none =>
  have q1:AT d.ns=none:=h1 rfl
  cases y with
  |none =>
   have q2:AT e.ns=none:=h2 rfl
   simp only [AZ,wC,q1,q2] at h
   exact h
  |some l =>
   have h:AZ d.ns ([l],[],true)=true:=h
   unfold AZ at h
   rw [q1] at h
   exact h
 |some l =>
  cases y with
  |none =>
   have q2:AT e.ns=none:=h2 rfl
   have h:AZ ([l],[],true) e.ns=true:=h
   unfold AZ at h
   rw [q2] at h
   exact h
  |some l'=>simp only [AZ,wC,AT] at h;cases h
section
variable (P:Program) (w0:World) (rd:Bool) (n:Nat)
def iF (b:QC) (Q:Exit->AA->ae->Prop) (α:AA) (S:ae):Prop:=∀ c,ct P.toTables n c=some b->cH P c=true->Wp P w0 rd n c Q α S
def iu (Q:Exit->AA->ae->Prop):List iC->Exit->AA->ae->Prop
 |[]=>Q
 |.seq b::K=>fun ex α S=>match ex with|.normal=>iF P w0 rd n b (iu Q K) α S|e=>iu Q K e α S
 |.qY id::K=>fun ex α S=>match ex with|.exit j=>(match Nat.beq j id with|true=>iu Q K .normal α S|false=>iu Q K (.exit j) α S)|e=>iu Q K e α S
 |.uc::K=>fun ex α S=>match ex with|.goto _=>False|e=>iu Q K e α S
def vj (B:Nat) (V:List (Nat × Nat)) (lg:List (List Nat × List Nat × Bool)) (l:List QI) (Q:AA->ae->Prop) (α:AA) (S:ae):Prop :=
 ∀ ops:List Oper,ko P.toTables n ops (ops.drop lg.length)=some l->tw ops.toArray=V->∃ (D:Nat->Dt × Option Nat) (aA:AA) (S':ae),gM P w0 n ops.toArray B D (List.range' lg.length l.length) α S aA S' /\
  Mq V (lg++(List.range' lg.length l.length).map fun i=>wC (D i))=true/\(∀ i ∈ List.range' lg.length l.length,(D i).2=none->(D i).1.ok)/\Q aA S'
def cd (Q:Exit->AA->ae->Prop):QF->AA->ae->Prop
 |.run c K,α,S=>iF P w0 rd n c (iu P w0 rd n Q K) α S
 |.out ex K,α,S=>iu P w0 rd n Q K ex α S
 |.bD dr l K,α,S=>match dr with
  |false=>ea P w0 n false l (fun α S=>iu P w0 rd n Q K .normal α S) (fun ch α S=>iu P w0 rd n Q K (.panic ch) α S) α S
  |true=>False
 |.dJ B V lg rs l K,α,S=>(∀ k ∈ rs,k < B)->B<=S.nx->vj P w0 n B V lg l (fun α S=>iu P w0 rd n Q K .normal α S) α S
end
section
variable {P:Program}{w0:World}{rd:Bool}{n:Nat}{α aA:AA}{S S':ae}{Q Q':Exit->AA->ae->Prop}{ex:Exit}{r:AV}{i:QI}{l:List QI}{R:AA->ae->Prop}
theorem A0 {c:Code}{dr:Bool}(h:ct P.toTables n c=some (.bD dr l)):∃ id ops,c=.region id ops false/\dr=false/\ko P.toTables n ops.toList ops.toList=some l:=by
 cases c<;>simp only [ct] at h<;>(repeat' split at h)<;>(try cases h)
 ·exact⟨_,_,rfl,rfl,by assumption⟩
theorem Ki {c:Code}{V:List (Nat × Nat)}(h:ct P.toTables n c=some (.dJ V l)):∃ id ops,c=.region id ops true/\ko P.toTables n ops.toList ops.toList=some l/\n0 ops=true/\V=tw ops:=by
 cases c<;>simp only [ct] at h<;>(repeat' split at h)<;>(try cases h)
 ·exact⟨_,_,rfl,by assumption,by assumption,rfl⟩
theorem A1 {c:Code}{a b:QC}(h:ct P.toTables n c=some (.seq a b)):∃ c1 c2,c=.seq c1 c2/\ct P.toTables n c1=some a/\ct P.toTables n c2=some b:=by
 cases c<;>simp only [ct] at h<;>(repeat' split at h)<;>(try cases h)
 ·exact⟨_,_,rfl,by assumption,by assumption⟩
theorem G5 {c:Code}{x:QO}{a b:QC}(h:ct P.toTables n c=some (.cond x a b)):∃ y c1 c2,c=.cond y c1 c2/\qo y=x/\ct P.toTables n c1=some a/\ct P.toTables n c2=some b:=by
 cases c<;>simp only [ct] at h<;>(repeat' split at h)<;>(try cases h)
 ·exact⟨_,_,_,rfl,rfl,by assumption,by assumption⟩
theorem Ei {c:Code}{id:Nat}{a:QC}(h:ct P.toTables n c=some (.block id a)):∃ c1,c=.block id c1/\ct P.toTables n c1=some a:=by
 cases c<;>simp only [ct] at h<;>(repeat' split at h)<;>(try cases h)
 ·exact⟨_,rfl,by assumption⟩
theorem Ej {c:Code}{a:QC}(h:ct P.toTables n c=some (.scope a)):∃ c1,c=.scope c1/\ct P.toTables n c1=some a:=by
 cases c<;>simp only [ct] at h<;>(repeat' split at h)<;>(try cases h)
 ·exact⟨_,rfl,by assumption⟩
theorem G6 {c:Code}{a:QC}(h:ct P.toTables n c=some (.loop a)):∃ c1,c=.loop c1/\ct P.toTables n c1=some a:=by
 cases c<;>simp only [ct] at h<;>(repeat' split at h)<;>(try cases h)
 ·exact⟨_,rfl,by assumption⟩
theorem G7 {c:Code}{x:QO}{ps:List Nat}{a b:QC}(h:ct P.toTables n c=some (.sR x ps a b)):∃ y pt c1 c2,c=.rangeFunc y pt c1 c2/\qo y=x/\pt.toList=ps/\ct P.toTables n c1=some a/\ct P.toTables n c2=some b:=by
 cases c<;>simp only [ct] at h<;>(repeat' split at h)<;>(try cases h)
 ·exact⟨_,_,_,_,rfl,rfl,rfl,by assumption,by assumption⟩
theorem ot {c:Code}:(ct P.toTables n c=some .skip->Ji c)/\(ct P.toTables n c=some .ret->c=.ret)/\∀ id,ct P.toTables n c=some (.exit id)->c=.exit id:=by
 refine⟨fun h=>?_,fun h=>?_,fun id h=>?_⟩
 all_goals
  cases c<;>simp only [ct] at h<;>(repeat' split at h)<;>(try cases h)<;>first|rfl|exact .inl rfl|exact .inr ⟨_,rfl⟩
theorem iF.seq {a b:QC}(h:iF P w0 rd n a (fun ex α S=>match ex with|.normal=>iF P w0 rd n b Q α S|e=>Q e α S) α S):iF P w0 rd n (.seq a b) Q α S:=by
 intro c hc hd
 obtain⟨c1,c2,rfl,h1,h2⟩:=A1 hc
 simp only [cH,Bool.and_eq_true] at hd
 refine Wp.seq ?_
 obtain⟨ex,bK,bZ,h3,h4⟩:=h c1 h1 hd.1
 refine⟨ex,bK,bZ,h3,?_⟩
 cases ex with
 |normal=>exact h4 c2 h2 hd.2
 |_=>exact h4
theorem iF.cond {x:QO}{a b:QC}{t:Bool}(hx:x.ev α.tm=.v (.bool t)) (h:iF P w0 rd n (if t then a else b) Q α S):iF P w0 rd n (.cond x a b) Q α S:=by
 intro c hc hd
 obtain⟨y,c1,c2,rfl,rfl,h1,h2⟩:=G5 hc
 simp only [cH,Bool.and_eq_true] at hd
 refine Wp.cond (by rw [PU];exact hx) ?_
 cases t with
 |true=>exact h c1 h1 hd.1
 |false=>exact h c2 h2 hd.2
theorem iF.scope {a:QC}(h:iF P w0 rd n a (fun ex α S=>match ex with|.goto _=>False|e=>Q e α S) α S):iF P w0 rd n (.scope a) Q α S:=by
 intro c hc hd
 obtain⟨c1,rfl,h1⟩:=Ej hc
 obtain⟨ex,bK,bZ,h2,h3⟩:=h c1 h1 hd
 cases ex with
 |goto l=>exact h3.elim
 |_=>exact⟨_,bK,bZ,cu.scope h2 (fun l e=>by cases e),h3⟩
theorem iF.block {id:Nat}{a:QC}(h:iF P w0 rd n a (fun ex α S=>match ex with|.exit j=>(match Nat.beq j id with|true=>Q .normal α S|false=>Q (.exit j) α S)|e=>Q e α S) α S):iF P w0 rd n (.block id a) Q α S:=by
 intro c hc hd
 obtain⟨c1,rfl,h1⟩:=Ei hc
 exact Wp.block (h c1 h1 hd)
theorem iF.bD (h:ea P w0 n false l (fun α S=>Q .normal α S) (fun ch α S=>Q (.panic ch) α S) α S):iF P w0 rd n (.bD false l) Q α S:=by
 intro c hc hd
 obtain⟨id,ops,rfl,_,h1⟩:=A0 hc
 rcases h _ _ h1 0 rfl with ⟨aA,S',h3,h4⟩|⟨ch,aA,S',h3,h4⟩
 ·rw [Array.length_toList,<-List.range_eq_range'] at h3
  exact⟨_,aA,S',cu.region h3,h4⟩
 ·rw [Array.length_toList,<-List.range_eq_range'] at h3
  exact⟨.panic ch,aA,S',fun F m A g a w hF hR hS hA=>wpIn_region (h3 F m A g a w _ hF hS hA fun a' w' g' q1 q2 q3=>⟨rfl,g',q1,q2,q3⟩),h4⟩
theorem Du {ops:List Oper}:∀ {rest:List Oper}{l:List QI},ko P.toTables n ops rest=some l->l.length=rest.length
 |[],l,h=>by obtain rfl:=Option.some.inj h;rfl
 |o::rest,l,h=>by
  cases l with
  |nil =>
   exfalso
   simp only [ko] at h
   split at h
   ·split at h
    ·cases h
    ·split at h<;>cases h
   ·cases h
  |cons i l =>
   obtain⟨o',jT,e,h3,_⟩:=kW (α:=⟨fun _=>.u,[]⟩) h
   injection e with e1 e2
   subst e1 e2
   simp [Du h3]
theorem Dv {ops:Array Oper}{m:List Nat}:∀ {k:Nat}{q:Nat × Nat},q ∈ rD ops m k->q.1 < k/\q.2 < k
 |0,q,h=>by cases h
 |k+1,q,h=>by
  simp only [rD,List.mem_append,List.mem_map,List.mem_filter,List.mem_range] at h
  rcases h with ⟨x,⟨hx,_⟩,rfl⟩|h
  ·exact⟨by simp only;omega,by simp only;omega⟩
  ·have:=Dv h;omega
theorem iF.dJ {V:List (Nat × Nat)}(h:(∀ k ∈ gA l S.nx,k < S.nx+(gA l S.nx).length)->S.nx+(gA l S.nx).length<=(tz S l).nx->vj P w0 n (S.nx+(gA l S.nx).length) V [] l (fun α S=>Q .normal α S) α (tz S l)):iF P w0 rd n (.dJ V l) Q α S:=by
 intro c hc hd
 obtain⟨id,ops,rfl,h1,h2,rfl⟩:=Ki hc
 simp only [cH,Bool.and_eq_true] at hd
 have hl:l.length=ops.size:=by rw [Du h1];simp
 obtain⟨D,aA,S',h3,h4,h6,h5⟩:=h (fun k hk=>(qI hk).2) (by cases S;exact Nat.le_refl _) ops.toList h1 rfl
 simp only [List.length_nil,hl,List.nil_append] at h3 h4 h6
 rw [<-List.range_eq_range'] at h3 h4 h6
 refine⟨.normal,aA,S',fun F m A g a w hF hR hS hA=>?_,h5⟩
 refine cu.YH hd.1 h2 (fun p hp=>?_) h3 F m A g a w hF hR (hS.rsv l) hA
 obtain⟨k1,k2⟩:=Dv (List.mem_filter.1 hp).1
 have get:∀ i,i < ops.size->vi ((List.range ops.size).map fun i=>wC (D i)) i=wC (D i):=fun i hi=>by
  unfold vi
  rw [List.getD_eq_getElem?_getD,List.getElem?_map,List.getElem?_range hi]
  rfl
 have h7:=List.all_eq_true.1 h4 p hp
 rw [get _ k1,get _ k2] at h7
 exact Vz (h6 _ (List.mem_range.2 k1)) (h6 _ (List.mem_range.2 k2)) h7
theorem iF.done {a:QC}(hd:∀ c,ct P.toTables n c=some a->Wp P w0 rd n c Q α S):iF P w0 rd n a Q α S:=fun c hc _=>hd c hc
variable {K:List iC}
theorem cd.skip (h:cd P w0 rd n Q (.out .normal K) α S):cd P w0 rd n Q (.run .skip K) α S:=iF.done fun c hc=>Wp.of (cu.skip (ot.1 hc)) h
theorem cd.exit_ {id:Nat}(h:cd P w0 rd n Q (.out (.exit id) K) α S):cd P w0 rd n Q (.run (.exit id) K) α S:=iF.done fun c hc=>by rw [ot.2.2 _ hc];exact Wp.of (cu.exit_ _) h
theorem cd.acq (h:cd P w0 rd n Q (.out .ret K) α S):cd P w0 rd n Q (.run .ret K) α S:=iF.done fun c hc=>by rw [ot.2.1 hc];exact Wp.of cu.ret h
theorem cd.seq {a b:QC}(h:cd P w0 rd n Q (.run a (.seq b::K)) α S):cd P w0 rd n Q (.run (.seq a b) K) α S:=iF.seq h
theorem cd.cond {x:QO}{a b:QC}{t:Bool}(hx:x.ev α.tm=.v (.bool t)) (h:cd P w0 rd n Q (.run (if t then a else b) K) α S):cd P w0 rd n Q (.run (.cond x a b) K) α S:=iF.cond hx h
theorem cd.scope {a:QC}(h:cd P w0 rd n Q (.run a (.uc::K)) α S):cd P w0 rd n Q (.run (.scope a) K) α S:=iF.scope h
theorem cd.block {id:Nat}{a:QC}(h:cd P w0 rd n Q (.run a (.qY id::K)) α S):cd P w0 rd n Q (.run (.block id a) K) α S:=iF.block h
theorem cd.bD (h:cd P w0 rd n Q (.bD false l K) α S):cd P w0 rd n Q (.run (.bD false l) K) α S:=iF.bD h
theorem cd.dJ {V:List (Nat × Nat)}(h:cd P w0 rd n Q (.dJ (S.nx+(gA l S.nx).length) V [] (gA l S.nx) l K) α (tz S l)):cd P w0 rd n Q (.run (.dJ V l) K) α S:=iF.dJ fun h1 h2=>h h1 h2
theorem cd.fin (h:cd P w0 rd n Q (.out .normal K) α S):cd P w0 rd n Q (.bD false [] K) α S:=by
 show ea P w0 n false [] _ _ α S
 exact ea.nil h
theorem cd.op (hw:cj α.tm i.g=some true) (h:ad P w0 false i.q α S r S') (k:cd P w0 rd n Q (.bD false l K) (cD i.d α r) S'):cd P w0 rd n Q (.bD false (i::l) K) α S:=by
 show ea P w0 n false (i::l) _ _ α S
 exact ea.op hw h k
theorem cd.no (hw:cj α.tm i.g=some false) (k:cd P w0 rd n Q (.bD false l K) (cD i.d α (.v undef)) S):cd P w0 rd n Q (.bD false (i::l) K) α S:=by
 show ea P w0 n false (i::l) _ _ α S
 exact ea.skip hw k
theorem cd.cv {c:QC}(h:Cv w0 n α S aA S') (k:cd P w0 rd n Q (.run c K) aA S'):cd P w0 rd n Q (.run c K) α S:=by
 intro c0 hc hd
 obtain⟨ex,bK,bZ,h1,h2⟩:=k c0 hc hd
 exact⟨ex,bK,bZ,h1.cv h,h2⟩
theorem gM.congr {ops:Array Oper}{B:Nat}{D D':Nat->Dt × Option Nat}:∀ {L:List Nat}{α aA:AA}{S S':ae},(∀ i ∈ L,D i=D' i)->gM P w0 n ops B D L α S aA S'->gM P w0 n ops B D' L α S aA S'
 |[],_,_,_,_,_,.nil ..=>.nil ..
 |i::rest,_,_,_,_,he,.cons h t=>.cons (by rw [<-he i (by simp)];exact h) (t.congr fun j hj=>he j (by simp [hj]))
theorem vj.step {B:Nat}{V:List (Nat × Nat)}{lg:List (List Nat × List Nat × Bool)}{d:Dt × Option Nat}{α1:AA}{S1:ae}(hx:d.2=none->d.1.ok)
  (hg:∀ ops o rest,ops.drop lg.length=o::rest->pj n o.dst=true->o.dst=i.d->res P.toTables o.op=some i.q->(∀ b,cj α.tm i.g=some b->iW ops α o=some b)->Dr P w0 n ops.toArray B lg.length d α S α1 S1)
  (k:vj P w0 n B V (lg++[wC d]) l R α1 S1):vj P w0 n B V lg (i::l) R α S:=by
 intro ops hr hV
 obtain⟨o,rest,h1,h2,h3,h4,h5,h6⟩:=kW (α:=α) hr
 obtain⟨h7,h8⟩:=kX h1
 obtain⟨D,aA,S',k1,k2,k4,k3⟩:=k ops (by rw [List.length_append,List.length_singleton,h8];exact h2) hV
 simp only [List.length_append,List.length_singleton] at k1 k2 k4
 refine⟨fun i=>if i=lg.length then d else D i,aA,S',?_,?_,?_,k3⟩
 ·rw [List.length_cons,List.range'_succ]
  refine .cons (by rw [if_pos rfl];exact hg ops o rest h1 h3 h4 h5 h6) (k1.congr fun i hi=>?_)
  have:=(List.mem_range'_1.1 hi).1
  rw [if_neg (by omega)]
 ·rw [List.length_cons,List.range'_succ,List.map_cons]
  simp only [if_pos]
  have e:((List.range' (lg.length+1) l.length).map fun i=>wC (if i=lg.length then d else D i))=(List.range' (lg.length+1) l.length).map fun i=>wC (D i):=List.map_congr_left fun i hi=>by
   have:=(List.mem_range'_1.1 hi).1
   rw [if_neg (by omega)]
  rw [e]
  rw [List.append_assoc] at k2
  exact k2
 ·intro j hj hb
  rw [List.length_cons,List.range'_succ] at hj
  rcases List.mem_cons.1 hj with rfl|hj
  ·show ((if lg.length=lg.length then d else D lg.length):Dt × Option Nat).1.ok
   have hb:((if lg.length=lg.length then d else D lg.length):Dt × Option Nat).2=none:=hb
   rw [if_pos rfl] at hb ⊢
   exact hx hb
  ·have:=(List.mem_range'_1.1 hj).1
   show ((if j=lg.length then d else D j):Dt × Option Nat).1.ok
   have hb:((if j=lg.length then d else D j):Dt × Option Nat).2=none:=hb
   rw [if_neg (by omega)] at hb ⊢
   exact k4 j hj hb
theorem cd.BV {B:Nat}{V:List (Nat × Nat)}{lg:List (List Nat × List Nat × Bool)}{rs:List Nat}{d:Dt}(hw:cj α.tm i.g=some true) (nu:d.ok) (h:cB P w0 B i.q α S r d) (k:cd P w0 rd n Q (.dJ B V (lg++[d.ns]) rs l K) (cD i.d α r) (dQ S d.W d.m)):cd P w0 rd n Q (.dJ B V lg rs (i::l) K) α S:=by
 intro fp hB
 refine vj.step (d:=(d,none)) (fun _=>nu) (fun ops o rest h1 h2 h3 h4 h5=>?_) (k fp (by rw [ec];exact Nat.le_trans hB (Nat.le_add_right _ _)))
 obtain⟨k1,k2,k3⟩:=h n o h4
 exact⟨o,(kX h1).1,h2,k1,hB,k2,rfl,.inr ⟨(yU (h5 _ hw)).1 rfl,r,by rw [n_,<-h3];cases o.dst<;>rfl,fun T hb ht hm=>k3 T hb ht hm⟩⟩
theorem cd.dno {B:Nat}{V:List (Nat × Nat)}{lg:List (List Nat × List Nat × Bool)}{rs:List Nat}(hw:cj α.tm i.g=some false) (k:cd P w0 rd n Q (.dJ B V (lg++[([],[],false)]) rs l K) (cD i.d α (.v undef)) S):cd P w0 rd n Q (.dJ B V lg rs (i::l) K) α S:=by
 intro fp hB
 refine vj.step (d:=(.none_,none)) (fun _=>rfl) (fun ops o rest h1 h2 h3 h4 h5=>?_) (k fp hB)
 obtain⟨j,want,c,e1,e2,e3⟩:=(yU (h5 _ hw)).2 rfl
 exact⟨o,(kX h1).1,h2,fun _=>rfl,hB,(show kE S [] from fun p hp=>by cases hp),cK.symm,.inl ⟨j,want,c,e1,e2,e3,by rw [n_,<-h3];cases o.dst<;>rfl,rfl⟩⟩
def Dw:dm->Bool
 |.mv _|.pick ..|.build ..|.rows ..|.bin ..|.eqs ..|.not _|.neg _|.conv ..|.pd _|.Mr _|.vA ..|.field ..|.qV ..|.ow ..|.sS ..|.l8 ..|.slice ..|.extract ..|.BW ..|.vB _|.len ..|.min ..|.max ..=>true
 |_=>false
theorem Rx {o:Op}{q:dm}(h:res P.toTables o=some q) (hq:Dw q=false):jx o=false:=by
 cases o<;>simp only [res] at h<;>(repeat' split at h)<;>(try cases h)<;>first|rfl|(cases hq;done)|(simp only [jx, *])
def lX:dm->List QO
 |.mv x|.box x|.not x|.neg x|.conv _ x|.pd x|.vA _ x|.field _ _ x|.uP x|.pz x|.vB x|.Mr x|.ug x|.zp _ x|.sK _ x|.Kj x|.cap x|.extract x _|.len _ x|.load _ x=>[x]
 |.store _ a b|.bin _ _ a b|.qV _ a b|.ow _ _ a b|.sS a b|.l8 _ _ _ a b|.append _ _ a b|.min a b|.max a b|.look _ _ a b|.eqs _ a b|.del a b|.copy _ a b|.eM _ _ _ a b|.VA a b|.j8 _ _ a b|.zW _ _ a b=>[a,b]
 |.pick a b c|.jL a b c|.ky _ a b c|.VB a b c=>[a,b,c]
 |.slice _ x a b c=>[x]++a.toList++b.toList++c.toList
 |.call f aZ9=>f::aZ9
 |.fH x=>x.toList
 |_=>[]
def yV:List QO->List Nat
 |[]=>[]
 |.t n::l=>n::yV l
 |.c _::l=>yV l
theorem z4 {t:Nat}:∀ {l:List QO},t ∈ yV l->QO.t t ∈ l
 |[],h=>by cases h
 |.t n::l,h=>by
  rcases List.mem_cons.1 h with rfl|h
  ·exact List.mem_cons_self
  ·exact List.mem_cons_of_mem _ (z4 h)
 |.c a::l,h=>List.mem_cons_of_mem _ (z4 (l:=l) h)
theorem Ms {o:Op}{q:dm}(hq:Dw q=false) (h:res P.toTables o=some q):∀ x ∈ lX q,∃ y ∈ o.operands,x=qo y:=by
 have arr:∀ {c:Call}{x:Operand},x ∈ c.args.toList->x ∈ c.operands:=fun {c x} hx=>by
  have:=Array.mem_toList_iff.1 hx
  unfold Call.operands
  split<;>simp [this]
 have opt:∀ {z:Option Operand}{x:QO},x ∈ (z.map qo).toList->∃ y,z=some y/\x=qo y:=by
  intro z x hx
  cases z with
  |none=>simp at hx
  |some y=>simp at hx;exact⟨y,rfl,hx⟩
 cases o with
 |call c =>
  simp only [res] at h
  intro x hx
  split at h
  ·rename_i f hf
   obtain rfl:=Option.some.inj h
   simp only [lX,List.mem_cons,List.mem_map] at hx
   rcases hx with rfl|⟨y,hy,rfl⟩
   ·exact⟨f,by show f ∈ c.operands;simp [Call.operands,hf],rfl⟩
   ·exact⟨y,arr hy,rfl⟩
  ·have key:∀ {u v:Operand},c.args.toList=[u,v]->∀ y,y=u\/y=v->y ∈ c.operands:=fun e y hy=>arr (by rw [e];simpa using hy)
   have acr:∀ {u:Operand},c.args.toList=[u]->u ∈ c.operands:=fun e=>arr (by rw [e];simp)
   repeat' split at h
   all_goals first
    |(cases h;done)
    |(obtain rfl:=Option.some.inj h
      simp only [lX,List.mem_cons,List.not_mem_nil,or_false] at hx
      first
       |(rcases hx with rfl|rfl
         exact⟨_,key (by assumption) _ (.inl rfl),rfl⟩
         exact⟨_,key (by assumption) _ (.inr rfl),rfl⟩)
       |(subst hx;exact⟨_,acr (by assumption),rfl⟩)
       |fail "call")
    |fail "callall"
  ·cases h
 |makeMap t r =>
  simp only [res] at h
  split at h
  ·obtain rfl:=Option.some.inj h
   intro x hx
   obtain⟨y,rfl,rfl⟩:=opt hx
   exact⟨y,by simp [Op.operands],rfl⟩
  ·cases h
 |_ =>
  simp only [res] at h
  repeat' split at h
  all_goals first
   |(cases h;done)
   |(obtain rfl:=Option.some.inj h
     first
      |(cases hq;done)
      |(intro x hx;cases hx;done)
      |(intro x hx
        simp only [lX,List.mem_cons,List.not_mem_nil,or_false] at hx
        first
         |(cases hx;done)
         |(subst hx;exact⟨_,by simp [Op.operands],rfl⟩)
         |(rcases hx with rfl|rfl<;>exact⟨_,by simp [Op.operands],rfl⟩)
         |(rcases hx with rfl|rfl|rfl<;>exact⟨_,by simp [Op.operands],rfl⟩)
         |fail "ops")
      |fail "cs")
   |fail "all"
def vT (L:List Nat) (f:Nat->AV):Nat->AV:=fun t=>match jn t L with|true=>f t|false=>.u
theorem wL {k:Nat}:∀ {l:List Nat},jn k l=true->k ∈ l
 |[],h=>by cases h
 |j::l,h=>by
  simp only [jn] at h
  split at h
  ·rename_i hb
   rw [Nat.eq_of_beq_eq_true hb]
   exact List.mem_cons_self
  ·exact List.mem_cons_of_mem _ (wL h)
theorem ew.acs {o:Oper}{β:AA}(hw:∀ t,β.tm t=α.tm t\/β.tm t=.u) (hd:β.df=α.df) (h:ew P w0 n o β S r S'):ew P w0 n o α S r S':=by
 intro F m A g a w next R hF hS hA lY
 refine h F m A g a w next R hF hS ⟨hA.size,fun t ht=>?_,fun t ht=>?_,by rw [hd];exact hA.df,fun k hk=>hA.sb k (by rw [<-hd];exact hk)⟩ lY
 ·rcases hw t with e|e
  ·rw [e];exact hA.tm t ht
  ·rw [e];exact .u
 ·rcases hw t with e|e
  ·rw [e];exact hA.out t ht
  ·exact e
theorem cd.xop {B:Nat}{V:List (Nat × Nat)}{lg:List (List Nat × List Nat × Bool)}{rs:List Nat}(hw:cj α.tm i.g=some true) (hp:Dw i.q=false) (hn:S.nx<=S'.nx) {lw:Nat}(hold:∀ k,k < lw->S'.get k=S.get k) (h:ad P w0 false i.q ⟨vT (yV (lX i.q)) α.tm,α.df⟩ S r S')
  (k:cd P w0 rd n Q (.dJ B V (lg++[([lw],[],true)]) rs l K) (cD i.d α r) S'):cd P w0 rd n Q (.dJ B V lg rs (i::l) K) α S:=by
 intro fp hB
 refine vj.step (d:=(.none_,some lw)) (fun e=>by cases e) (fun ops o rest h1 h2 h3 h4 h5=>?_) (k fp (Nat.le_trans hB hn))
 have hi:=(kX h1).1
 refine⟨o,hi,h2,by simp only [oV,hi];exact Rx h4 hp,hB,hn,hold,(yU (h5 _ hw)).1 rfl,r,by rw [n_,<-h3];cases o.dst<;>rfl,?_⟩
 refine ew.acs (β:=⟨vT (yV (lX i.q)) α.tm,α.df⟩) (fun t=>?_) rfl (h n o h4)
 show vT (yV (lX i.q)) α.tm t=(α.only (dp o)).tm t\/vT (yV (lX i.q)) α.tm t=.u
 unfold vT
 cases hm:jn t (yV (lX i.q)) with
 |false=>exact .inr rfl
 |true =>
  left
  obtain⟨y,hy,e⟩:=Ms hp h4 _ (z4 (wL hm))
  have:t ∈ dp o:=by
   cases y with
   |tmp t' =>
    injection e with e
    subst e
    exact iN hy
   |_=>cases e
  show α.tm t=if (dp o).contains t then α.tm t else .u
  rw [if_pos (by simpa using this)]
theorem cd.acu {B:Nat}{V:List (Nat × Nat)}{lg:List (List Nat × List Nat × Bool)}{rs:List Nat}(hc:Mq V lg=true) (h:cd P w0 rd n Q (.out .normal K) α S):cd P w0 rd n Q (.dJ B V lg rs [] K) α S:=by
 intro fp hB
 exact fun ops _ _=>⟨fun _=>(.none_,none),α,S,.nil ..,by simpa using hc,fun i hi=>(by cases hi),h⟩
structure aN (P:Program) (f:FuncId) (q:QC × List QR) (n:Nat):Prop where
 out:∃ fn c,P.funcs[f]?=some fn/\fn.body=some c/\fn.ntmps=n/\rY P.toTables fn.results.toList=some q.2/\ct P.toTables n c=some q.1/\cH P c=true/\∀ (xs:Array Value) (w:World),(callFunc f xs).run P w=.ok (.enter f xs) w
def aX (T:Tables) (fn:Func):Option (QC × List QR):=match fn.body with
 |some c=>match ct T fn.ntmps c,rY T fn.results.toList with
  |some q,some qs=>some (q,qs)
  |_,_=>none
 |none=>none
theorem aN.of {f:FuncId}{q:QC × List QR}{fn:Func}{T:Tables}(hf:P.funcs[f]?=some fn) (hq:aX T fn=some q) (hT:P.toTables=T) (hn:fn.ntmps=n) (hd:xT P fn=true)
  (hc:∀ (xs:Array Value) (w:World),(callFunc f xs).run P w=.ok (.enter f xs) w):aN P f q n:=by
 subst hT
 unfold aX at hq
 unfold xT at hd
 cases hb:fn.body with
 |none=>rw [hb] at hq;cases hq
 |some c =>
  rw [hb] at hq hd
  simp only at hq
  split at hq
  ·rename_i q1 qs h1 h2
   obtain rfl:=Option.some.inj hq
   exact⟨⟨fn,c,hf,hb,hn,h2,by rw [<-hn];exact h1,hd,hc⟩⟩
  ·cases hq
theorem cd.mono {Q':Exit->AA->ae->Prop}(hm:∀ ex α S,Q ex α S->Q' ex α S) {c:QC}(h:cd P w0 rd n Q (.run c []) α S):cd P w0 rd n Q' (.run c []) α S:=by
 intro c0 hc hd
 obtain⟨ex,aA,S',h1,h2⟩:=h c0 hc hd
 exact⟨ex,aA,S',h1,hm _ _ _ h2⟩
theorem aN.aG {f:FuncId}{q:QC × List QR}{args:List AV}(F:aN P f q n) (bA:args.length<=n) (hp:Pure r) (h:cd P w0 false n (mO q.2 fun r' S=>aU S r' r) (.run q.1 []) ⟨kg args,[]⟩ ae.none_):ah P w0 f args r:=by
 obtain⟨fn,c,hf,hb,hn,hr,hq,hd,hc⟩:=F.out
 exact ah.of_wp hf hb hc hn bA hp (cd.mono (fun ex α S=>uj hr) h c hq hd)
theorem aN.As {f:FuncId}{q:QC × List QR}{args:List AV}{R:AV->ae->Prop}(F:aN P f q n) (bA:args.length<=n) (h:cd P w0 false n (mO q.2 R) (.run q.1 []) ⟨kg args,[]⟩ S):∃ r S',bc P w0 f args S r S'/\R r S':=by
 obtain⟨fn,c,hf,hb,hn,hr,hq,hd,hc⟩:=F.out
 exact bc.of_wp hf hb hc hn bA (cd.mono (fun ex α S=>uj hr) h c hq hd)
end
structure Fr where
 t:Tr AV
 ds:List Nat
def cy (F:Fr):AA:=⟨en F.t,F.ds⟩
inductive XR where
 |dn (ex:Exit) (F:Fr) (s:XS)
 |mr (cf:QF) (F:Fr) (s:XS)
 |no
abbrev Rec:=Bool->Nat->QF->Fr->XS->XR
structure Env where
 yW:Nat->Option ((QC × List QR) × Nat)
 ext:Nat->List AV->Option AV
 nat:Nat->List AV->Option Value
 Kk:Nat->Option AV
 wm:Nat->Bool
 Fw:Nat->Value->Bool
 VC:Value->Value->Bool
 seq:Nat->Value->Value->Option Bool
def Bx (s:XS):List Nat->Option XS
 |[]=>some s
 |k::ks=>match (ez s).get k with
  |some .df=>Bx (lD s k none) ks
  |_=>none
def ui (qs:List QR) (ex:Exit) (F:Fr) (s:XS):Option (AV × XS):=match Bl ex,Bx s F.ds with
 |true,some s'=>match l0 (en F.t) (ez s') qs with
  |some [a]=>some (a,s')
  |some l=>some (.bg l,s')
  |none=>none
 |_,_=>none
def ylX (args:List AV) (s:XS):AV × XS:=match s.an with
 |0=>(.v (.bool false),⟨s.m,s.nx,s.lw,s.yk,0,(args,false)::s.lg⟩)
 |a+1=>(.v (.bool true),⟨s.m,s.nx,s.lw,s.yk,a,(args,true)::s.lg⟩)
def VD:XS:=⟨.nil,0,0,none,0,[]⟩
def G8 (E:Env) (rc:Rec) (g:Nat) (aZ9:List AV):Option AV:=match E.yW g with
 |none=>none
 |some (c,n)=>match Nat.ble aZ9.length n,fD (iA 60) aZ9 with
  |true,true=>match rc false n (.run c.1 []) ⟨pq aZ9 0 .nil,[]⟩ VD with
   |.dn ex F s'=>match s'.lg,ui c.2 ex F s' with
    |[],some (r,s2)=>match iA 60 r with
     |true=>some r
     |false=>fT (ez s2) 60 r
    |_,_=>none
   |_=>none
  |_,_=>none
def VE (E:Env) (rc:Rec) (g:Nat) (aZ9:List AV):Option (Nat × Nat × List (List AV) × Nat × Bool):=match E.yW g with
 |none=>none
 |some (c,n)=>match Nat.ble aZ9.length n,fD (iA 60) aZ9 with
  |true,true=>match rc false n (.run c.1 []) ⟨pq aZ9 0 .nil,[]⟩ VD with
   |.dn ex F s'=>match s'.lg,ui c.2 ex F s' with
    |[],some (.ob k sz 0 len none,s2)=>match (ez s2).get k with
     |some (.arr sz' rows fz ex)=>match Nat.beq sz' sz && qq (iA 60) rows with
      |true=>some (sz,len,rows,fz,ex)
      |false=>none
     |_=>none
    |_,_=>none
   |_=>none
  |_,_=>none
def BL (E:Env) (rc:Rec) (g:Nat) (aZ9:List AV):Option AV:=match E.ext g aZ9 with
 |some r=>some r
 |none=>match E.Kk g with
  |some v=>match aZ9 with
   |[.fn (.func h) first cap]=>match G8 E rc h (first++cap) with
    |some (.bg [])=>some v
    |_=>none
   |_=>none
  |none=>G8 E rc g aZ9
def G9:Nat->AV->Bool
 |0,_=>false
 |m+1,a=>match a with
  |.v _=>true
  |.bg l|.agg l=>fD (G9 m) l
  |_=>false
def zcX (E:Env) (rc:Rec) (g:Nat) (aZ9:List AV) (s:XS):Option AV:=match fD (iA 60) aZ9 with
 |true=>BL E rc g aZ9
 |false=>match jW (fT (ez s) 60) aZ9 with
  |some qC=>match BL E rc g qC with
   |some r=>match G9 9 r with
    |true=>some r
    |false=>none
   |none=>none
  |none=>none
def PV (E:Env) (rc:Rec) (g:Nat) (aZ9:List AV) (s:XS):Option (AV × XS):=match E.yW g with
 |none=>none
 |some (c,n)=>match Nat.ble aZ9.length n with
  |true=>match rc false n (.run c.1 []) ⟨pq aZ9 0 .nil,[]⟩ ⟨s.m,s.nx,s.nx,s.yk,s.an,s.lg⟩ with
   |.dn ex F s'=>ui c.2 ex F s'
   |_=>none
  |false=>none
def vD (E:Env) (rc:Rec) (fw:Bool) (fv:AV) (args:List AV) (s:XS):Option (AV × XS):=match fv with
 |.yl k=>match dZ s.yk k with
  |true=>match GJ s args with
   |some (bL,s1)=>some (ylX bL s1)
   |none=>none
  |false=>none
 |fv=>match eL fv args with
  |none=>none
  |some (g,aZ9)=>match E.nat g aZ9 with
   |some v=>match fv with
    |.v _=>some (.v v,s)
    |_=>none
   |none=>match (match E.wm g || fw with|true=>E.ext g aZ9|false=>zcX E rc g aZ9 s) with
    |some r=>some (r,s)
    |none=>match PV E rc g aZ9 s with
     |some (r,s')=>some (r,⟨s'.m,s'.nx,Nat.min s.lw s'.lw,s'.yk,s'.an,s'.lg⟩)
     |none=>none
def Kl (E:Env) (q:dm) (f:Nat->AV):Option AV:=match q with
 |.eqs t x y=>match toV (x.ev f),toV (y.ev f) with
  |some a,some b=>match E.seq t a b with
   |some e=>some (.v (.bool e))
   |none=>none
  |_,_=>none
 |_=>none
def Dx (E:Env) (kt:Nat):List (Value × AV)->Bool
 |[]=>true
 |p::l=>match E.Fw kt p.1 with|true=>Dx E kt l|false=>false
def Dy (E:Env) (rc:Rec) (fw:Bool) (q:dm) (f:Nat->AV) (s:XS):Option (AV × XS):=match q with
 |.call g aZ9=>vD E rc fw (g.ev f) (aZ9.map (·.ev f)) s
 |.append sz by_ a b=>match Gt sz by_ s (a.ev f) (b.ev f) with
  |some r=>some r
  |none=>match a.ev f,dh (ez s) (b.ev f) with
   |.sl ex rows,some []=>some (.sl ex rows,s)
   |.sl ex rows,none=>match b.ev f with
    |.v (.slice _ 0 _)=>some (.sl ex rows,s)
    |_=>none
   |_,_=>none
 |.eM kt z c x i=>match x.ev f,toV (i.ev f) with
  |.mp k,some v=>match (ez s).get k with
   |some (.mp es)=>match E.Fw kt v && Dx E kt es with
    |true=>some ((match eM (E.VC v) es with|some a=>(if c then .bg [a,.v (.bool true)] else a)|none=>(if c then .bg [z,.v (.bool false)] else z)),s)
    |false=>none
   |_=>none
  |_,_=>none
 |.ky kt x i b=>match x.ev f,toV (i.ev f) with
  |.mp k,some v=>match (ez s).get k with
   |some (.mp es)=>match E.Fw kt v && Dx E kt es,kh (E.VC v) es with
    |true,none=>some (.v undef,lD s k (some (.mp (es++[(v,b.ev f)]))))
    |_,_=>none
   |_=>none
  |_,_=>none
 |q=>match Kl E q f with
  |some r=>some (r,s)
  |none=>qy false q f s
def PW (E:Env) (rc:Rec) (fw:Bool) (q:dm) (f:Nat->AV) (s:XS):Option (AV × XS):=match G3 q f s with
 |some r=>some r
 |none=>Dy E rc fw q f s
def G_ (body:Fr->XS->XR):Nat->Fr->XS->Option (Exit × Fr × XS)
 |0,_,_=>none
 |k+1,F,s=>match body F s with
  |.dn ex F' s'=>match ex with
   |.normal=>G_ body k F' s'
   |e=>some (e,F',s')
  |_=>none
def aW (s:XS) (W:List (Nat × Option Ob)) (m:Bool):Option XS:=match W,m with
 |[],false=>some s
 |[(k,o)],false=>match dZ s.yk k with
  |false=>some (lD s k o)
  |true=>none
 |[(k,some o)],true=>match Nat.beq k s.nx && !dZ s.yk s.nx with
  |true=>some (j5 s o)
  |false=>none
 |[(k,some o),(j,none)],true=>match Nat.beq k s.nx && !dZ s.yk s.nx && !dZ s.yk j with
  |true=>some (j5 (lD s j none) o)
  |false=>none
 |_,_=>none
def Ha (s:XS):List Nat->Option XS
 |[]=>some s
 |k::ks=>match Ha s ks with
  |some s'=>match dZ s'.yk k with
   |false=>some (lD s' k (some .un))
   |true=>none
  |none=>none
def z5 (d:Option Nat):List QI->Bool
 |[]=>false
 |i::l=>match i.q,d with
  |.append _ _ (.t t) _,some d=>match Nat.beq t d with|true=>true|false=>z5 (some d) l
  |_,d=>z5 d l
def PX (E:Env) (rc:Rec) (fr:Bool) (q:dm) (f:Nat->AV) (s:XS) (rs:List Nat):Option (AV × (List Nat × List Nat × Bool) × List Nat × XS):=match qx true q f with
 |some r=>some (r,([],[],false),rs,s)
 |none=>match Kl E q f with
  |some r=>some (r,([],[],false),rs,s)
  |none=>match q with
   |.call g aZ9=>match eL (g.ev f) (aZ9.map (·.ev f)) with
    |some (h,aZ9)=>match (match fr,dZ s.yk s.nx with|true,false=>VE E rc h aZ9|_,_=>none) with
     |some (sz,len,rows,fz,ex)=>some (.ob s.nx sz 0 len none,([],[s.nx],true),rs,j5 s (.arr sz rows fz ex))
     |none=>match BL E rc h aZ9 with
      |some r=>some (r,([],[],false),rs,s)
      |none=>none
    |none=>none
   |.append sz by_ a b=>match Mm sz by_ s (a.ev f) (b.ev f) with
    |some (r,d)=>match aW s d.W d.m with
     |some s'=>some (r,d.ns,rs,s')
     |none=>none
    |none=>none
   |q=>match dq q f (ez s) rs with
    |some (r,d,mE)=>match aW s d.W d.m with
     |some s'=>some (r,d.ns,mE,s')
     |none=>none
    |none=>none
def Mt:QC->Option (Option (List QI) × List QI)
 |.skip=>some (none,[])
 |.bD false l=>some (none,l)
 |.seq (.bD false a) (.bD false l)=>some (some a,l)
 |_=>none
def Hb (rc:Rec) (n:Nat) (qa qb:QC) (F:Fr) (s:XS):XR:=match Mt qa with
 |some (none,l)=>rc true n (.bD false l [.seq qb]) F s
 |some (some a,l)=>match rc true n (.bD false a []) F s with
  |.dn .normal F1 s1=>match Nat.beq s1.lg.length s.lg.length with
   |true=>rc true n (.bD false l [.seq qb]) F1 s1
   |false=>.no
  |_=>.no
 |none=>.no
def vk (rc:Rec) (n B N:Nat) (qa:QC) (qb:QC) (ps:List Nat) (t:Tr AV):List (List AV × Bool)->XS->Option (Exit × XS)
 |[],s=>some (.normal,s)
 |(x,b)::rest,s=>match Nat.beq x.length ps.length && fD (iA 60) x with
  |true=>match Hb rc n qa qb ⟨vO t (ps.zip x),[]⟩ s with
   |.dn ex F s2=>match F.ds,PO B N s2 with
    |[],some s3=>match ex,b,rest with
     |.normal,true,rest=>vk rc n B N qa qb ps t rest s3
     |.ret,false,[]=>some (.ret,s3)
     |.exit id,false,[]=>some (.exit id,s3)
     |_,_,_=>none
    |_,_=>none
   |_=>none
  |false=>none
def VF (rc:Rec) (n B N:Nat) (qa:QC) (qb:QC) (ps:List Nat) (t:Tr AV):List (List AV × Bool)->XS->Nat->Option Nat
 |[],s,i=>none
 |(x,b)::rest,s,i=>match Hb rc n qa qb ⟨vO t (ps.zip x),[]⟩ s with
  |.dn ex F s2=>match ex with
   |.normal=>match PO B N s2 with
    |some s3=>VF rc n B N qa qb ps t rest s3 (i+1)
    |none=>none
   |_=>some i
  |_=>none
def Hc (E:Env) (rc:Rec) (g:Nat) (aZ9:List AV) (an:Nat):Option (List (List AV × Bool)):=match PV E rc g aZ9 ⟨.nil,1,1,some 0,an,[]⟩ with
 |some (_,s)=>some s.lg.reverse
 |none=>none
def He (B:Nat):List (Nat × AV)->Bool
 |[]=>true
 |p::l=>match rX B 60 p.2 with|true=>He B l|false=>false
def Hf (B:Nat) (s:XS):List (Nat × Option Ob)->Bool
 |[]=>true
 |p::l=>match Nat.blt p.1 B && (match p.2 with|some o=>Mk B o|none=>true) with|true=>Hf B s l|false=>false
def Mu (rc:Rec) (E:Env) (gid:Nat) (aZ9:List AV) (R:List (List AV × Bool)->Option (Exit × XS)) (C:List (List AV × Bool)->Option Nat):Option (Exit × XS):=match Hc E rc gid aZ9 1000000 with
 |some lg=>match R lg with
  |some q=>some q
  |none=>match C lg with
   |some i=>match Hc E rc gid aZ9 i with
    |some lg=>R lg
    |none=>none
   |none=>none
 |none=>none
def Mv (E:Env) (rc:Rec) (n:Nat) (a:AV) (ps:List Nat) (qa qb:QC) (F:Fr) (s:XS):Option (Exit × Fr × XS):=match a with
 |.fn (.func gid) first cap =>
  match fD (iA 60) first && fD (iA 60) cap && ps.all (Nat.blt · n) && !dZ s.yk s.nx && F.ds.all (Nat.blt · (s.nx+1)) && He (s.nx+1) (toLk F.t) && Hf (s.nx+1) s (toLk (j5 s .df).m) && mN (s.nx+1) [] (Bw (j5 s .df)) && (match s.yk with|some k=>Nat.blt k (s.nx+1)|none=>true) with
  |true =>
   match Mu rc E gid (first++[.yl 0]++cap) (fun lg=>vk rc n (s.nx+1) (s.nx+41) qa qb ps F.t lg ⟨(j5 s .df).m,s.nx+41,0,s.yk,s.an,s.lg⟩) (fun lg=>VF rc n (s.nx+1) (s.nx+41) qa qb ps F.t lg ⟨(j5 s .df).m,s.nx+41,0,s.yk,s.an,s.lg⟩ 0) with
   |some (ex,s')=>some (ex,⟨F.t,s.nx::F.ds⟩,s')
   |none=>none
  |false=>none
 |_=>none
def Mw (x:QO) (F:Fr) (s:XS):Option (Fr × XS):=match x with
 |.t t=>match en F.t t with
  |.fn f first cap=>match fD (iA 60) first && fD (iA 60) cap with
   |true=>none
   |false=>match GJ s [.fn f first cap] with
    |some ([a],s')=>some (⟨put F.t t a,F.ds⟩,s')
    |_=>none
  |_=>none
 |_=>none
def PY (s s':XS):Nat:=match Nat.beq s'.lg.length s.lg.length with|true=>s'.lw|false=>0
def kp (E:Env) (rc:Rec) (rd:Bool) (n:Nat):QF->Fr->XS->XR
 |.run c K,F,s=>match c with
  |.skip=>.mr (.out .normal K) F s
  |.bD true l=>.no
  |.bD false l=>.mr (.bD false l K) F s
  |.dJ V l=>match Ha s (gA l s.nx) with
   |some s'=>.mr (.dJ (s.nx+(gA l s.nx).length) V [] (gA l s.nx) l K) F ⟨s'.m,s.nx+(gA l s.nx).length,s'.lw,s'.yk,s'.an,s'.lg⟩
   |none=>.no
  |.seq a c=>.mr (.run a (.seq c::K)) F s
  |.cond x a c=>match x.ev (en F.t) with
   |.v (.bool true)=>.mr (.run a K) F s
   |.v (.bool false)=>.mr (.run c K) F s
   |_=>.no
  |.block id c=>.mr (.run c (.qY id::K)) F s
  |.scope c=>.mr (.run c (.uc::K)) F s
  |.loop c=>match G_ (fun F s=>rc rd n (.run c []) F s) 400 F s with
   |some (ex,F',s')=>.mr (.out ex K) F' s'
   |none=>.no
  |.exit id=>.mr (.out (.exit id) K) F s
  |.ret=>.mr (.out .ret K) F s
  |.sR x ps a c=>match Mw x F s with
   |some (F',s')=>.mr (.run (.sR x ps a c) K) F' s'
   |none=>match rd,Mv E rc n (x.ev (en F.t)) ps a c F s with
    |false,some (ex,F',s')=>.mr (.out ex K) F' s'
    |_,_=>.no
  |_=>.no
 |.out ex K,F,s=>match K with
  |[]=>.dn ex F s
  |.seq c::K=>match ex with
   |.normal=>.mr (.run c K) F s
   |e=>.mr (.out e K) F s
  |.qY id::K=>match ex with
   |.exit j=>match Nat.beq j id with
    |true=>.mr (.out .normal K) F s
    |false=>.mr (.out (.exit j) K) F s
   |e=>.mr (.out e K) F s
  |.uc::K=>match ex with
   |.goto _=>.no
   |e=>.mr (.out e K) F s
 |.bD true l K,F,s=>.no
 |.bD false l K,F,s=>match l with
  |[]=>.mr (.out .normal K) F s
  |i::l=>match cj (en F.t) i.g with
   |some true=>match PW E rc (z5 i.d l) i.q (en F.t) s with
    |some (r,s')=>.mr (.bD false l K) ⟨th i.d F.t r,F.ds⟩ s'
    |none=>.no
   |some false=>.mr (.bD false l K) ⟨th i.d F.t (.v undef),F.ds⟩ s
   |none=>.no
 |.dJ B V lg rs l K,F,s=>match l with
  |[]=>match Mq V lg with
   |true=>.mr (.out .normal K) F s
   |false=>.no
  |i::l=>match cj (en F.t) i.g with
   |some true=>match (match Dw i.q || inV lg.length V with|true=>PX E rc (z5 i.d l) i.q (en F.t) s rs|false=>none) with
    |some (r,ns,mE,s')=>match AT ns with
     |none=>.mr (.dJ B V (lg++[ns]) mE l K) ⟨th i.d F.t r,F.ds⟩ s'
     |some _=>.no
    |none=>match Dw i.q with
     |true=>.no
     |false=>match PW E rc (z5 i.d l) i.q (vT (yV (lX i.q)) (en F.t)) ⟨s.m,s.nx,s.nx,s.yk,s.an,s.lg⟩ with
      |some (r,s')=>.mr (.dJ B V (lg++[([PY s s'],[],true)]) rs l K) ⟨th i.d F.t r,F.ds⟩ ⟨s'.m,s'.nx,Nat.min s.lw s'.lw,s'.yk,s'.an,s'.lg⟩
      |none=>.no
   |some false=>.mr (.dJ B V (lg++[([],[],false)]) rs l K) ⟨th i.d F.t (.v undef),F.ds⟩ s
   |none=>.no
def Km (f:QF->Fr->XS->XR):Nat->QF->Fr->XS->XR
 |0,c,t,s=>f c t s
 |k+1,c,t,s=>match Km f k c t s with
  |.mr c t s=>Km f k c t s
  |r=>r
def FH (E:Env):Nat->Rec
 |0=>fun _ _ _ _ _=>.no
 |m+1=>fun rd n c F s=>Km (kp E (FH E m) rd n) 14 c F s
section
set_option maxRecDepth 100000
attribute [local irreducible] ah bc ad ab
def VG:CF Tryz.f37:=⟨_,by conv=>lhs;cbv⟩
theorem acv:aH Tryz.prog 37 VG.1 Tryz.f37.ntmps:=aQ Tryz.func37 VG.2 Tryz.call37
def fY:List Nat:=[0,1,2,7,8,9,6,22,26,36,40,49,53,62]
def VH:CF Tryz.f36:=⟨_,by conv=>lhs;cbv⟩
theorem acw:aH Tryz.prog 36 VH.1 Tryz.f36.ntmps:=aQ Tryz.func36 VH.2 Tryz.call36
def nC:List Nat:=[4,1,3,2,0,14,19,58,80]
def rE (x:At):Bool:=pA x.a
def ou (x:Gl):Bool:=pA x.a
def Hg (x:Im):Bool:=pA x.a
section
variable {w0:World}{ρ:Hd}
theorem Fx (l:List At) (hl:l.length<=1099511627776) (VI:∀ x ∈ l,mI x.a):ah Tryz.prog w0 94 [eO ρ l] (.v (.bool (l.all rE))):=by
 obtain⟨R,hR⟩:∃ R,R=l.all rE:=⟨_,rfl⟩
 rw [<-hR]
 refine aco.aG (by simp [Tryz.ntmps94]) (.v) ?_
 refine gq tS ?_
 refine ab.aP (σ:=Int) 0 0 [] (fun i=>[(0,eO ρ l),(3,.v (.int .i64 i))]) [] (fun _=>[]) (fun i=>∃ k:Nat,i=k/\k<=l.length/\R=(l.drop k).all rE) (fun i=>l.length - i.toNat) 0 ⟨0,rfl,by simp,by simpa using hR⟩ rfl cq ?_
 rintro i ⟨k,hi,hk,hp⟩
 clear hR
 refine gq tS ?_
 by_cases au:k < l.length
 ·obtain⟨x,hx,aO⟩:=az au
  have dV:=VI x (aY hx)
  have hT:=Ds (w0:=w0) (ρ:=ρ) x.a dV.len dV.2
  rw [aO,List.all_cons,rE] at hp
  obtain⟨B,hB⟩:∃ B,B=pA x.a:=⟨_,rfl⟩
  rw [<-hB] at hp hT
  obtain⟨xn,xa⟩:=x
  repeat' (first
   |(refine ab.op rfl (ad.ind rfl rfl (ay (l:=l) hi hx) (aw fun _=>rfl)) ?_;refine gq tS ?_)
   |(refine ab.a_ rfl (ad.ag rfl hT ⟨bC _,trivial⟩) (fun _=>?_) (fun _=>?_)<;>refine gq tS ?_)
   |(refine bq (fun hb=>?_) (fun hb=>?_)<;>(try simp only [aq] at hb)<;>(first|refine gq tS ?_))
   |(refine aB fun m hm=>?_;(try rw [af] at hm);refine gq tS ?_)
   |(refine aS fun _ _=>?_;refine gq tS ?_)
   |(refine ab.ao ?_;refine gq tS ?_)
   |(refine ab.bJ ?_;refine gq tS ?_)
   |(refine fq ?_))
  all_goals first
   |(exfalso;omega)
   |(rw [hp,show B=false by assumption];exact aC rfl)
   |(rw [show B=true by assumption,Bool.true_and] at hp;(refine ab.aL (σ:=Int) _ [] ?_ ?_ cq<;>first|omega|exact⟨k+1,by omega,by omega,hp⟩))
 ·skip
  repeat' (first
   |(refine bq (fun hb=>?_) (fun hb=>?_)<;>(try simp only [aq] at hb)<;>(first|refine gq tS ?_))
   |(refine aB fun m hm=>?_;(try rw [af] at hm);refine gq tS ?_)
   |(refine ab.ao ?_;refine gq tS ?_)
   |(refine fq ?_))
  all_goals first
   |(exfalso;omega)
   |(rw [hp,List.drop_eq_nil_of_le (by omega)];exact aC rfl)
theorem tA (l:List Gl) (n:Int) (hl:l.length<=1099511627776) (VI:∀ x ∈ l,mI x.a):ah Tryz.prog w0 17 [cO ρ l,iv n] (.v (.bool (decide ((l.length:Int)<=n) && l.all ou))):=by
 obtain⟨R,hR⟩:∃ R,R=(decide ((l.length:Int)<=n) && l.all ou):=⟨_,rfl⟩
 rw [<-hR]
 refine acp.aG (by simp [Tryz.ntmps17]) (.v) ?_
 refine gq rC ?_
 repeat' (first
  |(refine bq (fun hb=>?_) (fun hb=>?_)<;>(try simp only [aq] at hb)<;>(first|refine gq rC ?_))
  |(refine aB fun m hm=>?_;(try rw [af] at hm);refine gq rC ?_)
  |(refine fq ?_))
 ·rw [hR,decide_eq_false (by omega)];exact aC rfl
 rw [decide_eq_true (by omega),Bool.true_and] at hR
 refine ab.aP (σ:=Int) 0 0 [] (fun i=>[(0,cO ρ l),(5,.v (.int .i64 i))]) [] (fun _=>[]) (fun i=>∃ k:Nat,i=k/\k<=l.length/\R=(l.drop k).all ou) (fun i=>l.length - i.toNat) 0 ⟨0,rfl,by simp,by simpa using hR⟩ rfl cq ?_
 rintro i ⟨k,hi,hk,hp⟩
 clear hR
 refine gq rC ?_
 by_cases au:k < l.length
 ·obtain⟨x,hx,aO⟩:=az au
  have dV:=VI x (aY hx)
  have hT:=Ds (w0:=w0) (ρ:=ρ) x.a dV.len dV.2
  rw [aO,List.all_cons,ou] at hp
  obtain⟨B,hB⟩:∃ B,B=pA x.a:=⟨_,rfl⟩
  rw [<-hB] at hp hT
  obtain⟨xo,xn,xa⟩:=x
  repeat' (first
   |(refine ab.op rfl (ad.ind rfl rfl (ay (l:=l) hi hx) (aw fun _=>rfl)) ?_;refine gq rC ?_)
   |(refine ab.a_ rfl (ad.ag rfl hT ⟨bC _,trivial⟩) (fun _=>?_) (fun _=>?_)<;>refine gq rC ?_)
   |(refine bq (fun hb=>?_) (fun hb=>?_)<;>(try simp only [aq] at hb)<;>(first|refine gq rC ?_))
   |(refine aB fun m hm=>?_;(try rw [af] at hm);refine gq rC ?_)
   |(refine aS fun _ _=>?_;refine gq rC ?_)
   |(refine ab.ao ?_;refine gq rC ?_)
   |(refine ab.bJ ?_;refine gq rC ?_)
   |(refine fq ?_))
  all_goals first
   |(exfalso;omega)
   |(rw [hp,show B=false by assumption];exact aC rfl)
   |(rw [show B=true by assumption,Bool.true_and] at hp;(refine ab.aL (σ:=Int) _ [] ?_ ?_ cq<;>first|omega|exact⟨k+1,by omega,by omega,hp⟩))
 ·skip
  repeat' (first
   |(refine bq (fun hb=>?_) (fun hb=>?_)<;>(try simp only [aq] at hb)<;>(first|refine gq rC ?_))
   |(refine aB fun m hm=>?_;(try rw [af] at hm);refine gq rC ?_)
   |(refine ab.ao ?_;refine gq rC ?_)
   |(refine fq ?_))
  all_goals first
   |(exfalso;omega)
   |(rw [hp,List.drop_eq_nil_of_le (by omega)];exact aC rfl)
end
end
end Go.Proofs.YtbofilglphfceaaGreat
