import Derived.Test.YtgjfgekaclobaaaGreatCa41
namespace Go.Proofs.YtgjfgekaclobaaaGreat
set_option linter.unusedVariables false
set_option linter.unusedSimpArgs false
open Go.RowKit
def ct (T:Tables) (n:Nat):Code->Option QC
 |.skip=>some .skip
 |.label _=>some .skip
 |.region _ ops dr=>match lF T n ops.toList ops.toList with
  |some l=>match dr with
   |false=>some (.aU false l)
   |true=>match o5 ops with
    |true=>some (.dB (uS ops) l)
    |false=>none
  |none=>none
 |.seq a b=>match ct T n a,ct T n b with
  |some a',some b'=>some (.seq a' b')
  |_,_=>none
 |.cond c a b=>match ct T n a,ct T n b with
  |some a',some b'=>some (.cond (qo c) a' b')
  |_,_=>none
 |.block id a=>match ct T n a with
  |some a'=>some (.block id a')
  |none=>none
 |.scope a=>match ct T n a with
  |some a'=>some (.scope a')
  |none=>none
 |.loop a=>match ct T n a with
  |some a'=>some (.loop a')
  |none=>none
 |.exit id=>some (.exit id)
 |.ret=>some .ret
 |.rangeFunc f ps a b=>match ct T n a,ct T n b with
  |some a',some b'=>some (.uP (qo f) ps.toList a' b')
  |_,_=>none
 |c=>some (.raw c)
def inV (i:Nat):List (Nat × Nat)->Bool
 |[]=>false
 |p::V=>match Nat.beq p.1 i with
  |true=>true
  |false=>match Nat.beq p.2 i with|true=>true|false=>inV i V
def Ex (x y:List Nat × List Nat × Bool):Bool:=match Et x,Et y with
 |none,none=>dj x y
 |some l,none=>Es y l
 |none,some l=>Es x l
 |some _,some _=>false
def R6 (V:List (Nat × Nat)) (lg:List (List Nat × List Nat × Bool)):Bool:=V.all fun p=>Ex (wo lg p.1) (wo lg p.2)
def Dt.ok (d:Dt):Prop:=Et d.ns=none
theorem abv {d e:Dt × Option mX}(h1:d.2=none->d.1.ok) (h2:e.2=none->e.1.ok) (h:Ex (zL d) (zL e)=true):Da d e:=by
 obtain⟨d,x⟩:=d
 obtain⟨e,y⟩:=e
 cases x with
 |none =>
  have q1:Et d.ns=none:=h1 rfl
  cases y with
  |none =>
   have q2:Et e.ns=none:=h2 rfl
   simp only [Ex,zL,q1,q2] at h
   exact h
  |some l =>
   have h:Ex d.ns (l.1::l.2,[],true)=true:=h
   unfold Ex at h
   rw [q1] at h
   exact h
 |some l =>
  cases y with
  |none =>
   have q2:Et e.ns=none:=h2 rfl
   have h:Ex (l.1::l.2,[],true) e.ns=true:=h
   unfold Ex at h
   rw [q2] at h
   exact h
  |some l'=>simp only [Ex,zL,Et] at h;cases h
section
variable (P:Program) (w0:World) (rd:Bool) (n:Nat)
def jy (b:QC) (Q:Exit->AA->ad->Prop) (α:AA) (S:ad):Prop:=∀ c,ct P.toTables n c=some b->cI P c=true->Wp P w0 rd n c Q α S
def jo (Q:Exit->AA->ad->Prop):List fc->Exit->AA->ad->Prop
 |[]=>Q
 |.seq b::K=>fun ex α S=>match ex with|.normal=>jy P w0 rd n b (jo Q K) α S|e=>jo Q K e α S
 |.oS id::K=>fun ex α S=>match ex with|.exit j=>(match Nat.beq j id with|true=>jo Q K .normal α S|false=>jo Q K (.exit j) α S)|e=>jo Q K e α S
 |.wj::K=>fun ex α S=>match ex with|.goto _=>False|e=>jo Q K e α S
def yf (B:Nat) (V:List (Nat × Nat)) (lg:List (List Nat × List Nat × Bool)) (l:List QI) (Q:AA->ad->Prop) (α:AA) (S:ad):Prop :=
 ∀ ops:List Oper,lF P.toTables n ops (ops.drop lg.length)=some l->uS ops.toArray=V->∃ (D:Nat->Dt × Option mX) (aw:AA) (S':ad),iV P w0 n ops.toArray B D (List.range' lg.length l.length) α S aw S' /\
  R6 V (lg++(List.range' lg.length l.length).map fun i=>zL (D i))=true/\(∀ i ∈ List.range' lg.length l.length,(D i).2=none->(D i).1.ok)/\Q aw S'
def b_ (Q:Exit->AA->ad->Prop):QF->AA->ad->Prop
 |.run c K,α,S=>jy P w0 rd n c (jo P w0 rd n Q K) α S
 |.out ex K,α,S=>jo P w0 rd n Q K ex α S
 |.aU dr l K,α,S=>match dr with
  |false=>eH P w0 n false l (fun α S=>jo P w0 rd n Q K .normal α S) (fun ch α S=>jo P w0 rd n Q K (.panic ch) α S) α S
  |true=>False
 |.dB B V lg rs l K,α,S=>(∀ k ∈ rs,k < B)->B<=S.nx->yf P w0 n B V lg l (fun α S=>jo P w0 rd n Q K .normal α S) α S
end
section
variable {P:Program}{w0:World}{rd:Bool}{n:Nat}{α aw:AA}{S S':ad}{Q Q':Exit->AA->ad->Prop}{ex:Exit}{r:AV}{i:QI}{l:List QI}{R:AA->ad->Prop}
theorem Ey {c:Code}{dr:Bool}(h:ct P.toTables n c=some (.aU dr l)):∃ id ops,c=.region id ops false/\dr=false/\lF P.toTables n ops.toList ops.toList=some l:=by
 cases c<;>simp only [ct] at h<;>(repeat' split at h)<;>(try cases h)
 ·exact⟨_,_,rfl,rfl,by assumption⟩
theorem Pz {c:Code}{V:List (Nat × Nat)}(h:ct P.toTables n c=some (.dB V l)):∃ id ops,c=.region id ops true/\lF P.toTables n ops.toList ops.toList=some l/\o5 ops=true/\V=uS ops:=by
 cases c<;>simp only [ct] at h<;>(repeat' split at h)<;>(try cases h)
 ·exact⟨_,_,rfl,by assumption,by assumption,rfl⟩
theorem Ez {c:Code}{a b:QC}(h:ct P.toTables n c=some (.seq a b)):∃ c1 c2,c=.seq c1 c2/\ct P.toTables n c1=some a/\ct P.toTables n c2=some b:=by
 cases c<;>simp only [ct] at h<;>(repeat' split at h)<;>(try cases h)
 ·exact⟨_,_,rfl,by assumption,by assumption⟩
theorem KO {c:Code}{x:QO}{a b:QC}(h:ct P.toTables n c=some (.cond x a b)):∃ y c1 c2,c=.cond y c1 c2/\qo y=x/\ct P.toTables n c1=some a/\ct P.toTables n c2=some b:=by
 cases c<;>simp only [ct] at h<;>(repeat' split at h)<;>(try cases h)
 ·exact⟨_,_,_,rfl,rfl,by assumption,by assumption⟩
theorem H7 {c:Code}{id:Nat}{a:QC}(h:ct P.toTables n c=some (.block id a)):∃ c1,c=.block id c1/\ct P.toTables n c1=some a:=by
 cases c<;>simp only [ct] at h<;>(repeat' split at h)<;>(try cases h)
 ·exact⟨_,rfl,by assumption⟩
theorem H8 {c:Code}{a:QC}(h:ct P.toTables n c=some (.scope a)):∃ c1,c=.scope c1/\ct P.toTables n c1=some a:=by
 cases c<;>simp only [ct] at h<;>(repeat' split at h)<;>(try cases h)
 ·exact⟨_,rfl,by assumption⟩
theorem KP {c:Code}{a:QC}(h:ct P.toTables n c=some (.loop a)):∃ c1,c=.loop c1/\ct P.toTables n c1=some a:=by
 cases c<;>simp only [ct] at h<;>(repeat' split at h)<;>(try cases h)
 ·exact⟨_,rfl,by assumption⟩
theorem KQ {c:Code}{x:QO}{ps:List Nat}{a b:QC}(h:ct P.toTables n c=some (.uP x ps a b)):∃ y pt c1 c2,c=.rangeFunc y pt c1 c2/\qo y=x/\pt.toList=ps/\ct P.toTables n c1=some a/\ct P.toTables n c2=some b:=by
 cases c<;>simp only [ct] at h<;>(repeat' split at h)<;>(try cases h)
 ·exact⟨_,_,_,_,rfl,rfl,rfl,by assumption,by assumption⟩
theorem pF {c:Code}:(ct P.toTables n c=some .skip->N0 c)/\(ct P.toTables n c=some .ret->c=.ret)/\∀ id,ct P.toTables n c=some (.exit id)->c=.exit id:=by
 refine⟨fun h=>?_,fun h=>?_,fun id h=>?_⟩
 all_goals
  cases c<;>simp only [ct] at h<;>(repeat' split at h)<;>(try cases h)<;>first|rfl|exact .inl rfl|exact .inr ⟨_,rfl⟩
theorem jy.seq {a b:QC}(h:jy P w0 rd n a (fun ex α S=>match ex with|.normal=>jy P w0 rd n b Q α S|e=>Q e α S) α S):jy P w0 rd n (.seq a b) Q α S:=by
 intro c hc hd
 obtain⟨c1,c2,rfl,h1,h2⟩:=Ez hc
 simp only [cI,Bool.and_eq_true] at hd
 refine Wp.seq ?_
 obtain⟨ex,bE,bT,h3,h4⟩:=h c1 h1 hd.1
 refine⟨ex,bE,bT,h3,?_⟩
 cases ex with
 |normal=>exact h4 c2 h2 hd.2
 |_=>exact h4
theorem jy.cond {x:QO}{a b:QC}{t:Bool}(hx:x.ev α.tm=.v (.bool t)) (h:jy P w0 rd n (if t then a else b) Q α S):jy P w0 rd n (.cond x a b) Q α S:=by
 intro c hc hd
 obtain⟨y,c1,c2,rfl,rfl,h1,h2⟩:=KO hc
 simp only [cI,Bool.and_eq_true] at hd
 refine Wp.cond (by rw [TH];exact hx) ?_
 cases t with
 |true=>exact h c1 h1 hd.1
 |false=>exact h c2 h2 hd.2
theorem jy.scope {a:QC}(h:jy P w0 rd n a (fun ex α S=>match ex with|.goto _=>False|e=>Q e α S) α S):jy P w0 rd n (.scope a) Q α S:=by
 intro c hc hd
 obtain⟨c1,rfl,h1⟩:=H8 hc
 obtain⟨ex,bE,bT,h2,h3⟩:=h c1 h1 hd
 cases ex with
 |goto l=>exact h3.elim
 |_=>exact⟨_,bE,bT,cu.scope h2 (fun l e=>by cases e),h3⟩
theorem jy.block {id:Nat}{a:QC}(h:jy P w0 rd n a (fun ex α S=>match ex with|.exit j=>(match Nat.beq j id with|true=>Q .normal α S|false=>Q (.exit j) α S)|e=>Q e α S) α S):jy P w0 rd n (.block id a) Q α S:=by
 intro c hc hd
 obtain⟨c1,rfl,h1⟩:=H7 hc
 exact Wp.block (h c1 h1 hd)
theorem jy.aU (h:eH P w0 n false l (fun α S=>Q .normal α S) (fun ch α S=>Q (.panic ch) α S) α S):jy P w0 rd n (.aU false l) Q α S:=by
 intro c hc hd
 obtain⟨id,ops,rfl,_,h1⟩:=Ey hc
 rcases h _ _ h1 0 rfl with ⟨aw,S',h3,h4⟩|⟨ch,aw,S',h3,h4⟩
 ·rw [Array.length_toList,<-List.range_eq_range'] at h3
  exact⟨_,aw,S',cu.region h3,h4⟩
 ·rw [Array.length_toList,<-List.range_eq_range'] at h3
  exact⟨.panic ch,aw,S',fun F m A g a w hF hR hS hA=>wpIn_region (h3 F m A g a w _ hF hS hA fun a' w' g' q1 q2 q3=>⟨rfl,g',q1,q2,q3⟩),h4⟩
theorem G9 {ops:List Oper}:∀ {rest:List Oper}{l:List QI},lF P.toTables n ops rest=some l->l.length=rest.length
 |[],l,h=>by obtain rfl:=oJ_ h;rfl
 |o::rest,l,h=>by
  cases l with
  |nil =>
   exfalso
   simp only [lF] at h
   split at h
   ·split at h
    ·cases h
    ·split at h<;>cases h
   ·cases h
  |cons i l =>
   obtain⟨o',kK,e,h3,_⟩:=lW (α:=⟨fun _=>.u,[]⟩) h
   injection e with e1 e2
   subst e1 e2
   simp [G9 h3]
theorem G_ {ops:Array Oper}{m:List Nat}:∀ {k:Nat}{q:Nat × Nat},q ∈ sC ops m k->q.1 < k/\q.2 < k
 |0,q,h=>by cases h
 |k+1,q,h=>by
  simp only [sC,List.mem_append,List.mem_map,List.mem_filter,List.mem_range] at h
  rcases h with ⟨x,⟨hx,_⟩,rfl⟩|h
  ·exact⟨by simp only;omega,by simp only;omega⟩
  ·have:=G_ h;omega
theorem jy.dB {V:List (Nat × Nat)}(h:(∀ k ∈ iA l S.nx,k < S.nx+(iA l S.nx).length)->S.nx+(iA l S.nx).length<=(uT S l).nx->yf P w0 n (S.nx+(iA l S.nx).length) V [] l (fun α S=>Q .normal α S) α (uT S l)):jy P w0 rd n (.dB V l) Q α S:=by
 intro c hc hd
 obtain⟨id,ops,rfl,h1,h2,rfl⟩:=Pz hc
 simp only [cI,Bool.and_eq_true] at hd
 have hl:l.length=ops.size:=by rw [G9 h1];simp
 obtain⟨D,aw,S',h3,h4,h6,h5⟩:=h (fun k hk=>(rE hk).2) (by cases S;exact Nat.le_refl _) ops.toList h1 rfl
 simp only [List.length_nil,hl,List.nil_append] at h3 h4 h6
 rw [<-List.range_eq_range'] at h3 h4 h6
 refine⟨.normal,aw,S',fun F m A g a w hF hR hS hA=>?_,h5⟩
 refine cu.aej hd.1 h2 (fun p hp=>?_) h3 F m A g a w hF hR (hS.rsv l) hA
 obtain⟨k1,k2⟩:=G_ (List.mem_filter.1 hp).1
 have get:∀ i,i < ops.size->wo ((List.range ops.size).map fun i=>zL (D i)) i=zL (D i):=fun i hi=>by
  unfold wo
  rw [List.getD_eq_getElem?_getD,List.getElem?_map,List.getElem?_range hi]
  rfl
 have h7:=List.all_eq_true.1 h4 p hp
 rw [get _ k1,get _ k2] at h7
 exact abv (h6 _ (List.mem_range.2 k1)) (h6 _ (List.mem_range.2 k2)) h7
theorem jy.done {a:QC}(hd:∀ c,ct P.toTables n c=some a->Wp P w0 rd n c Q α S):jy P w0 rd n a Q α S:=fun c hc _=>hd c hc
variable {K:List fc}
theorem b_.skip (h:b_ P w0 rd n Q (.out .normal K) α S):b_ P w0 rd n Q (.run .skip K) α S:=jy.done fun c hc=>Wp.of (cu.skip (pF.1 hc)) h
theorem b_.exit_ {id:Nat}(h:b_ P w0 rd n Q (.out (.exit id) K) α S):b_ P w0 rd n Q (.run (.exit id) K) α S:=jy.done fun c hc=>by rw [pF.2.2 _ hc];exact Wp.of (cu.exit_ _) h
theorem b_.akq (h:b_ P w0 rd n Q (.out .ret K) α S):b_ P w0 rd n Q (.run .ret K) α S:=jy.done fun c hc=>by rw [pF.2.1 hc];exact Wp.of cu.ret h
theorem b_.seq {a b:QC}(h:b_ P w0 rd n Q (.run a (.seq b::K)) α S):b_ P w0 rd n Q (.run (.seq a b) K) α S:=jy.seq h
theorem b_.cond {x:QO}{a b:QC}{t:Bool}(hx:x.ev α.tm=.v (.bool t)) (h:b_ P w0 rd n Q (.run (if t then a else b) K) α S):b_ P w0 rd n Q (.run (.cond x a b) K) α S:=jy.cond hx h
theorem b_.scope {a:QC}(h:b_ P w0 rd n Q (.run a (.wj::K)) α S):b_ P w0 rd n Q (.run (.scope a) K) α S:=jy.scope h
theorem b_.block {id:Nat}{a:QC}(h:b_ P w0 rd n Q (.run a (.oS id::K)) α S):b_ P w0 rd n Q (.run (.block id a) K) α S:=jy.block h
theorem b_.aU (h:b_ P w0 rd n Q (.aU false l K) α S):b_ P w0 rd n Q (.run (.aU false l) K) α S:=jy.aU h
theorem b_.dB {V:List (Nat × Nat)}(h:b_ P w0 rd n Q (.dB (S.nx+(iA l S.nx).length) V [] (iA l S.nx) l K) α (uT S l)):b_ P w0 rd n Q (.run (.dB V l) K) α S:=jy.dB fun h1 h2=>h h1 h2
theorem b_.fin (h:b_ P w0 rd n Q (.out .normal K) α S):b_ P w0 rd n Q (.aU false [] K) α S:=by
 show eH P w0 n false [] _ _ α S
 exact eH.nil h
theorem b_.op (hw:bD α.tm i.g=some true) (h:ae P w0 false i.q α S r S') (k:b_ P w0 rd n Q (.aU false l K) (bS i.d α r) S'):b_ P w0 rd n Q (.aU false (i::l) K) α S:=by
 show eH P w0 n false (i::l) _ _ α S
 exact eH.op hw h k
theorem b_.no (hw:bD α.tm i.g=some false) (k:b_ P w0 rd n Q (.aU false l K) (bS i.d α (.v undef)) S):b_ P w0 rd n Q (.aU false (i::l) K) α S:=by
 show eH P w0 n false (i::l) _ _ α S
 exact eH.skip hw k
theorem b_.cv {c:QC}(h:Cv w0 n α S aw S') (k:b_ P w0 rd n Q (.run c K) aw S'):b_ P w0 rd n Q (.run c K) α S:=by
 intro c0 hc hd
 obtain⟨ex,bE,bT,h1,h2⟩:=k c0 hc hd
 exact⟨ex,bE,bT,h1.cv h,h2⟩
theorem iV.congr {ops:Array Oper}{B:Nat}{D D':Nat->Dt × Option mX}:∀ {L:List Nat}{α aw:AA}{S S':ad},(∀ i ∈ L,D i=D' i)->iV P w0 n ops B D L α S aw S'->iV P w0 n ops B D' L α S aw S'
 |[],_,_,_,_,_,.nil ..=>.nil ..
 |i::rest,_,_,_,_,he,.cons h t=>.cons (by rw [<-he i (by simp)];exact h) (t.congr fun j hj=>he j (by simp [hj]))
theorem yf.step {B:Nat}{V:List (Nat × Nat)}{lg:List (List Nat × List Nat × Bool)}{d:Dt × Option mX}{α1:AA}{S1:ad}(hx:d.2=none->d.1.ok)
  (hg:∀ ops o rest,ops.drop lg.length=o::rest->nv n o.dst=true->o.dst=i.d->res P.toTables o.op=some i.q->(∀ b,bD α.tm i.g=some b->ig ops α o=some b)->G6 P w0 n ops.toArray B lg.length d α S α1 S1)
  (k:yf P w0 n B V (lg++[zL d]) l R α1 S1):yf P w0 n B V lg (i::l) R α S:=by
 intro ops hr hV
 obtain⟨o,rest,h1,h2,h3,h4,h5,h6⟩:=lW (α:=α) hr
 obtain⟨h7,h8⟩:=lY h1
 obtain⟨D,aw,S',k1,k2,k4,k3⟩:=k ops (by rw [List.length_append,List.length_singleton,h8];exact h2) hV
 simp only [List.length_append,List.length_singleton] at k1 k2 k4
 refine⟨fun i=>if i=lg.length then d else D i,aw,S',?_,?_,?_,k3⟩
 ·rw [List.length_cons,List.range'_succ]
  refine .cons (by rw [if_pos rfl];exact hg ops o rest h1 h3 h4 h5 h6) (k1.congr fun i hi=>?_)
  have:=(List.mem_range'_1.1 hi).1
  rw [if_neg (by omega)]
 ·rw [List.length_cons,List.range'_succ,List.map_cons]
  simp only [if_pos]
  have e:((List.range' (lg.length+1) l.length).map fun i=>zL (if i=lg.length then d else D i))=(List.range' (lg.length+1) l.length).map fun i=>zL (D i):=List.map_congr_left fun i hi=>by
   have:=(List.mem_range'_1.1 hi).1
   rw [if_neg (by omega)]
  rw [e]
  rw [List.append_assoc] at k2
  exact k2
 ·intro j hj hb
  rw [List.length_cons,List.range'_succ] at hj
  rcases List.mem_cons.1 hj with rfl|hj
  ·show ((if lg.length=lg.length then d else D lg.length):Dt × Option mX).1.ok
   have hb:((if lg.length=lg.length then d else D lg.length):Dt × Option mX).2=none:=hb
   rw [if_pos rfl] at hb ⊢
   exact hx hb
  ·have:=(List.mem_range'_1.1 hj).1
   show ((if j=lg.length then d else D j):Dt × Option mX).1.ok
   have hb:((if j=lg.length then d else D j):Dt × Option mX).2=none:=hb
   rw [if_neg (by omega)] at hb ⊢
   exact k4 j hj hb
theorem b_.lP {B:Nat}{V:List (Nat × Nat)}{lg:List (List Nat × List Nat × Bool)}{rs:List Nat}{d:Dt}(hw:bD α.tm i.g=some true) (lN:d.ok) (h:bc P w0 B i.q α S r d) (k:b_ P w0 rd n Q (.dB B V (lg++[d.ns]) rs l K) (bS i.d α r) (cY S d.W d.m)):b_ P w0 rd n Q (.dB B V lg rs (i::l) K) α S:=by
 intro jb hB
 refine yf.step (d:=(d,none)) (fun _=>lN) (fun ops o rest h1 h2 h3 h4 h5=>?_) (k jb (by rw [dI];exact Nat.le_trans hB (Nat.le_add_right _ _)))
 obtain⟨k1,k2,k3⟩:=h n o h4
 exact⟨o,(lY h1).1,h2,k1,hB,k2,rfl,.inr ⟨(AW (h5 _ hw)).1 rfl,r,by rw [o6,<-h3];cases o.dst<;>rfl,fun T hb ht hm=>k3 T hb ht hm⟩⟩
theorem b_.dno {B:Nat}{V:List (Nat × Nat)}{lg:List (List Nat × List Nat × Bool)}{rs:List Nat}(hw:bD α.tm i.g=some false) (k:b_ P w0 rd n Q (.dB B V (lg++[([],[],false)]) rs l K) (bS i.d α (.v undef)) S):b_ P w0 rd n Q (.dB B V lg rs (i::l) K) α S:=by
 intro jb hB
 refine yf.step (d:=(.none_,none)) (fun _=>rfl) (fun ops o rest h1 h2 h3 h4 h5=>?_) (k jb hB)
 obtain⟨j,want,c,e1,e2,e3⟩:=(AW (h5 _ hw)).2 rfl
 exact⟨o,(lY h1).1,h2,fun _=>rfl,hB,(show fu S [] from fun p hp=>by cases hp),cG.symm,.inl ⟨j,want,c,e1,e2,e3,by rw [o6,<-h3];cases o.dst<;>rfl,rfl⟩⟩
def Ha:dp->Bool
 |.mv _|.pick ..|.build ..|.rows ..|.bin ..|.eqs ..|.not _|.neg _|.conv ..|.qL _|.R7 _|.yH ..|.field ..|.ny ..|.pK ..|.wD ..|.nI ..|.slice ..|.extract ..|.Fv ..|.yI _|.len ..|.min ..|.max ..=>true
 |_=>false
theorem YB {o:Op}{q:dp}(h:res P.toTables o=some q) (hq:Ha q=false):nO o=false:=by
 refine rh ?_
 cases o<;>simp only [res] at h<;>(repeat' split at h)<;>(try cases h)<;>first|rfl|(cases hq;done)|(simp only [lX, *])
def nu:dp->List QO
 |.mv x|.box x|.not x|.neg x|.conv _ x|.qL x|.yH _ x|.field _ _ x|.wJ x|.qM x|.yI x|.R7 x|.wB x|.CG _ x|.uE _ x|.pZ x|.cap x|.extract x _|.len _ x|.load _ x=>[x]
 |.store _ a b|.bin _ _ a b|.ny _ a b|.pK _ _ a b|.wD a b|.nI _ _ _ a b|.append _ _ a b|.min a b|.max a b|.look _ _ a b|.eqs _ a b|.del a b|.copy _ a b|.fm _ _ _ a b|.vn _ a b|.im _ _ a b|.C8 _ _ a b=>[a,b]
 |.pick a b c|.jf a b c|.lS _ a b c|.vo a b c=>[a,b,c]
 |.slice _ x a b c=>[x]++a.toList++b.toList++c.toList
 |.call f aZ9=>f::aZ9
 |.fk x=>x.toList
 |_=>[]
def B9:List QO->List Nat
 |[]=>[]
 |.t n::l=>n::B9 l
 |.c _::l=>B9 l
theorem Dg {t:Nat}:∀ {l:List QO},t ∈ B9 l->QO.t t ∈ l
 |[],h=>by cases h
 |.t n::l,h=>by
  rcases List.mem_cons.1 h with rfl|h
  ·exact List.mem_cons_self
  ·exact List.mem_cons_of_mem _ (Dg h)
 |.c a::l,h=>List.mem_cons_of_mem _ (Dg (l:=l) h)
theorem R8 {o:Op}{q:dp}(hq:Ha q=false) (h:res P.toTables o=some q):∀ x ∈ nu q,∃ y ∈ o.operands,x=qo y:=by
 have arr:∀ {c:Call}{x:Operand},x ∈ c.args.toList->x ∈ c.operands:=fun {c x} hx=>by
  have:=Array.mem_toList_iff.1 hx
  unfold Call.operands
  split<;>simp [this]
 have opt:∀ {z:Option Operand}{x:QO},x ∈ (z.map qo).toList->∃ y,z=some y/\x=qo y:=by
  intro z x hx
  cases z with
  |none=>simp at hx
  |some y=>simp at hx;exact⟨y,rfl,hx⟩
 cases o with
 |call c =>
  simp only [res] at h
  intro x hx
  split at h
  ·rename_i f hf
   obtain rfl:=oJ_ h
   simp only [nu,List.mem_cons,List.mem_map] at hx
   rcases hx with rfl|⟨y,hy,rfl⟩
   ·exact⟨f,by show f ∈ c.operands;simp [Call.operands,hf],rfl⟩
   ·exact⟨y,arr hy,rfl⟩
  ·have key:∀ {u v:Operand},c.args.toList=[u,v]->∀ y,y=u\/y=v->y ∈ c.operands:=fun e y hy=>arr (by rw [e];simpa using hy)
   have akr:∀ {u:Operand},c.args.toList=[u]->u ∈ c.operands:=fun e=>arr (by rw [e];simp)
   repeat' split at h
   all_goals first
    |(cases h;done)
    |(obtain rfl:=oJ_ h
      simp only [nu,List.mem_cons,List.not_mem_nil,or_false] at hx
      first
       |(rcases hx with rfl|rfl
         exact⟨_,key (by assumption) _ (.inl rfl),rfl⟩
         exact⟨_,key (by assumption) _ (.inr rfl),rfl⟩)
       |(subst hx;exact⟨_,akr (by assumption),rfl⟩)
       |fail "call")
    |fail "callall"
  ·cases h
 |makeMap t r =>
  simp only [res] at h
  split at h
  ·obtain rfl:=oJ_ h
   intro x hx
   obtain⟨y,rfl,rfl⟩:=opt hx
   exact⟨y,by simp [Op.operands],rfl⟩
  ·cases h
 |_ =>
  simp only [res] at h
  repeat' split at h
  all_goals first
   |(cases h;done)
   |(obtain rfl:=oJ_ h
     first
      |(cases hq;done)
      |(intro x hx;cases hx;done)
      |(intro x hx
        simp only [nu,List.mem_cons,List.not_mem_nil,or_false] at hx
        first
         |(cases hx;done)
         |(subst hx;exact⟨_,by simp [Op.operands],rfl⟩)
         |(rcases hx with rfl|rfl<;>exact⟨_,by simp [Op.operands],rfl⟩)
         |(rcases hx with rfl|rfl|rfl<;>exact⟨_,by simp [Op.operands],rfl⟩)
         |fail "ops")
      |fail "cs")
   |fail "all"
def yZ (L:List Nat) (f:Nat->AV):Nat->AV:=fun t=>match jS t L with|true=>f t|false=>.u
theorem AK {k:Nat}:∀ {l:List Nat},jS k l=true->k ∈ l
 |[],h=>by cases h
 |j::l,h=>by
  simp only [jS] at h
  split at h
  ·rename_i hb
   rw [Nat.eq_of_beq_eq_true hb]
   exact List.mem_cons_self
  ·exact List.mem_cons_of_mem _ (AK h)
theorem ef.E_ {o:Oper}{β:AA}(hw:∀ t,β.tm t=α.tm t\/β.tm t=.u) (hd:β.df=α.df) (h:ef P w0 n o β S r S'):ef P w0 n o α S r S':=by
 intro F m A g a w next R hF hS hA nC
 refine h F m A g a w next R hF hS ⟨hA.size,fun t ht=>?_,fun t ht=>?_,by rw [hd];exact hA.df,fun k hk=>hA.rI k (by rw [<-hd];exact hk)⟩ nC
 ·rcases hw t with e|e
  ·rw [e];exact hA.tm t ht
  ·rw [e];exact .u
 ·rcases hw t with e|e
  ·rw [e];exact hA.out t ht
  ·exact e
theorem b_.xop {B:Nat}{V:List (Nat × Nat)}{lg:List (List Nat × List Nat × Bool)}{rs:List Nat}(hw:bD α.tm i.g=some true) (hp:Ha i.q=false) (hn:S.nx<=S'.nx) {lw:mX}(hold:∀ k,Jl lw k=true->S'.get k=S.get k) (h:ae P w0 false i.q ⟨yZ (B9 (nu i.q)) α.tm,α.df⟩ S r S')
  (k:b_ P w0 rd n Q (.dB B V (lg++[(lw.1::lw.2,[],true)]) rs l K) (bS i.d α r) S'):b_ P w0 rd n Q (.dB B V lg rs (i::l) K) α S:=by
 intro jb hB
 refine yf.step (d:=(.none_,some lw)) (fun e=>by cases e) (fun ops o rest h1 h2 h3 h4 h5=>?_) (k jb (Nat.le_trans hB hn))
 have hi:=(lY h1).1
 refine⟨o,hi,h2,by simp only [qq,hi];exact YB h4 hp,hB,hn,hold,(AW (h5 _ hw)).1 rfl,r,by rw [o6,<-h3];cases o.dst<;>rfl,?_⟩
 refine ef.E_ (β:=⟨yZ (B9 (nu i.q)) α.tm,α.df⟩) (fun t=>?_) rfl (h n o h4)
 show yZ (B9 (nu i.q)) α.tm t=(α.only (cB o)).tm t\/yZ (B9 (nu i.q)) α.tm t=.u
 unfold yZ
 cases hm:jS t (B9 (nu i.q)) with
 |false=>exact .inr rfl
 |true =>
  left
  obtain⟨y,hy,e⟩:=R8 hp h4 _ (Dg (AK hm))
  have:t ∈ cB o:=by
   cases y with
   |tmp t' =>
    injection e with e
    subst e
    exact ee hy
   |_=>cases e
  show α.tm t=if (cB o).contains t then α.tm t else .u
  rw [if_pos (by simpa using this)]
theorem b_.aks {B:Nat}{V:List (Nat × Nat)}{lg:List (List Nat × List Nat × Bool)}{rs:List Nat}(hc:R6 V lg=true) (h:b_ P w0 rd n Q (.out .normal K) α S):b_ P w0 rd n Q (.dB B V lg rs [] K) α S:=by
 intro jb hB
 exact fun ops _ _=>⟨fun _=>(.none_,none),α,S,.nil ..,by simpa using hc,fun i hi=>(by cases hi),h⟩
structure af (P:Program) (f:FuncId) (q:QC × List QR) (n:Nat):Prop where
 out:∃ fn c,P.funcs[f]?=some fn/\fn.body=some c/\fn.ntmps=n/\tt P.toTables fn.results.toList=some q.2/\ct P.toTables n c=some q.1/\cI P c=true/\∀ (xs:Array Value) (w:World),(callFunc f xs).run P w=.ok (.enter f xs) w
def ao (T:Tables) (fn:Func):Option (QC × List QR):=match fn.body with
 |some c=>match ct T fn.ntmps c,tt T fn.results.toList with
  |some q,some qs=>some (q,qs)
  |_,_=>none
 |none=>none
theorem af.of {f:FuncId}{q:QC × List QR}{fn:Func}{T:Tables}(hf:P.funcs[f]?=some fn) (hq:ao T fn=some q) (hT:P.toTables=T) (hn:fn.ntmps=n) (hd:A1 P fn=true)
  (hc:∀ (xs:Array Value) (w:World),(callFunc f xs).run P w=.ok (.enter f xs) w):af P f q n:=by
 subst hT
 unfold ao at hq
 unfold A1 at hd
 cases hb:fn.body with
 |none=>rw [hb] at hq;cases hq
 |some c =>
  rw [hb] at hq hd
  simp only at hq
  split at hq
  ·rename_i q1 qs h1 h2
   obtain rfl:=oJ_ hq
   exact⟨⟨fn,c,hf,hb,hn,h2,by rw [<-hn];exact h1,hd,hc⟩⟩
  ·cases hq
theorem b_.mono {Q':Exit->AA->ad->Prop}(hm:∀ ex α S,Q ex α S->Q' ex α S) {c:QC}(h:b_ P w0 rd n Q (.run c []) α S):b_ P w0 rd n Q' (.run c []) α S:=by
 intro c0 hc hd
 obtain⟨ex,aw,S',h1,h2⟩:=h c0 hc hd
 exact⟨ex,aw,S',h1,hm _ _ _ h2⟩
theorem af.bu {f:FuncId}{q:QC × List QR}{args:List AV}(F:af P f q n) (aY:args.length<=n) (hp:Pure r) (h:b_ P w0 false n (og q.2 fun r' S=>bp S r' r) (.run q.1 []) ⟨j_ args,[]⟩ ad.none_):ah P w0 f args r:=by
 obtain⟨fn,c,hf,hb,hn,hr,hq,hd,hc⟩:=F.out
 exact ah.of_wp hf hb hc hn aY hp (b_.mono (fun ex α S=>wG hr) h c hq hd)
theorem af.A3 {f:FuncId}{q:QC × List QR}{args:List AV}{R:AV->ad->Prop}(F:af P f q n) (aY:args.length<=n) (h:b_ P w0 false n (og q.2 R) (.run q.1 []) ⟨j_ args,[]⟩ S):∃ r S',aK P w0 f args S r S'/\R r S':=by
 obtain⟨fn,c,hf,hb,hn,hr,hq,hd,hc⟩:=F.out
 exact aK.of_wp hf hb hc hn aY (b_.mono (fun ex α S=>wG hr) h c hq hd)
end
structure Fr where
 t:Tr AV
 ds:List DE
def cy (F:Fr):AA:=⟨eL F.t,F.ds⟩
inductive XR where
 |dn (ex:Exit) (F:Fr) (s:XS)
 |mr (cf:QF) (F:Fr) (s:XS)
 |no
abbrev Rec:=Bool->Nat->QF->Fr->XS->XR
structure Env where
 uI:Nat->Option ((QC × List QR) × Nat)
 ext:Nat->List AV->Option AV
 nat:Nat->List AV->Option Value
 B_:Nat->Option AV
 wm:Nat->Bool
 Jp:Nat->Value->Bool
 keq:Value->Value->Bool
 seq:Nat->Value->Value->Option Bool
 sp:Nat->Option Nat
 fx:Nat->Bool
def E2 (s:XS):List DE->Option XS
 |[]=>some s
 |.del _ _ _::_=>none
 |.ob k::ks=>match (eE s).get k with
  |some .df=>E2 (kH s k none) ks
  |_=>none
def xc (qs:List QR) (ex:Exit) (F:Fr) (s:XS):Option (AV × XS):=match A0 ex,E2 s F.ds with
 |true,some s'=>match lO (eL F.t) (eE s') qs with
  |some [a]=>some (a,s')
  |some l=>some (.aE l,s')
  |none=>none
 |_,_=>none
def ylX (args:List AV) (s:XS):AV × XS:=match s.an with
 |0=>(.v (.bool false),⟨s.m,s.nx,s.lw,s.yk,0,(args,false)::s.lg⟩)
 |a+1=>(.v (.bool true),⟨s.m,s.nx,s.lw,s.yk,a,(args,true)::s.lg⟩)
def s0X:XS:=⟨.nil,0,0,none,0,[]⟩
def Dh (E:Env) (rc:Rec) (g:Nat) (aZ9:List AV):Option AV:=match E.uI g with
 |none=>none
 |some (c,n)=>match Nat.ble aZ9.length n,gE (jv 60) aZ9 with
  |true,true=>match rc false n (.run c.1 []) ⟨qS aZ9 0 .nil,[]⟩ s0X with
   |.dn ex F s'=>match s'.lg,xc c.2 ex F s' with
    |[],some (r,s2)=>match jv 60 r with
     |true=>some r
     |false=>g_ (eE s2) 60 r
    |_,_=>none
   |_=>none
  |_,_=>none
def fcX (E:Env) (rc:Rec) (g:Nat) (aZ9:List AV):Option (Nat × Nat × List (List AV) × Nat × Bool):=match E.uI g with
 |none=>none
 |some (c,n)=>match Nat.ble aZ9.length n,gE (jv 60) aZ9 with
  |true,true=>match rc false n (.run c.1 []) ⟨qS aZ9 0 .nil,[]⟩ s0X with
   |.dn ex F s'=>match s'.lg,xc c.2 ex F s' with
    |[],some (.ob k sz 0 len none,s2)=>match (eE s2).get k with
     |some (.arr sz' rows fz ex)=>match Nat.beq sz' sz && r5 (jv 60) rows with
      |true=>some (sz,len,rows,fz,ex)
      |false=>none
     |_=>none
    |_,_=>none
   |_=>none
  |_,_=>none
def Jq (E:Env) (rc:Rec) (g:Nat) (aZ9:List AV):Option AV:=match E.ext g aZ9 with
 |some r=>some r
 |none=>match E.B_ g with
  |some v=>match aZ9 with
   |[.fn (.func h) first cap]=>match Dh E rc h (first++cap) with
    |some (.aE [])=>some v
    |_=>none
   |_=>none
  |none=>Dh E rc g aZ9
def KR:Nat->AV->Bool
 |0,_=>false
 |m+1,a=>match a with
  |.v _=>true
  |.aE l|.agg l=>gE (KR m) l
  |_=>false
def zcX (E:Env) (rc:Rec) (g:Nat) (aZ9:List AV) (s:XS):Option AV:=match gE (jv 60) aZ9 with
 |true=>Jq E rc g aZ9
 |false=>match kP (g_ (eE s) 60) aZ9 with
  |some oY=>match Jq E rc g oY with
   |some r=>match KR 9 r with
    |true=>some r
    |false=>none
   |none=>none
  |none=>none
def Vu (E:Env) (rc:Rec) (g:Nat) (aZ9:List AV) (s:XS):Option (AV × XS):=match E.uI g with
 |none=>none
 |some (c,n)=>match Nat.ble aZ9.length n with
  |true=>match rc false n (.run c.1 []) ⟨qS aZ9 0 .nil,[]⟩ ⟨s.m,s.nx,s.nx,s.yk,s.an,s.lg⟩ with
   |.dn ex F s'=>xc c.2 ex F s'
   |_=>none
  |false=>none
def PA (s:XS) (kb:Nat):XS:=match dY s.yk kb,(eE s).get kb with
 |false,some (.arr sz [.ob k sz' 0 m none::cs] fz ex)=>match dY s.yk k,Nat.beq kb k,(eE s).get k with
  |false,false,some (.arr fN rows Er ex')=>match Nat.beq sz' fN && Nat.beq m rows.length with
   |true=>kH (kH s k (some (.arr fN rows rows.length ex'))) kb (some (.arr sz [.sl false rows::cs] fz ex))
   |false=>s
  |_,_,_=>s
 |_,_=>s
def Jr (E:Env) (g:Nat) (s:XS):XS:=match E.sp g with
 |some kb=>PA s kb
 |none=>s
def fxX (E:Env) (g:Nat) (aZ9:List AV) (s:XS):Option (AV × XS):=match E.fx g with
 |true=>match Gu s aZ9 with
  |some (oY,s1)=>match E.ext g oY with
   |some r=>some (r,s1)
   |none=>none
  |none=>none
 |false=>none
def yN (E:Env) (rc:Rec) (fw:Bool) (fv:AV) (args:List AV) (s:XS):Option (AV × XS):=match fv with
 |.yl k=>match dY s.yk k with
  |true=>match Gu s args with
   |some (aQ,s1)=>some (ylX aQ s1)
   |none=>none
  |false=>none
 |fv=>match dM fv args with
  |none=>none
  |some (g,aZ9)=>match E.nat g aZ9 with
   |some v=>match fv with
    |.v _=>some (.v v,s)
    |_=>none
   |none=>match (match E.wm g || fw with|true=>E.ext g aZ9|false=>zcX E rc g aZ9 s) with
    |some r=>some (r,s)
    |none=>match fxX E g aZ9 s with
     |some q=>some q
     |none=>match Vu E rc g aZ9 (Jr E g s) with
      |some (r,s')=>some (r,⟨s'.m,s'.nx,Nat.min (Jr E g s).lw s'.lw,s'.yk,s'.an,s'.lg⟩)
      |none=>none
def PB (E:Env) (q:dp) (f:Nat->AV):Option AV:=match q with
 |.eqs t x y=>match toV (x.ev f),toV (y.ev f) with
  |some a,some b=>match E.seq t a b with
   |some e=>some (.v (.bool e))
   |none=>none
  |_,_=>none
 |_=>none
def Hb (E:Env) (kt:Nat):List (Value × AV)->Bool
 |[]=>true
 |p::l=>match E.Jp kt p.1 with|true=>Hb E kt l|false=>false
def Hc (E:Env) (rc:Rec) (fw:Bool) (q:dp) (f:Nat->AV) (s:XS):Option (AV × XS):=match q with
 |.call g aZ9=>yN E rc fw (g.ev f) (aZ9.map (·.ev f)) s
 |.append sz by_ a b=>match KC sz by_ s (a.ev f) (b.ev f) with
  |some r=>some r
  |none=>match a.ev f,dD (eE s) (b.ev f) with
   |.sl ex rows,some []=>some (.sl ex rows,s)
   |.sl ex rows,none=>match b.ev f with
    |.v (.slice _ 0 _)=>some (.sl ex rows,s)
    |_=>none
   |_,_=>none
 |.fm kt z c x i=>match x.ev f,toV (i.ev f) with
  |.mp k,some v=>match (eE s).get k with
   |some (.mp es)=>match E.Jp kt v && Hb E kt es with
    |true=>some ((match fm (E.keq v) es with|some a=>(if c then .aE [a,.v (.bool true)] else a)|none=>(if c then .aE [z,.v (.bool false)] else z)),s)
    |false=>none
   |_=>none
  |_,_=>none
 |.lS kt x i b=>match x.ev f,toV (i.ev f) with
  |.mp k,some v=>match (eE s).get k with
   |some (.mp es)=>match E.Jp kt v && Hb E kt es,lK (E.keq v) es with
    |true,none=>some (.v undef,kH s k (some (.mp (es++[(v,b.ev f)]))))
    |_,_=>none
   |_=>none
  |_,_=>none
 |q=>match PB E q f with
  |some r=>some (r,s)
  |none=>rC false q f s
def Vv (E:Env) (rc:Rec) (fw:Bool) (q:dp) (f:Nat->AV) (s:XS):Option (AV × XS):=match G4 q f s with
 |some r=>some r
 |none=>Hc E rc fw q f s
def KS (body:Fr->XS->XR):Nat->Fr->XS->Option (Exit × Fr × XS)
 |0,_,_=>none
 |k+1,F,s=>match body F s with
  |.dn ex F' s'=>match ex with
   |.normal=>KS body k F' s'
   |e=>some (e,F',s')
  |_=>none
def aW (s:XS) (W:List (Nat × Option Ob)) (m:Bool):Option XS:=match W,m with
 |[],false=>some s
 |[(k,o)],false=>match dY s.yk k with
  |false=>some (kH s k o)
  |true=>none
 |[(k,some o)],true=>match Nat.beq k s.nx && !dY s.yk s.nx with
  |true=>some (ly s o)
  |false=>none
 |[(k,some o),(j,none)],true=>match Nat.beq k s.nx && !dY s.yk s.nx && !dY s.yk j with
  |true=>some (ly (kH s j none) o)
  |false=>none
 |_,_=>none
def KT (s:XS):List Nat->Option XS
 |[]=>some s
 |k::ks=>match KT s ks with
  |some s'=>match dY s'.yk k with
   |false=>some (kH s' k (some .un))
   |true=>none
  |none=>none
def Di (d:Option Nat):List QI->Bool
 |[]=>false
 |i::l=>match i.q,d with
  |.append _ _ (.t t) _,some d=>match Nat.beq t d with|true=>true|false=>Di (some d) l
  |_,d=>Di d l
def Vw (E:Env) (rc:Rec) (fr:Bool) (q:dp) (f:Nat->AV) (s:XS) (rs:List Nat):Option (AV × (List Nat × List Nat × Bool) × List Nat × XS):=match r8 true q f with
 |some r=>some (r,([],[],false),rs,s)
 |none=>match PB E q f with
  |some r=>some (r,([],[],false),rs,s)
  |none=>match q with
   |.call g aZ9=>match dM (g.ev f) (aZ9.map (·.ev f)) with
    |some (h,aZ9)=>match (match fr,dY s.yk s.nx with|true,false=>fcX E rc h aZ9|_,_=>none) with
     |some (sz,len,rows,fz,ex)=>some (.ob s.nx sz 0 len none,([],[s.nx],true),rs,ly s (.arr sz rows fz ex))
     |none=>match Jq E rc h aZ9 with
      |some r=>some (r,([],[],false),rs,s)
      |none=>none
    |none=>none
   |.append sz by_ a b=>match RS sz by_ s (a.ev f) (b.ev f) with
    |some (r,d)=>match aW s d.W d.m with
     |some s'=>some (r,d.ns,rs,s')
     |none=>none
    |none=>none
   |q=>match dq q f (eE s) rs with
    |some (r,d,nT)=>match aW s d.W d.m with
     |some s'=>some (r,d.ns,nT,s')
     |none=>none
    |none=>none
def R9:QC->Option (Option (List QI) × List QI)
 |.skip=>some (none,[])
 |.aU false l=>some (none,l)
 |.seq (.aU false a) (.aU false l)=>some (some a,l)
 |_=>none
def KU (rc:Rec) (n:Nat) (qa qb:QC) (F:Fr) (s:XS):XR:=match R9 qa with
 |some (none,l)=>rc true n (.aU false l [.seq qb]) F s
 |some (some a,l)=>match rc true n (.aU false a []) F s with
  |.dn .normal F1 s1=>match Nat.beq s1.lg.length s.lg.length with
   |true=>rc true n (.aU false l [.seq qb]) F1 s1
   |false=>.no
  |_=>.no
 |none=>.no
def yg (rc:Rec) (n B N:Nat) (qa:QC) (qb:QC) (ps:List Nat) (t:Tr AV):List (List AV × Bool)->XS->Option (Exit × XS)
 |[],s=>some (.normal,s)
 |(x,b)::rest,s=>match Nat.beq x.length ps.length && gE (jv 60) x with
  |true=>match KU rc n qa qb ⟨yS t (ps.zip x),[]⟩ s with
   |.dn ex F s2=>match F.ds,U8 B N s2 with
    |[],some s3=>match ex,b,rest with
     |.normal,true,rest=>yg rc n B N qa qb ps t rest s3
     |.ret,false,[]=>some (.ret,s3)
     |.exit id,false,[]=>some (.exit id,s3)
     |_,_,_=>none
    |_,_=>none
   |_=>none
  |false=>none
def abz (rc:Rec) (n B N:Nat) (qa:QC) (qb:QC) (ps:List Nat) (t:Tr AV):List (List AV × Bool)->XS->Nat->Option Nat
 |[],s,i=>none
 |(x,b)::rest,s,i=>match KU rc n qa qb ⟨yS t (ps.zip x),[]⟩ s with
  |.dn ex F s2=>match ex with
   |.normal=>match U8 B N s2 with
    |some s3=>abz rc n B N qa qb ps t rest s3 (i+1)
    |none=>none
   |_=>some i
  |_=>none
def KV (E:Env) (rc:Rec) (g:Nat) (aZ9:List AV) (an:Nat):Option (List (List AV × Bool)):=match Vu E rc g aZ9 ⟨.nil,1,1,some 0,an,[]⟩ with
 |some (_,s)=>some s.lg.reverse
 |none=>none
def KW (B:Nat):List (Nat × AV)->Bool
 |[]=>true
 |p::l=>match tJ B 60 p.2 with|true=>KW B l|false=>false
def KX (B:Nat) (s:XS):List (Nat × Option Ob)->Bool
 |[]=>true
 |p::l=>match Nat.blt p.1 B && (match p.2 with|some o=>RN B o|none=>true) with|true=>KX B s l|false=>false
def R_ (rc:Rec) (E:Env) (gid:Nat) (aZ9:List AV) (R:List (List AV × Bool)->Option (Exit × XS)) (C:List (List AV × Bool)->Option Nat):Option (Exit × XS):=match KV E rc gid aZ9 1000000 with
 |some lg=>match R lg with
  |some q=>some q
  |none=>match C lg with
   |some i=>match KV E rc gid aZ9 i with
    |some lg=>R lg
    |none=>none
   |none=>none
 |none=>none
def Sa (E:Env) (rc:Rec) (n:Nat) (a:AV) (ps:List Nat) (qa qb:QC) (F:Fr) (s:XS):Option (Exit × Fr × XS):=match a with
 |.fn (.func gid) first cap =>
  match gE (jv 60) first && gE (jv 60) cap && ps.all (Nat.blt · n) && !dY s.yk s.nx && F.ds.all (fun d=>Nat.blt d.k (s.nx+1)) && KW (s.nx+1) (toLk F.t) && KX (s.nx+1) s (toLk (ly s .df).m) && nz (s.nx+1) [] (BR (ly s .df)) && (match s.yk with|some k=>Nat.blt k (s.nx+1)|none=>true) with
  |true =>
   match R_ rc E gid (first++[.yl 0]++cap) (fun lg=>yg rc n (s.nx+1) (s.nx+41) qa qb ps F.t lg ⟨(ly s .df).m,s.nx+41,0,s.yk,s.an,s.lg⟩) (fun lg=>abz rc n (s.nx+1) (s.nx+41) qa qb ps F.t lg ⟨(ly s .df).m,s.nx+41,0,s.yk,s.an,s.lg⟩ 0) with
   |some (ex,s')=>some (ex,⟨F.t,s.nx::F.ds⟩,s')
   |none=>none
  |false=>none
 |_=>none
def Sb (x:QO) (F:Fr) (s:XS):Option (Fr × XS):=match x with
 |.t t=>match eL F.t t with
  |.fn f first cap=>match gE (jv 60) first && gE (jv 60) cap with
   |true=>none
   |false=>match Gu s [.fn f first cap] with
    |some ([a],s')=>some (⟨put F.t t a,F.ds⟩,s')
    |_=>none
  |_=>none
 |_=>none
def He (s s':XS):Nat:=match Nat.beq s'.lg.length s.lg.length with|true=>s'.lw|false=>0
def Vx (s s':XS):List Nat:=match Nat.beq s'.lg.length s.lg.length with
 |true=>(BR s).filter fun k=>match dY s.yk k with|true=>false|false=>R1 (eM s k) (eM s' k)
 |false=>[]
def lL (E:Env) (rc:Rec) (rd:Bool) (n:Nat):QF->Fr->XS->XR
 |.run c K,F,s=>match c with
  |.skip=>.mr (.out .normal K) F s
  |.aU true l=>.no
  |.aU false l=>.mr (.aU false l K) F s
  |.dB V l=>match KT s (iA l s.nx) with
   |some s'=>.mr (.dB (s.nx+(iA l s.nx).length) V [] (iA l s.nx) l K) F ⟨s'.m,s.nx+(iA l s.nx).length,s'.lw,s'.yk,s'.an,s'.lg⟩
   |none=>.no
  |.seq a c=>.mr (.run a (.seq c::K)) F s
  |.cond x a c=>match x.ev (eL F.t) with
   |.v (.bool true)=>.mr (.run a K) F s
   |.v (.bool false)=>.mr (.run c K) F s
   |_=>.no
  |.block id c=>.mr (.run c (.oS id::K)) F s
  |.scope c=>.mr (.run c (.wj::K)) F s
  |.loop c=>match KS (fun F s=>rc rd n (.run c []) F s) 400 F s with
   |some (ex,F',s')=>.mr (.out ex K) F' s'
   |none=>.no
  |.exit id=>.mr (.out (.exit id) K) F s
  |.ret=>.mr (.out .ret K) F s
  |.uP x ps a c=>match Sb x F s with
   |some (F',s')=>.mr (.run (.uP x ps a c) K) F' s'
   |none=>match rd,Sa E rc n (x.ev (eL F.t)) ps a c F s with
    |false,some (ex,F',s')=>.mr (.out ex K) F' s'
    |_,_=>.no
  |_=>.no
 |.out ex K,F,s=>match K with
  |[]=>.dn ex F s
  |.seq c::K=>match ex with
   |.normal=>.mr (.run c K) F s
   |e=>.mr (.out e K) F s
  |.oS id::K=>match ex with
   |.exit j=>match Nat.beq j id with
    |true=>.mr (.out .normal K) F s
    |false=>.mr (.out (.exit j) K) F s
   |e=>.mr (.out e K) F s
  |.wj::K=>match ex with
   |.goto _=>.no
   |e=>.mr (.out e K) F s
 |.aU true l K,F,s=>.no
 |.aU false l K,F,s=>match l with
  |[]=>.mr (.out .normal K) F s
  |i::l=>match bD (eL F.t) i.g with
   |some true=>match Vv E rc (Di i.d l) i.q (eL F.t) s with
    |some (r,s')=>.mr (.aU false l K) ⟨vt i.d F.t r,F.ds⟩ s'
    |none=>.no
   |some false=>.mr (.aU false l K) ⟨vt i.d F.t (.v undef),F.ds⟩ s
   |none=>.no
 |.dB B V lg rs l K,F,s=>match l with
  |[]=>match R6 V lg with
   |true=>.mr (.out .normal K) F s
   |false=>.no
  |i::l=>match bD (eL F.t) i.g with
   |some true=>match (match Ha i.q || inV lg.length V with|true=>Vw E rc (Di i.d l) i.q (eL F.t) s rs|false=>none) with
    |some (r,ns,nT,s')=>match Et ns with
     |none=>.mr (.dB B V (lg++[ns]) nT l K) ⟨vt i.d F.t r,F.ds⟩ s'
     |some _=>.no
    |none=>match Ha i.q with
     |true=>.no
     |false=>match Vv E rc (Di i.d l) i.q (yZ (B9 (nu i.q)) (eL F.t)) ⟨s.m,s.nx,s.nx,s.yk,s.an,s.lg⟩ with
      |some (r,s')=>.mr (.dB B V (lg++[(He s s'::Vx s s',[],true)]) rs l K) ⟨vt i.d F.t r,F.ds⟩ ⟨s'.m,s'.nx,Nat.min s.lw s'.lw,s'.yk,s'.an,s'.lg⟩
      |none=>.no
   |some false=>.mr (.dB B V (lg++[([],[],false)]) rs l K) ⟨vt i.d F.t (.v undef),F.ds⟩ s
   |none=>.no
def PC (f:QF->Fr->XS->XR):Nat->QF->Fr->XS->XR
 |0,c,t,s=>f c t s
 |k+1,c,t,s=>match PC f k c t s with
  |.mr c t s=>PC f k c t s
  |r=>r
def Hf (E:Env):Nat->Rec
 |0=>fun _ _ _ _ _=>.no
 |m+1=>fun rd n c F s=>PC (lL E (Hf E m) rd n) 14 c F s
abbrev GQ_(f:Func):={q:QC × List QR // ao Tryz.progTables f=some q}
theorem gW_{f:FuncId}{q:QC × List QR}{fn:Func}(hf:Tryz.prog.funcs[f]?=some fn)(hq:ao Tryz.progTables fn=some q)(hc:∀(xs:Array Value)(w:World),(callFunc f xs).run Tryz.prog w=.ok (.enter f xs) w)(hT:Tryz.prog.toTables=Tryz.progTables:=by rfl)(hd:A1 Tryz.prog fn=true:=by kernel_rfl):af Tryz.prog f q fn.ntmps:=af.of hf hq hT rfl hd hc
end Go.Proofs.YtgjfgekaclobaaaGreat
