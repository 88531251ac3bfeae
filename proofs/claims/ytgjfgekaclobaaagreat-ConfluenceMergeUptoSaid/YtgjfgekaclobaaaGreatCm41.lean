import Derived.Test.YtgjfgekaclobaaaGreatCm40
namespace Go.Proofs.YtgjfgekaclobaaaGreat
set_option linter.unusedVariables false
set_option linter.unusedSimpArgs false
open Go.RowKit
def bD (T:Tables) (n:Nat):Code->Option QC
 |.skip=>some .skip
 |.label _=>some .skip
 |.region _ ops dr=>match jD T n ops.toList ops.toList with
  |some l=>match dr with
   |false=>some (.aR false l)
   |true=>match mR ops with
    |true=>some (.dh (rm ops) l)
    |false=>none
  |none=>none
 |.seq a b=>match bD T n a,bD T n b with
  |some a',some b'=>some (.seq a' b')
  |_,_=>none
 |.cond c a b=>match bD T n a,bD T n b with
  |some a',some b'=>some (.cond (qo c) a' b')
  |_,_=>none
 |.block id a=>match bD T n a with
  |some a'=>some (.block id a')
  |none=>none
 |.scope a=>match bD T n a with
  |some a'=>some (.scope a')
  |none=>none
 |.loop a=>match bD T n a with
  |some a'=>some (.loop a')
  |none=>none
 |.exit id=>some (.exit id)
 |.ret=>some .ret
 |.rangeFunc f ps a b=>match bD T n a,bD T n b with
  |some a',some b'=>some (.vW (qo f) ps.toList a' b')
  |_,_=>none
 |c=>some (.raw c)
def ZH (i:Nat):List (Nat × Nat)->Bool
 |[]=>false
 |p::V=>match Nat.beq p.1 i with
  |true=>true
  |false=>match Nat.beq p.2 i with|true=>true|false=>ZH i V
def Ai (x y:List Nat × List Nat × Bool):Bool:=match Ag x,Ag y with
 |none,none=>dj x y
 |some l,none=>Af y l
 |none,some l=>Af x l
 |some _,some _=>false
def L5 (V:List (Nat × Nat)) (lg:List (List Nat × List Nat × Bool)):Bool:=V.all fun p=>Ai (sX lg p.1) (sX lg p.2)
def Dt.ok (d:Dt):Prop:=Ag d.ns=none
theorem S7 {d e:Dt × Option kN}(h1:d.2=none->d.1.ok) (h2:e.2=none->e.1.ok) (h:Ai (vH d) (vH e)=true):y4 d e:=by
 obtain⟨d,x⟩:=d
 obtain⟨e,y⟩:=e
 cases x with
 |none =>
  have q1:Ag d.ns=none:=h1 rfl
  cases y with
  |none =>
   have q2:Ag e.ns=none:=h2 rfl
   simp only [Ai,vH,q1,q2] at h
   exact h
  |some l =>
   have h:Ai d.ns (l.1::l.2,[],true)=true:=h
   unfold Ai at h
   rw [q1] at h
   exact h
 |some l =>
  cases y with
  |none =>
   have q2:Ag e.ns=none:=h2 rfl
   have h:Ai (l.1::l.2,[],true) e.ns=true:=h
   unfold Ai at h
   rw [q2] at h
   exact h
  |some l'=>simp only [Ai,vH,Ag] at h;cases h
section
variable (P:Program) (w0:World) (rd:Bool) (n:Nat)
def gM (b:QC) (Q:Exit->AA->aa->Prop) (α:AA) (S:aa):Prop:=∀ c,bD P.toTables n c=some b->cg P c=true->Wp P w0 rd n c Q α S
def gG (Q:Exit->AA->aa->Prop):List ig->Exit->AA->aa->Prop
 |[]=>Q
 |.seq b::K=>fun ex α S=>match ex with|.normal=>gM P w0 rd n b (gG Q K) α S|e=>gG Q K e α S
 |.nU id::K=>fun ex α S=>match ex with|.exit j=>(match Nat.beq j id with|true=>gG Q K .normal α S|false=>gG Q K (.exit j) α S)|e=>gG Q K e α S
 |.xd::K=>fun ex α S=>match ex with|.goto _=>False|e=>gG Q K e α S
def ua (B:Nat) (V:List (Nat × Nat)) (lg:List (List Nat × List Nat × Bool)) (l:List QI) (Q:AA->aa->Prop) (α:AA) (S:aa):Prop :=
 ∀ ops:List Oper,jD P.toTables n ops (ops.drop lg.length)=some l->rm ops.toArray=V->∃ (D:Nat->Dt × Option kN) (ag:AA) (S':aa),gk P w0 n ops.toArray B D (List.range' lg.length l.length) α S ag S' /\
  L5 V (lg++(List.range' lg.length l.length).map fun i=>vH (D i))=true/\(∀ i ∈ List.range' lg.length l.length,(D i).2=none->(D i).1.ok)/\Q ag S'
def bu (Q:Exit->AA->aa->Prop):QF->AA->aa->Prop
 |.run c K,α,S=>gM P w0 rd n c (gG P w0 rd n Q K) α S
 |.out ex K,α,S=>gG P w0 rd n Q K ex α S
 |.aR dr l K,α,S=>match dr with
  |false=>ff P w0 n false l (fun α S=>gG P w0 rd n Q K .normal α S) (fun ch α S=>gG P w0 rd n Q K (.panic ch) α S) α S
  |true=>False
 |.dh B V lg rs l K,α,S=>(∀ k ∈ rs,k < B)->B<=S.nx->ua P w0 n B V lg l (fun α S=>gG P w0 rd n Q K .normal α S) α S
end
section
variable {P:Program}{w0:World}{rd:Bool}{n:Nat}{α ag:AA}{S S':aa}{Q Q':Exit->AA->aa->Prop}{ex:Exit}{r:AV}{i:QI}{l:List QI}{R:AA->aa->Prop}
theorem Aj {c:Code}{dr:Bool}(h:bD P.toTables n c=some (.aR dr l)):∃ id ops,c=.region id ops false/\dr=false/\jD P.toTables n ops.toList ops.toList=some l:=by
 cases c<;>simp only [bD] at h<;>(repeat' split at h)<;>(try cases h)
 ·exact⟨_,_,rfl,rfl,by assumption⟩
theorem JX {c:Code}{V:List (Nat × Nat)}(h:bD P.toTables n c=some (.dh V l)):∃ id ops,c=.region id ops true/\jD P.toTables n ops.toList ops.toList=some l/\mR ops=true/\V=rm ops:=by
 cases c<;>simp only [bD] at h<;>(repeat' split at h)<;>(try cases h)
 ·exact⟨_,_,rfl,by assumption,by assumption,rfl⟩
theorem Ak {c:Code}{a b:QC}(h:bD P.toTables n c=some (.seq a b)):∃ c1 c2,c=.seq c1 c2/\bD P.toTables n c1=some a/\bD P.toTables n c2=some b:=by
 cases c<;>simp only [bD] at h<;>(repeat' split at h)<;>(try cases h)
 ·exact⟨_,_,rfl,by assumption,by assumption⟩
theorem FL {c:Code}{x:QO}{a b:QC}(h:bD P.toTables n c=some (.cond x a b)):∃ y c1 c2,c=.cond y c1 c2/\qo y=x/\bD P.toTables n c1=some a/\bD P.toTables n c2=some b:=by
 cases c<;>simp only [bD] at h<;>(repeat' split at h)<;>(try cases h)
 ·exact⟨_,_,_,rfl,rfl,by assumption,by assumption⟩
theorem Dx {c:Code}{id:Nat}{a:QC}(h:bD P.toTables n c=some (.block id a)):∃ c1,c=.block id c1/\bD P.toTables n c1=some a:=by
 cases c<;>simp only [bD] at h<;>(repeat' split at h)<;>(try cases h)
 ·exact⟨_,rfl,by assumption⟩
theorem Dy {c:Code}{a:QC}(h:bD P.toTables n c=some (.scope a)):∃ c1,c=.scope c1/\bD P.toTables n c1=some a:=by
 cases c<;>simp only [bD] at h<;>(repeat' split at h)<;>(try cases h)
 ·exact⟨_,rfl,by assumption⟩
theorem FM {c:Code}{a:QC}(h:bD P.toTables n c=some (.loop a)):∃ c1,c=.loop c1/\bD P.toTables n c1=some a:=by
 cases c<;>simp only [bD] at h<;>(repeat' split at h)<;>(try cases h)
 ·exact⟨_,rfl,by assumption⟩
theorem FN {c:Code}{x:QO}{ps:List Nat}{a b:QC}(h:bD P.toTables n c=some (.vW x ps a b)):∃ y pt c1 c2,c=.rangeFunc y pt c1 c2/\qo y=x/\pt.toList=ps/\bD P.toTables n c1=some a/\bD P.toTables n c2=some b:=by
 cases c<;>simp only [bD] at h<;>(repeat' split at h)<;>(try cases h)
 ·exact⟨_,_,_,_,rfl,rfl,rfl,by assumption,by assumption⟩
theorem nc {c:Code}:(bD P.toTables n c=some .skip->I2 c)/\(bD P.toTables n c=some .ret->c=.ret)/\∀ id,bD P.toTables n c=some (.exit id)->c=.exit id:=by
 refine⟨fun h=>?_,fun h=>?_,fun id h=>?_⟩
 all_goals
  cases c<;>simp only [bD] at h<;>(repeat' split at h)<;>(try cases h)<;>first|rfl|exact .inl rfl|exact .inr ⟨_,rfl⟩
theorem gM.seq {a b:QC}(h:gM P w0 rd n a (fun ex α S=>match ex with|.normal=>gM P w0 rd n b Q α S|e=>Q e α S) α S):gM P w0 rd n (.seq a b) Q α S:=by
 intro c hc hd
 obtain⟨c1,c2,rfl,h1,h2⟩:=Ak hc
 simp only [cg,Bool.and_eq_true] at hd
 refine Wp.seq ?_
 obtain⟨ex,bG,bR,h3,h4⟩:=h c1 h1 hd.1
 refine⟨ex,bG,bR,h3,?_⟩
 cases ex with
 |normal=>exact h4 c2 h2 hd.2
 |_=>exact h4
theorem gM.cond {x:QO}{a b:QC}{t:Bool}(hx:x.ev α.tm=.v (.bool t)) (h:gM P w0 rd n (if t then a else b) Q α S):gM P w0 rd n (.cond x a b) Q α S:=by
 intro c hc hd
 obtain⟨y,c1,c2,rfl,rfl,h1,h2⟩:=FL hc
 simp only [cg,Bool.and_eq_true] at hd
 refine Wp.cond (by rw [Ns];exact hx) ?_
 cases t with
 |true=>exact h c1 h1 hd.1
 |false=>exact h c2 h2 hd.2
theorem gM.scope {a:QC}(h:gM P w0 rd n a (fun ex α S=>match ex with|.goto _=>False|e=>Q e α S) α S):gM P w0 rd n (.scope a) Q α S:=by
 intro c hc hd
 obtain⟨c1,rfl,h1⟩:=Dy hc
 obtain⟨ex,bG,bR,h2,h3⟩:=h c1 h1 hd
 cases ex with
 |goto l=>exact h3.elim
 |_=>exact⟨_,bG,bR,bI.scope h2 (fun l e=>by cases e),h3⟩
theorem gM.block {id:Nat}{a:QC}(h:gM P w0 rd n a (fun ex α S=>match ex with|.exit j=>(match Nat.beq j id with|true=>Q .normal α S|false=>Q (.exit j) α S)|e=>Q e α S) α S):gM P w0 rd n (.block id a) Q α S:=by
 intro c hc hd
 obtain⟨c1,rfl,h1⟩:=Dx hc
 exact Wp.block (h c1 h1 hd)
theorem gM.aR (h:ff P w0 n false l (fun α S=>Q .normal α S) (fun ch α S=>Q (.panic ch) α S) α S):gM P w0 rd n (.aR false l) Q α S:=by
 intro c hc hd
 obtain⟨id,ops,rfl,_,h1⟩:=Aj hc
 rcases h _ _ h1 0 rfl with ⟨ag,S',h3,h4⟩|⟨ch,ag,S',h3,h4⟩
 ·rw [Array.length_toList,<-List.range_eq_range'] at h3
  exact⟨_,ag,S',bI.region h3,h4⟩
 ·rw [Array.length_toList,<-List.range_eq_range'] at h3
  exact⟨.panic ch,ag,S',fun F m A g a w hF hR hS hA=>wpIn_region (h3 F m A g a w _ hF hS hA fun a' w' g' q1 q2 q3=>⟨rfl,g',q1,q2,q3⟩),h4⟩
theorem Cp {ops:List Oper}:∀ {rest:List Oper}{l:List QI},jD P.toTables n ops rest=some l->l.length=rest.length
 |[],l,h=>by obtain rfl:=Option.some.inj h;rfl
 |o::rest,l,h=>by
  cases l with
  |nil =>
   exfalso
   simp only [jD] at h
   split at h
   ·split at h
    ·cases h
    ·split at h<;>cases h
   ·cases h
  |cons i l =>
   obtain⟨o',kx,e,h3,_⟩:=lR (α:=⟨fun _=>.u,[]⟩) h
   injection e with e1 e2
   subst e1 e2
   simp [Cp h3]
theorem Cq {ops:Array Oper}{m:List Nat}:∀ {k:Nat}{q:Nat × Nat},q ∈ pd ops m k->q.1 < k/\q.2 < k
 |0,q,h=>by cases h
 |k+1,q,h=>by
  simp only [pd,List.mem_append,List.mem_map,List.mem_filter,List.mem_range] at h
  rcases h with ⟨x,⟨hx,_⟩,rfl⟩|h
  ·exact⟨by simp only;omega,by simp only;omega⟩
  ·have:=Cq h;omega
theorem gM.dh {V:List (Nat × Nat)}(h:(∀ k ∈ fK l S.nx,k < S.nx+(fK l S.nx).length)->S.nx+(fK l S.nx).length<=(rq S l).nx->ua P w0 n (S.nx+(fK l S.nx).length) V [] l (fun α S=>Q .normal α S) α (rq S l)):gM P w0 rd n (.dh V l) Q α S:=by
 intro c hc hd
 obtain⟨id,ops,rfl,h1,h2,rfl⟩:=JX hc
 simp only [cg,Bool.and_eq_true] at hd
 have hl:l.length=ops.size:=by rw [Cp h1];simp
 obtain⟨D,ag,S',h3,h4,h6,h5⟩:=h (fun k hk=>(oJ hk).2) (by cases S;exact Nat.le_refl _) ops.toList h1 rfl
 simp only [List.length_nil,hl,List.nil_append] at h3 h4 h6
 rw [<-List.range_eq_range'] at h3 h4 h6
 refine⟨.normal,ag,S',fun F m A g a w hF hR hS hA=>?_,h5⟩
 refine bI.U8 hd.1 h2 (fun p hp=>?_) h3 F m A g a w hF hR (hS.Y3 l) hA
 obtain⟨k1,k2⟩:=Cq (List.mem_filter.1 hp).1
 have get:∀ i,i < ops.size->sX ((List.range ops.size).map fun i=>vH (D i)) i=vH (D i):=fun i hi=>by
  unfold sX
  rw [List.getD_eq_getElem?_getD,List.getElem?_map,List.getElem?_range hi]
  rfl
 have h7:=List.all_eq_true.1 h4 p hp
 rw [get _ k1,get _ k2] at h7
 exact S7 (h6 _ (List.mem_range.2 k1)) (h6 _ (List.mem_range.2 k2)) h7
theorem gM.done {a:QC}(hd:∀ c,bD P.toTables n c=some a->Wp P w0 rd n c Q α S):gM P w0 rd n a Q α S:=fun c hc _=>hd c hc
variable {K:List ig}
theorem bu.skip (h:bu P w0 rd n Q (.out .normal K) α S):bu P w0 rd n Q (.run .skip K) α S:=gM.done fun c hc=>Wp.of (bI.skip (nc.1 hc)) h
theorem bu.exit_ {id:Nat}(h:bu P w0 rd n Q (.out (.exit id) K) α S):bu P w0 rd n Q (.run (.exit id) K) α S:=gM.done fun c hc=>by rw [nc.2.2 _ hc];exact Wp.of (bI.exit_ _) h
theorem bu.aaU (h:bu P w0 rd n Q (.out .ret K) α S):bu P w0 rd n Q (.run .ret K) α S:=gM.done fun c hc=>by rw [nc.2.1 hc];exact Wp.of bI.ret h
theorem bu.seq {a b:QC}(h:bu P w0 rd n Q (.run a (.seq b::K)) α S):bu P w0 rd n Q (.run (.seq a b) K) α S:=gM.seq h
theorem bu.cond {x:QO}{a b:QC}{t:Bool}(hx:x.ev α.tm=.v (.bool t)) (h:bu P w0 rd n Q (.run (if t then a else b) K) α S):bu P w0 rd n Q (.run (.cond x a b) K) α S:=gM.cond hx h
theorem bu.scope {a:QC}(h:bu P w0 rd n Q (.run a (.xd::K)) α S):bu P w0 rd n Q (.run (.scope a) K) α S:=gM.scope h
theorem bu.block {id:Nat}{a:QC}(h:bu P w0 rd n Q (.run a (.nU id::K)) α S):bu P w0 rd n Q (.run (.block id a) K) α S:=gM.block h
theorem bu.aR (h:bu P w0 rd n Q (.aR false l K) α S):bu P w0 rd n Q (.run (.aR false l) K) α S:=gM.aR h
theorem bu.dh {V:List (Nat × Nat)}(h:bu P w0 rd n Q (.dh (S.nx+(fK l S.nx).length) V [] (fK l S.nx) l K) α (rq S l)):bu P w0 rd n Q (.run (.dh V l) K) α S:=gM.dh fun h1 h2=>h h1 h2
theorem bu.fin (h:bu P w0 rd n Q (.out .normal K) α S):bu P w0 rd n Q (.aR false [] K) α S:=by
 show ff P w0 n false [] _ _ α S
 exact ff.nil h
theorem bu.op (hw:bB α.tm i.g=some true) (h:ad P w0 false i.q α S r S') (k:bu P w0 rd n Q (.aR false l K) (bJ i.d α r) S'):bu P w0 rd n Q (.aR false (i::l) K) α S:=by
 show ff P w0 n false (i::l) _ _ α S
 exact ff.op hw h k
theorem bu.no (hw:bB α.tm i.g=some false) (k:bu P w0 rd n Q (.aR false l K) (bJ i.d α (.v undef)) S):bu P w0 rd n Q (.aR false (i::l) K) α S:=by
 show ff P w0 n false (i::l) _ _ α S
 exact ff.skip hw k
theorem bu.cv {c:QC}(h:Cv w0 n α S ag S') (k:bu P w0 rd n Q (.run c K) ag S'):bu P w0 rd n Q (.run c K) α S:=by
 intro c0 hc hd
 obtain⟨ex,bG,bR,h1,h2⟩:=k c0 hc hd
 exact⟨ex,bG,bR,h1.cv h,h2⟩
theorem gk.congr {ops:Array Oper}{B:Nat}{D D':Nat->Dt × Option kN}:∀ {L:List Nat}{α ag:AA}{S S':aa},(∀ i ∈ L,D i=D' i)->gk P w0 n ops B D L α S ag S'->gk P w0 n ops B D' L α S ag S'
 |[],_,_,_,_,_,.nil ..=>.nil ..
 |i::rest,_,_,_,_,he,.cons h t=>.cons (by rw [<-he i (by simp)];exact h) (t.congr fun j hj=>he j (by simp [hj]))
theorem ua.step {B:Nat}{V:List (Nat × Nat)}{lg:List (List Nat × List Nat × Bool)}{d:Dt × Option kN}{α1:AA}{S1:aa}(hx:d.2=none->d.1.ok)
  (hg:∀ ops o rest,ops.drop lg.length=o::rest->ku n o.dst=true->o.dst=i.d->res P.toTables o.op=some i.q->(∀ b,bB α.tm i.g=some b->e_ ops α o=some b)->Co P w0 n ops.toArray B lg.length d α S α1 S1)
  (k:ua P w0 n B V (lg++[vH d]) l R α1 S1):ua P w0 n B V lg (i::l) R α S:=by
 intro ops hr hV
 obtain⟨o,rest,h1,h2,h3,h4,h5,h6⟩:=lR (α:=α) hr
 obtain⟨h7,h8⟩:=jY h1
 obtain⟨D,ag,S',k1,k2,k4,k3⟩:=k ops (by rw [List.length_append,List.length_singleton,h8];exact h2) hV
 simp only [List.length_append,List.length_singleton] at k1 k2 k4
 refine⟨fun i=>if i=lg.length then d else D i,ag,S',?_,?_,?_,k3⟩
 ·rw [List.length_cons,List.range'_succ]
  refine .cons (by rw [if_pos rfl];exact hg ops o rest h1 h3 h4 h5 h6) (k1.congr fun i hi=>?_)
  have:=(List.mem_range'_1.1 hi).1
  rw [if_neg (by omega)]
 ·rw [List.length_cons,List.range'_succ,List.map_cons]
  simp only [if_pos]
  have e:((List.range' (lg.length+1) l.length).map fun i=>vH (if i=lg.length then d else D i))=(List.range' (lg.length+1) l.length).map fun i=>vH (D i):=List.map_congr_left fun i hi=>by
   have:=(List.mem_range'_1.1 hi).1
   rw [if_neg (by omega)]
  rw [e]
  rw [List.append_assoc] at k2
  exact k2
 ·intro j hj hb
  rw [List.length_cons,List.range'_succ] at hj
  rcases List.mem_cons.1 hj with rfl|hj
  ·show ((if lg.length=lg.length then d else D lg.length):Dt × Option kN).1.ok
   have hb:((if lg.length=lg.length then d else D lg.length):Dt × Option kN).2=none:=hb
   rw [if_pos rfl] at hb ⊢
   exact hx hb
  ·have:=(List.mem_range'_1.1 hj).1
   show ((if j=lg.length then d else D j):Dt × Option kN).1.ok
   have hb:((if j=lg.length then d else D j):Dt × Option kN).2=none:=hb
   rw [if_neg (by omega)] at hb ⊢
   exact k4 j hj hb
theorem bu.mJ {B:Nat}{V:List (Nat × Nat)}{lg:List (List Nat × List Nat × Bool)}{rs:List Nat}{d:Dt}(hw:bB α.tm i.g=some true) (mD:d.ok) (h:a_ P w0 B i.q α S r d) (k:bu P w0 rd n Q (.dh B V (lg++[d.ns]) rs l K) (bJ i.d α r) (cJ S d.W d.m)):bu P w0 rd n Q (.dh B V lg rs (i::l) K) α S:=by
 intro ju hB
 refine ua.step (d:=(d,none)) (fun _=>mD) (fun ops o rest h1 h2 h3 h4 h5=>?_) (k ju (by rw [dp];exact Nat.le_trans hB (Nat.le_add_right _ _)))
 obtain⟨k1,k2,k3⟩:=h n o h4
 exact⟨o,(jY h1).1,h2,k1,hB,k2,rfl,.inr ⟨(xe (h5 _ hw)).1 rfl,r,by rw [mS,<-h3];cases o.dst<;>rfl,fun T hb ht hm=>k3 T hb ht hm⟩⟩
theorem bu.dno {B:Nat}{V:List (Nat × Nat)}{lg:List (List Nat × List Nat × Bool)}{rs:List Nat}(hw:bB α.tm i.g=some false) (k:bu P w0 rd n Q (.dh B V (lg++[([],[],false)]) rs l K) (bJ i.d α (.v undef)) S):bu P w0 rd n Q (.dh B V lg rs (i::l) K) α S:=by
 intro ju hB
 refine ua.step (d:=(.none_,none)) (fun _=>rfl) (fun ops o rest h1 h2 h3 h4 h5=>?_) (k ju hB)
 obtain⟨j,want,c,e1,e2,e3⟩:=(xe (h5 _ hw)).2 rfl
 exact⟨o,(jY h1).1,h2,fun _=>rfl,hB,(show fu S [] from fun p hp=>by cases hp),cE.symm,.inl ⟨j,want,c,e1,e2,e3,by rw [mS,<-h3];cases o.dst<;>rfl,rfl⟩⟩
def Cr:cB->Bool
 |.mv _|.pick ..|.build ..|.rows ..|.bin ..|.eqs ..|.not _|.neg _|.conv ..|.oo _|.KD _|.uE ..|.field ..|.lx ..|.nj ..|.sR ..|.q_ ..|.slice ..|.extract ..|.A0 ..|.uF _|.len ..|.min ..|.max ..=>true
 |_=>false
theorem Rh {o:Op}{q:cB}(h:res P.toTables o=some q) (hq:Cr q=false):l8 o=false:=by
 refine yy ?_
 cases o<;>simp only [res] at h<;>(repeat' split at h)<;>(try cases h)<;>first|rfl|(cases hq;done)|(simp only [kE, *])
def ln:cB->List QO
 |.mv x|.box x|.not x|.neg x|.conv _ x|.oo x|.uE _ x|.field _ _ x|.sS x|.oq x|.uF x|.KD x|.YX x|.RE _ x|.qt _ x|.nk x|.cap x|.extract x _|.len _ x|.load _ x=>[x]
 |.store _ a b|.bin _ _ a b|.lx _ a b|.nj _ _ a b|.sR a b|.q_ _ _ _ a b|.append _ _ a b|.min a b|.max a b|.look _ _ a b|.eqs _ a b|.del a b|.copy _ a b|.iI _ _ _ a b|.rb _ a b|.g7 _ _ a b|.yw _ _ a b=>[a,b]
 |.pick a b c|.gQ a b c|.l5 _ a b c|.re a b c=>[a,b,c]
 |.slice _ x a b c=>[x]++a.toList++b.toList++c.toList
 |.call f aZ9=>f::aZ9
 |.ft x=>x.toList
 |_=>[]
def x6:List QO->List Nat
 |[]=>[]
 |.t n::l=>n::x6 l
 |.c _::l=>x6 l
theorem y8 {t:Nat}:∀ {l:List QO},t ∈ x6 l->QO.t t ∈ l
 |[],h=>by cases h
 |.t n::l,h=>by
  rcases List.mem_cons.1 h with rfl|h
  ·exact List.mem_cons_self
  ·exact List.mem_cons_of_mem _ (y8 h)
 |.c a::l,h=>List.mem_cons_of_mem _ (y8 (l:=l) h)
theorem L6 {o:Op}{q:cB}(hq:Cr q=false) (h:res P.toTables o=some q):∀ x ∈ ln q,∃ y ∈ o.operands,x=qo y:=by
 have arr:∀ {c:Call}{x:Operand},x ∈ c.args.toList->x ∈ c.operands:=fun {c x} hx=>by
  have:=Array.mem_toList_iff.1 hx
  unfold Call.operands
  split<;>simp [this]
 have opt:∀ {z:Option Operand}{x:QO},x ∈ (z.map qo).toList->∃ y,z=some y/\x=qo y:=by
  intro z x hx
  cases z with
  |none=>simp at hx
  |some y=>simp at hx;exact⟨y,rfl,hx⟩
 cases o with
 |call c =>
  simp only [res] at h
  intro x hx
  split at h
  ·rename_i f hf
   obtain rfl:=Option.some.inj h
   simp only [ln,List.mem_cons,List.mem_map] at hx
   rcases hx with rfl|⟨y,hy,rfl⟩
   ·exact⟨f,by show f ∈ c.operands;simp [Call.operands,hf],rfl⟩
   ·exact⟨y,arr hy,rfl⟩
  ·have key:∀ {u v:Operand},c.args.toList=[u,v]->∀ y,y=u\/y=v->y ∈ c.operands:=fun e y hy=>arr (by rw [e];simpa using hy)
   have aaV:∀ {u:Operand},c.args.toList=[u]->u ∈ c.operands:=fun e=>arr (by rw [e];simp)
   repeat' split at h
   all_goals first
    |(cases h;done)
    |(obtain rfl:=Option.some.inj h
      simp only [ln,List.mem_cons,List.not_mem_nil,or_false] at hx
      first
       |(rcases hx with rfl|rfl
         exact⟨_,key (by assumption) _ (.inl rfl),rfl⟩
         exact⟨_,key (by assumption) _ (.inr rfl),rfl⟩)
       |(subst hx;exact⟨_,aaV (by assumption),rfl⟩)
       |fail "call")
    |fail "callall"
  ·cases h
 |makeMap t r =>
  simp only [res] at h
  split at h
  ·obtain rfl:=Option.some.inj h
   intro x hx
   obtain⟨y,rfl,rfl⟩:=opt hx
   exact⟨y,by simp [Op.operands],rfl⟩
  ·cases h
 |_ =>
  simp only [res] at h
  repeat' split at h
  all_goals first
   |(cases h;done)
   |(obtain rfl:=Option.some.inj h
     first
      |(cases hq;done)
      |(intro x hx;cases hx;done)
      |(intro x hx
        simp only [ln,List.mem_cons,List.not_mem_nil,or_false] at hx
        first
         |(cases hx;done)
         |(subst hx;exact⟨_,by simp [Op.operands],rfl⟩)
         |(rcases hx with rfl|rfl<;>exact⟨_,by simp [Op.operands],rfl⟩)
         |(rcases hx with rfl|rfl|rfl<;>exact⟨_,by simp [Op.operands],rfl⟩)
         |fail "ops")
      |fail "cs")
   |fail "all"
def u0 (L:List Nat) (f:Nat->AV):Nat->AV:=fun t=>match iC t L with|true=>f t|false=>.u
theorem wS {k:Nat}:∀ {l:List Nat},iC k l=true->k ∈ l
 |[],h=>by cases h
 |j::l,h=>by
  simp only [iC] at h
  split at h
  ·rename_i hb
   rw [Nat.eq_of_beq_eq_true hb]
   exact List.mem_cons_self
  ·exact List.mem_cons_of_mem _ (wS h)
theorem de.AT {o:Oper}{β:AA}(hw:∀ t,β.tm t=α.tm t\/β.tm t=.u) (hd:β.df=α.df) (h:de P w0 n o β S r S'):de P w0 n o α S r S':=by
 intro F m A g a w next R hF hS hA nb
 refine h F m A g a w next R hF hS ⟨hA.size,fun t ht=>?_,fun t ht=>?_,by rw [hd];exact hA.df,fun k hk=>hA.oN k (by rw [<-hd];exact hk)⟩ nb
 ·rcases hw t with e|e
  ·rw [e];exact hA.tm t ht
  ·rw [e];exact .u
 ·rcases hw t with e|e
  ·rw [e];exact hA.out t ht
  ·exact e
theorem bu.xop {B:Nat}{V:List (Nat × Nat)}{lg:List (List Nat × List Nat × Bool)}{rs:List Nat}(hw:bB α.tm i.g=some true) (hp:Cr i.q=false) (hn:S.nx<=S'.nx) {lw:kN}(hold:∀ k,Ey lw k=true->S'.get k=S.get k) (h:ad P w0 false i.q ⟨u0 (x6 (ln i.q)) α.tm,α.df⟩ S r S')
  (k:bu P w0 rd n Q (.dh B V (lg++[(lw.1::lw.2,[],true)]) rs l K) (bJ i.d α r) S'):bu P w0 rd n Q (.dh B V lg rs (i::l) K) α S:=by
 intro ju hB
 refine ua.step (d:=(.none_,some lw)) (fun e=>by cases e) (fun ops o rest h1 h2 h3 h4 h5=>?_) (k ju (Nat.le_trans hB hn))
 have hi:=(jY h1).1
 refine⟨o,hi,h2,by simp only [nH,hi];exact Rh h4 hp,hB,hn,hold,(xe (h5 _ hw)).1 rfl,r,by rw [mS,<-h3];cases o.dst<;>rfl,?_⟩
 refine de.AT (β:=⟨u0 (x6 (ln i.q)) α.tm,α.df⟩) (fun t=>?_) rfl (h n o h4)
 show u0 (x6 (ln i.q)) α.tm t=(α.only (bU o)).tm t\/u0 (x6 (ln i.q)) α.tm t=.u
 unfold u0
 cases hm:iC t (x6 (ln i.q)) with
 |false=>exact .inr rfl
 |true =>
  left
  obtain⟨y,hy,e⟩:=L6 hp h4 _ (y8 (wS hm))
  have:t ∈ bU o:=by
   cases y with
   |tmp t' =>
    injection e with e
    subst e
    exact dA hy
   |_=>cases e
  show α.tm t=if (bU o).contains t then α.tm t else .u
  rw [if_pos (by simpa using this)]
theorem bu.aaW {B:Nat}{V:List (Nat × Nat)}{lg:List (List Nat × List Nat × Bool)}{rs:List Nat}(hc:L5 V lg=true) (h:bu P w0 rd n Q (.out .normal K) α S):bu P w0 rd n Q (.dh B V lg rs [] K) α S:=by
 intro ju hB
 exact fun ops _ _=>⟨fun _=>(.none_,none),α,S,.nil ..,by simpa using hc,fun i hi=>(by cases hi),h⟩
structure ae (P:Program) (f:FuncId) (q:QC × List QR) (n:Nat):Prop where
 out:∃ fn c,P.funcs[f]?=some fn/\fn.body=some c/\fn.ntmps=n/\pY P.toTables fn.results.toList=some q.2/\bD P.toTables n c=some q.1/\cg P c=true/\∀ (xs:Array Value) (w:World),(callFunc f xs).run P w=.ok (.enter f xs) w
def af (T:Tables) (fn:Func):Option (QC × List QR):=match fn.body with
 |some c=>match bD T fn.ntmps c,pY T fn.results.toList with
  |some q,some qs=>some (q,qs)
  |_,_=>none
 |none=>none
theorem ae.of {f:FuncId}{q:QC × List QR}{fn:Func}{T:Tables}(hf:P.funcs[f]?=some fn) (hq:af T fn=some q) (hT:P.toTables=T) (hn:fn.ntmps=n) (hd:xh P fn=true)
  (hc:∀ (xs:Array Value) (w:World),(callFunc f xs).run P w=.ok (.enter f xs) w):ae P f q n:=by
 subst hT
 unfold af at hq
 unfold xh at hd
 cases hb:fn.body with
 |none=>rw [hb] at hq;cases hq
 |some c =>
  rw [hb] at hq hd
  simp only at hq
  split at hq
  ·rename_i q1 qs h1 h2
   obtain rfl:=Option.some.inj hq
   exact⟨⟨fn,c,hf,hb,hn,h2,by rw [<-hn];exact h1,hd,hc⟩⟩
  ·cases hq
theorem bu.mono {Q':Exit->AA->aa->Prop}(hm:∀ ex α S,Q ex α S->Q' ex α S) {c:QC}(h:bu P w0 rd n Q (.run c []) α S):bu P w0 rd n Q' (.run c []) α S:=by
 intro c0 hc hd
 obtain⟨ex,ag,S',h1,h2⟩:=h c0 hc hd
 exact⟨ex,ag,S',h1,hm _ _ _ h2⟩
theorem ae.eQ {f:FuncId}{q:QC × List QR}{args:List AV}(F:ae P f q n) (aT:args.length<=n) (hp:Pure r) (h:bu P w0 false n (oM q.2 fun r' S=>bX S r' r) (.run q.1 []) ⟨j7 args,[]⟩ aa.none_):av P w0 f args r:=by
 obtain⟨fn,c,hf,hb,hn,hr,hq,hd,hc⟩:=F.out
 exact av.of_wp hf hb hc hn aT hp (bu.mono (fun ex α S=>xg hr) h c hq hd)
theorem ae.w8 {f:FuncId}{q:QC × List QR}{args:List AV}{R:AV->aa->Prop}(F:ae P f q n) (aT:args.length<=n) (h:bu P w0 false n (oM q.2 R) (.run q.1 []) ⟨j7 args,[]⟩ S):∃ r S',aE P w0 f args S r S'/\R r S':=by
 obtain⟨fn,c,hf,hb,hn,hr,hq,hd,hc⟩:=F.out
 exact aE.of_wp hf hb hc hn aT (bu.mono (fun ex α S=>xg hr) h c hq hd)
end
end Go.Proofs.YtgjfgekaclobaaaGreat
