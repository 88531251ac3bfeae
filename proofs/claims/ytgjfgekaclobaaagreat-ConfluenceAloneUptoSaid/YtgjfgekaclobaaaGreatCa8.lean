import Derived.Test.YtgjfgekaclobaaaGreatCa7
namespace Go.Proofs.YtgjfgekaclobaaaGreat
set_option linter.unusedVariables false
set_option linter.unusedSimpArgs false
open Go.RowKit
inductive It where
 |seq (c:Code)
 |oS (id:Nat)
inductive Cf where
 |run (c:Code) (K:List It)
 |out (ex:Exit) (K:List It)
 |aU (ops l:List Oper) (K:List It)
 |dr (ops l:List Oper) (K:List It)
section
variable (P:Program) (w0:World) (rd:Bool) (n:Nat)
def Wp (c:Code) (Q:Exit->AA->ad->Prop) (α:AA) (S:ad):Prop:=∃ ex aw S',cu P w0 rd n c α S ex aw S'/\Q ex aw S'
def cont (Q:Exit->AA->ad->Prop):List It->Exit->AA->ad->Prop
 |[]=>Q
 |.seq b::K=>fun ex α S=>match ex with|.normal=>Wp P w0 rd n b (cont Q K) α S|e=>cont Q K e α S
 |.oS id::K=>fun ex α S=>match ex with|.exit j=>(match Nat.beq j id with|true=>cont Q K .normal α S|false=>cont Q K (.exit j) α S)|e=>cont Q K e α S
def JD (Q:Exit->AA->ad->Prop):Cf->AA->ad->Prop
 |.run c K,α,S=>Wp P w0 rd n c (cont P w0 rd n Q K) α S
 |.out ex K,α,S=>cont P w0 rd n Q K ex α S
 |.aU ops l K,α,S=>wu P w0 n ops l (fun α S=>cont P w0 rd n Q K .normal α S) α S
 |.dr ops l K,α,S=>kJ P w0 n ops l (fun α S=>cont P w0 rd n Q K .normal α S) α S
def mv:Cf->AA->ad->Option (Cf × AA × ad)
 |.run c K,α,S=>match c with
  |.skip=>some (.out .normal K,α,S)
  |.region _ ops false=>some (.aU ops.toList ops.toList K,α,S)
  |.seq a b=>some (.run a (.seq b::K),α,S)
  |.cond c a b=>match α.ev c with
   |.v (.bool true)=>some (.run a K,α,S)
   |.v (.bool false)=>some (.run b K,α,S)
   |_=>none
  |.block id c=>some (.run c (.oS id::K),α,S)
  |.exit id=>some (.out (.exit id) K,α,S)
  |.ret=>some (.out .ret K,α,S)
  |_=>none
 |.out ex K,α,S=>match K with
  |[]=>none
  |.seq b::K=>match ex with
   |.normal=>some (.run b K,α,S)
   |e=>some (.out e K,α,S)
  |.oS id::K=>match ex with
   |.exit j=>match Nat.beq j id with
    |true=>some (.out .normal K,α,S)
    |false=>some (.out (.exit j) K,α,S)
   |e=>some (.out e K,α,S)
 |.aU ops l K,α,S=>match E5 P n ops l α S with
  |([],aw,S')=>some (.out .normal K,aw,S')
  |(_::_,_,_)=>none
 |.dr ops l K,α,S=>match E5 P n ops l α S with
  |([],aw,S')=>some (.out .normal K,aw,S')
  |(_::_,_,_)=>none
end
section
variable {P:Program}{w0:World}{rd:Bool}{n:Nat}{α aw:AA}{S S':ad}{Q Q':Exit->AA->ad->Prop}{c a b:Code}{ex:Exit}
theorem Wp.of (h:cu P w0 rd n c α S ex aw S') (k:Q ex aw S'):Wp P w0 rd n c Q α S:=⟨_,_,_,h,k⟩
theorem Wp.seq (h:Wp P w0 rd n a (fun ex α S=>match ex with|.normal=>Wp P w0 rd n b Q α S|e=>Q e α S) α S):Wp P w0 rd n (.seq a b) Q α S:=by
 obtain⟨ex,bE,bT,h1,h2⟩:=h
 cases ex with
 |normal =>
  obtain⟨ex',aw,S',h3,h4⟩:=h2
  exact⟨ex',aw,S',cu.seq h1 h3,h4⟩
 |_=>exact⟨_,bE,bT,cu.XY h1 (by simp),h2⟩
theorem Wp.cond {o:Operand}{t:Bool}(ho:α.ev o=.v (.bool t)) (h:Wp P w0 rd n (if t then a else b) Q α S):Wp P w0 rd n (.cond o a b) Q α S:=by
 obtain⟨ex,aw,S',h1,h2⟩:=h
 exact⟨ex,aw,S',cu.cond ho h1,h2⟩
theorem Wp.block {id:Nat}(h:Wp P w0 rd n c (fun ex α S=>match ex with|.exit j=>(match Nat.beq j id with|true=>Q .normal α S|false=>Q (.exit j) α S)|e=>Q e α S) α S):Wp P w0 rd n (.block id c) Q α S:=by
 obtain⟨ex,aw,S',h1,h2⟩:=h
 cases ex with
 |exit j =>
  simp only at h2
  split at h2
  ·rename_i hj
   have:=Nat.eq_of_beq_eq_true hj
   subst this
   exact⟨_,aw,S',cu.JZ h1,h2⟩
  ·rename_i hj
   have a_:j ≠ id:=fun e=>by subst e;rw [Nat.beq_refl] at hj;cases hj
   exact⟨_,aw,S',cu.block h1 (fun e=>a_ (by injection e)),h2⟩
 |_=>exact⟨_,aw,S',cu.block h1 (by simp),h2⟩
theorem kJ.wp {id:Nat}{ops:Array Oper}(lN:(P.follows .mixedOrders && AU ops)=true) (h:kJ P w0 n ops.toList ops.toList (fun α S=>Q .normal α S) α S):Wp P w0 rd n (.region id ops true) Q α S:=by
 simp only [Bool.and_eq_true] at lN
 obtain⟨aw,S',h1,h2⟩:=h 0 rfl
 rw [Array.length_toList,<-List.range_eq_range'] at h1
 exact⟨_,aw,S',cu.draw lN.1 lN.2 h1,h2⟩
end
section
variable {P:Program}{w0:World}{rd:Bool}{n:Nat}{α aw:AA}{S S':ad}{Q:Exit->AA->ad->Prop}{c a b:Code}{ex:Exit}{K:List It}{r:AV}{ops rest:List Oper}{o:Oper}
theorem JD.op (hd:nv n o.dst=true) (hw:ig ops α o=some true) (h:aX P w0 o.op α S (rB r S')) (k:JD P w0 rd n Q (.aU ops rest K) (rA o.dst α r) S'):JD P w0 rd n Q (.aU ops (o::rest) K) α S:=wu.op hd hw h k
def ag5 (P:Program) (w0:World) (rd:Bool) (n:Nat) (I:Nat->AA->ad->Prop) (Q:Exit->AA->ad->Prop) (K:List It) (k:Nat):Exit->AA->ad->Prop :=
 fun ex α S=>match ex with|.normal=>∃ j,j < k/\I j α S|e=>JD P w0 rd n Q (.out e K) α S
theorem JD.next {I:Nat->AA->ad->Prop}{k:Nat}(j:Nat) (hj:j < k) (h:I j α S):JD P w0 rd n (ag5 P w0 rd n I Q K k) (.out .normal []) α S:=⟨j,hj,h⟩
def A0:Exit->Bool|.normal=>true|.ret=>true|_=>false
end
def cn (i:Int):Value:=.int .i64 i
def iC:List (Value × AV)->Int->Option Nat
 |[],_=>none
 |p::es,i=>match p.1 with
  |.int _ n=>match decide (n=i) with|true=>some 0|false=>(iC es i).map (·+1)
  |_=>(iC es i).map (·+1)
def nA (es:List (Value × AV)) (i:Int):Option AV:=match iC es i with|some j=>(es[j]?).map (·.2)|none=>none
def tw (es:List (Value × AV)) (i:Int) (b:AV):List (Value × AV):=match iC es i with|some j=>es.set j (cn i,b)|none=>es++[(cn i,b)]
def CQ (es:List (Value × AV)) (i:Int):List (Value × AV):=match iC es i with|some j=>es.eraseIdx j|none=>es
def kN (es:List (Value × AV)):Prop:=∀ p ∈ es,∃ n,p.1=cn n
theorem rp:∀ {es:List (Value × AV)}{i:Int}{j:Nat},kN es->iC es i=some j->∃ a,es[j]?=some (cn i,a)
 |[],i,j,_,h=>by cases h
 |p::es,i,j,hk,h=>by
  obtain⟨n,hn⟩:=hk p (by simp)
  simp only [iC,hn,cn] at h
  split at h
  ·rename_i e
   obtain rfl:=of_decide_eq_true e
   obtain rfl:=oJ_ h
   exact⟨p.2,by rw [List.getElem?_cons_zero,<-hn]⟩
  ·cases hx:iC es i with
   |none=>rw [hx] at h;cases h
   |some j' =>
    rw [hx] at h
    obtain rfl:=oJ_ h
    obtain⟨a,ha⟩:=rp (fun q hq=>hk q (by simp [hq])) hx
    exact⟨a,by simpa using ha⟩
theorem Cl {kk:IntKind}{i:Int}:∀ {es:List (Value × AV)}{L:List MapEntry}{o:Nat},kN es->L.length=es.length->(∀ (j:Nat) (k:Value) (a:AV) (e:MapEntry),es[j]?=some (k,a)->L[j]?=some e->e.key=k) ->
  Instr.findNow (.int kk) (cn i) L o=some (match iC es i with|some j=>(L[j]?).map fun e=>(j+o,e.val)|none=>none)
 |[],[],o,_,_,_=>rfl
 |p::es,e::L,o,hk,hl,h=>by
  obtain⟨n,hn⟩:=hk p (by simp)
  have Z9:e.key=cn n:=by rw [h 0 p.1 p.2 e rfl rfl,hn]
  simp only [Instr.findNow,Z9,cn,Instr.sameNow,if_true,iC,hn]
  by_cases c:n=i
  ·subst c
   simp
  ·have c':¬ i=n:=fun e=>c e.symm
   simp only [c,decide_false,beq_eq_false_iff_ne.2 c']
   have ih:=Cl (kk:=kk) (i:=i) (es:=es) (L:=L) (o:=o+1) (fun q hq=>hk q (by simp [hq])) (by simpa using hl) (fun j k a e' h1 h2=>h (j+1) k a e' (by simpa using h1) (by simpa using h2))
   simp only [cn] at ih
   rw [ih]
   congr 1
   cases iC es i with
   |none=>rfl
   |some j=>simp only [Option.map_some,List.getElem?_cons_succ];congr 1;funext x;congr 1;omega
 |[],_::_,_,_,hl,_=>by simp at hl
 |_::_,[],_,_,hl,_=>by simp at hl
section
variable {P:Program}{w0:World}{n:Nat}{o:Oper}{α:AA}{S S':ad}{r:AV}
theorem ng {g:Gh}{w:World}{k:Nat}{v:Value}(h:aH g w (.mp k) v):v=.map (some (g.ob k))/\g.al k:=by
 cases h with
 |mp hk=>exact⟨rfl,hk⟩
theorem run_checkKey {kt:TypeId}{kk:IntKind}{w:World}(h:P.underlying kt=some (.int kk)) (b:Bool) (i:Int):(Instr.checkKey b 10000 kt (cn i)).run P w=.ok () w:=by
 rw [show (10000:Nat)=9999+1 from rfl,Instr.checkKey]
 simp [run_underlying h,cn,Sem.run_bind]
theorem run_findKey {kt:TypeId}{kk:IntKind}{w:World}{i:Int}{L:List MapEntry}{x:Option (Nat × Value)}(h:P.underlying kt=some (.int kk)) (hx:Instr.findNow (.int kk) (cn i) L 0=some x):(Instr.findKey kt (cn i) L).run P w=.ok x w:=by
 simp only [Instr.findKey,Sem.run_bind,run_underlying h,Result.andThen_ok,hx,Sem.run_pure]
theorem en {w:World}{b:Nat}{es:Array MapEntry}{clock:Nat}(h:w.heap[b]?=some (.map es clock)):(getObj b).run P w=.ok (.map es clock) w:=by
 simp [getObj,Sem.run,h]
theorem xr {g:Gh}{w:World}{es:List (Value × AV)}{entries:Array MapEntry}(bh:entries.size=es.length) (he:∀ (i:Nat) (k:Value) (a:AV),es[i]?=some (k,a)->∃ e:MapEntry,entries[i]?=some e/\e.key=k/\aH g w a e.val) (hk:kN es) {kk:IntKind}(i:Int) :
  Instr.findNow (.int kk) (cn i) entries.toList 0=some (match iC es i with|some j=>(entries[j]?).map fun e=>(j,e.val)|none=>none):=by
 have h:=Cl (kk:=kk) (i:=i) (es:=es) (L:=entries.toList) (o:=0) hk (by simpa using bh) (fun j k a e h1 h2=>by
  obtain⟨e',h3,h4,_⟩:=he j k a h1
  rw [Array.getElem?_toList,h3] at h2
  rw [<-oJ_ h2];exact h4)
 simpa using h
theorem xq {t kt et:TypeId}{kk:IntKind}{x i:Operand}{k:Nat}{es:List (Value × AV)}{z:Value}{m:Int}{c:Bool}(ho:o.op=.lookup t x i c) (ht:P.underlying t=some (.map kt et)) (nh:P.underlying kt=some (.int kk)) (hz:cU P et=some z)
  (hx:α.ev x=.mp k) (hE:∀ (A:Nat->Prop) (g:Gh) (w:World),St w0 A g S w->g.al k->∃ (entries:Array MapEntry) (clock:Nat),w.heap[g.ob k]?=some (.map entries clock)/\entries.size=es.length/\∀ (i:Nat) (k:Value) (a:AV),es[i]?=some (k,a)->∃ e:MapEntry,entries[i]?=some e/\e.key=k/\aH g w a e.val) (hk:kN es) (hi:α.ev i=.v (cn m)):aS P w0 n o α S (match nA es m with|some a=>(if c then .aE [a,.v (.bool true)] else a)|none=>(if c then .aE [lift z,.v (.bool false)] else lift z)) S:=by
 refine aS.quiet fun A g q w cQ hA=>?_
 have h1:=hA.ev x
 have h2:=hA.ev i
 rw [hx] at h1
 rw [hi] at h2
 obtain⟨e1,aO⟩:=ng h1
 have e2:=bO h2
 obtain⟨entries,clock,p1,p2,p3⟩:=hE A g w cQ aO
 have hf:=xr p2 p3 hk (kk:=kk) m
 obtain⟨inf,an8,qB⟩:∃ inf,P.info? et=some inf/\inf.zero=some z:=by
  unfold cU at hz
  cases hp:P.info? et with
  |none=>rw [hp] at hz;cases hz
  |some inf=>rw [hp] at hz;exact⟨inf,rfl,hz⟩
 have fin:∀ (v:Value) (b:Bool) (a:AV),aH g w a v->aH g w (if c then .aE [a,.v (.bool b)] else a) (if c then .tuple #[v,.bool b] else v):=by
  intro v b a hr
  cases c with
  |false=>exact hr
  |true =>
   refine .aE rfl fun i y x hy hx=>?_
   match i with
   |0=>simp at hy hx;subst hy hx;exact hr
   |1=>simp at hy hx;subst hy hx;exact .v
   |i+2=>simp at hy
 unfold nA
 cases hj:iC es m with
 |none =>
  rw [hj] at hf
  refine⟨_,?_,fin z false (lift z) (rO z)⟩
  simp only [execOp,ho,e1,e2,Instr.lookup,Sem.run_bind,run_underlying ht,Result.andThen_ok,en p1,Sem.run_pure,run_checkKey nh,run_findKey nh hf,kG hz]
 |some j =>
  obtain⟨a,ha⟩:=rp hk hj
  obtain⟨e,q1,q2,q3⟩:=p3 j _ a ha
  rw [hj] at hf
  simp only [q1,Option.map_some] at hf
  simp only [ha,Option.map_some]
  refine⟨_,?_,fin e.val true a q3⟩
  simp only [execOp,ho,e1,e2,Instr.lookup,Sem.run_bind,run_underlying ht,Result.andThen_ok,en p1,Sem.run_pure,run_checkKey nh,run_findKey nh hf]
theorem QD {t kt et:TypeId}{kk:IntKind}{x i:Operand}{k:Nat}{es:List (Value × AV)}{z:Value}{m:Int}{c:Bool}(ho:o.op=.lookup t x i c) (ht:P.underlying t=some (.map kt et)) (nh:P.underlying kt=some (.int kk)) (hz:cU P et=some z)
  (hx:α.ev x=.mp k) (hS:S.get k=some (.mp es)) (hk:kN es) (hi:α.ev i=.v (cn m)):aS P w0 n o α S (match nA es m with|some a=>(if c then .aE [a,.v (.bool true)] else a)|none=>(if c then .aE [lift z,.v (.bool false)] else lift z)) S :=
 xq ho ht nh hz hx (fun A g w cQ aO=>(cQ.bR k _ hS aO).2.2) hk hi
theorem St.ue {A:Nat->Prop}{g:Gh}{w:World}{k:Nat}{es es':List (Value × AV)}{entries entries':Array MapEntry}{clock clock':Nat}(hS:St w0 A g S w) (hk:S.get k=some (.mp es)) (ha:g.al k) (hm:w.heap[g.ob k]?=some (.map entries clock))
  (bh:entries'.size=es'.length) (he:∀ (i:Nat) (k:Value) (a:AV),es'[i]?=some (k,a)->∃ e:MapEntry,entries'[i]?=some e/\e.key=k/\aH g w a e.val) :
  ∃ w',(setObj (g.ob k) (.map entries' clock')).run P w=.ok () w'/\St w0 A g (S.set k (some (.mp es'))) w'/\Ext A g w g w':=by
 have aA:=(hS.bR k _ hk ha).2.1
 have qN:({ w with heap:=w.heap.setIfInBounds (g.ob k) (.map entries' clock') }:World).heap[g.ob k]?=some (.map entries' clock'):=by simp [Array.getElem?_setIfInBounds,aA]
 obtain⟨h1,h2⟩:=hS.putObj (ob:=.mp es') hk ha (fun J=>⟨by simp,by simp⟩) (x':=.map entries' clock') rfl (fun q=>by simp only [World.cell?,qN,hm]) (fun hL hb=>⟨entries',clock',hb,bh,fun i key a hi=>by
  obtain⟨e,q1,q2,q3⟩:=he i key a hi
  exact⟨e,q1,q2,q3.later hL⟩⟩)
 exact⟨_,by simp [setObj,Sem.run,hm],h2,h1⟩
theorem Of {t:TypeId}(ho:o.op=.makeMap t none):aS P w0 n o α S (.mp S.nx) (S.new (.mp [])):=by
 intro A g q w hS hA
 obtain⟨h1,h2⟩:=hS.new (.map #[] 0) (.mp []) 0 (fun J=>by simp) (fun hL=>⟨#[],0,c_,rfl,fun i k a h=>by simp at h⟩)
 have hr:=aH.mp (g:=g.new S.nx w.heap.size 0) (w:=w.alloc (.map #[] 0)) (k:=S.nx) (.inr rfl)
 rw [show (g.new S.nx w.heap.size 0).ob S.nx=w.heap.size from aq _ _ _] at hr
 refine⟨_,_,_,.inl ?_,hr,h2,h1⟩
 simp [execOp,ho,Instr.makeMap,newObj,Sem.run]
theorem JR {t kt et:TypeId}{x:Operand}{kk:IntKind}{m:Int}(ho:o.op=.makeMap t (some x)) (ht:P.underlying t=some (.map kt et)) (hx:α.ev x=.v (.int kk m)):aS P w0 n o α S (.mp S.nx) (S.new (.mp [])):=by
 intro A g q w hS hA
 have h0:=hA.ev x
 rw [hx] at h0
 have e0:=bO h0
 obtain⟨h1,h2⟩:=hS.new (.map #[] 0) (.mp []) 0 (fun J=>by simp) (fun hL=>⟨#[],0,c_,rfl,fun i k a h=>by simp at h⟩)
 have hr:=aH.mp (g:=g.new S.nx w.heap.size 0) (w:=w.alloc (.map #[] 0)) (k:=S.nx) (.inr rfl)
 rw [show (g.new S.nx w.heap.size 0).ob S.nx=w.heap.size from aq _ _ _] at hr
 refine⟨_,_,_,.inl ?_,hr,h2,h1⟩
 simp [execOp,ho,Instr.makeMap,newObj,Sem.run,e0,run_underlying ht,asInt,asIntOf]
theorem Fx {t kt et:TypeId}{kk:IntKind}{x i y:Operand}{k:Nat}{es:List (Value × AV)}{m:Int}{b:AV}(ho:o.op=.mapUpdate t x i y) (ht:P.underlying t=some (.map kt et)) (nh:P.underlying kt=some (.int kk))
  (hx:α.ev x=.mp k) (hS:S.get k=some (.mp es)) (hk:kN es) (hi:α.ev i=.v (cn m)) (hy:α.ev y=b):aS P w0 n o α S (.v undef) (S.set k (some (.mp (tw es m b)))):=by
 intro A g q w cQ hA
 have h1:=hA.ev x
 have h2:=hA.ev i
 have h3:=hA.ev y
 rw [hx] at h1
 rw [hi] at h2
 rw [hy] at h3
 obtain⟨e1,aO⟩:=ng h1
 have e2:=bO h2
 obtain⟨v,hv⟩:∃ v,q.eval y=v:=⟨_,rfl⟩
 rw [hv] at h3
 obtain⟨_,_,entries,clock,p1,p2,p3⟩:=cQ.bR k _ hS aO
 have hf:=xr p2 p3 hk (kk:=kk) m
 have hlen:entries.toList.length=entries.size:=Array.length_toList
 unfold tw
 cases hj:iC es m with
 |none =>
  rw [hj] at hf
  obtain⟨w',q1,q2,q3⟩:=cQ.ue (P:=P) hS aO p1 (entries':=entries.push { key:=cn m,val:=v,born:=clock }) (clock':=clock+1) (es':=es++[(cn m,b)]) (by simp [p2]) (fun i key a hi=>by
   by_cases c:i < es.length
   ·rw [List.getElem?_append_left c] at hi
    obtain⟨e,r1,r2,r3⟩:=p3 i key a hi
    exact⟨e,by rw [Array.getElem?_push_lt (by omega)];rw [Array.getElem?_eq_getElem (by omega)] at r1;exact r1,r2,r3⟩
   ·rw [List.getElem?_append_right (by omega)] at hi
    have Br:i=es.length:=by
     have:=(List.getElem?_eq_some_iff.1 hi).1
     simp at this;omega
    subst Br
    simp at hi
    obtain⟨rfl,rfl⟩:=hi
    exact⟨{ key:=cn m,val:=v,born:=clock },by rw [<-p2];simp,rfl,h3⟩)
  refine⟨undef,w',g,.inr ⟨?_,rfl⟩,.v,q2,q3⟩
  simp only [execOp,ho,e1,e2,hv,Instr.mapUpdate,Sem.run_bind,run_underlying ht,Result.andThen_ok,en p1,run_checkKey nh,run_findKey nh hf,q1,Sem.run_pure]
 |some j =>
  obtain⟨a,ha⟩:=rp hk hj
  obtain⟨e,r1,r2,r3⟩:=p3 j _ a ha
  rw [hj] at hf
  simp only [r1,Option.map_some] at hf
  have gp:j < entries.size:=(Array.getElem?_eq_some_iff.1 r1).1
  obtain⟨w',q1,q2,q3⟩:=cQ.ue (P:=P) hS aO p1 (entries':=entries.modify j fun e=>{ e with key:=cn m,val:=v }) (clock':=clock) (es':=es.set j (cn m,b)) (by simp [p2]) (fun i key a' hi=>by
   rw [List.getElem?_set] at hi
   by_cases c:j=i
   ·subst c
    rw [if_pos rfl,if_pos (by omega)] at hi
    simp only [oI_,pI_] at hi
    obtain⟨rfl,rfl⟩:=hi
    exact⟨{ e with key:=cn m,val:=v },by rw [Array.getElem?_modify,if_pos rfl,r1];rfl,rfl,h3⟩
   ·rw [if_neg c] at hi
    obtain⟨e',s1,s2,s3⟩:=p3 i key a' hi
    exact⟨e',by rw [Array.getElem?_modify,if_neg c];exact s1,s2,s3⟩)
  refine⟨undef,w',g,.inr ⟨?_,rfl⟩,.v,q2,q3⟩
  have lr:(Instr.keyThatStays (((entries[j]?).map (·.key)).getD (cn m)) (cn m)).run P w=.ok (cn m) w:=by
   rw [r1]
   simp [Instr.keyThatStays,r2,Instr.sameBits,cn]
  simp only [execOp,ho,e1,e2,hv,Instr.mapUpdate,Sem.run_bind,run_underlying ht,Result.andThen_ok,en p1,run_checkKey nh,run_findKey nh hf,lr,q1,Sem.run_pure]
end
inductive QO where
 |t (n:Nat)
 |c (a:AV)
def QO.ev (f:Nat->AV):QO->AV
 |.t n=>f n
 |.c a=>a
def qo:Operand->QO
 |.tmp t=>.t t
 |.const v=>.c (lift v)
 |.global g=>.c (.v (.pointer (some ⟨g,0,none⟩)))
 |.func f=>.c (.v (.func (.func f) #[] #[]))
theorem aJ {α:AA}(x:Operand):(qo x).ev α.tm=α.ev x:=by cases x<;>rfl
inductive LK where
 |agg (n:Nat)
 |cell
inductive SK where
 |str
 |sl (n:Nat)
inductive BK where
 |b
 |s
 |o
 |f
 |p
inductive dp where
 |mv (x:QO)
 |pick (c a b:QO)
 |alloc (cs:List AV)
 |box (x:QO)
 |build (cs:List AV) (parts:List (Nat × Nat × QO))
 |rows (n:Nat) (rows:List (List AV)) (parts:List (Nat × QO))
 |load (k:LK) (x:QO)
 |store (n:Nat) (x b:QO)
 |bin (op:BinOp) (isB:BK) (x y:QO)
 |not (x:QO)
 |neg (x:QO)
 |conv (k:IntKind) (x:QO)
 |qL (x:QO)
 |yH (off:Nat) (x:QO)
 |field (k:LK) (off:Nat) (x:QO)
 |ny (n:Nat) (x i:QO)
 |pK (len n:Nat) (x i:QO)
 |wD (x i:QO)
 |nI (len n:Nat) (k:LK) (x i:QO)
 |slice (k:SK) (x:QO) (lo hi mx:Option QO)
 |extract (x:QO) (i:Nat)
 |im (z:List AV) (by_:Nat) (l c:QO)
 |wJ (x:QO)
 |qM (x:QO)
 |Fv (f:Fn) (first cap:List QO)
 |yI (x:QO)
 |call (f:QO) (args:List QO)
 |len (str:Bool) (x:QO)
 |append (sz by_:Nat) (a b:QO)
 |min (x y:QO)
 |max (x y:QO)
 |R7 (x:QO)
 |fk (x:Option QO)
 |look (z:AV) (c:Bool) (x i:QO)
 |jf (x i b:QO)
 |wB (x:QO)
 |CG (t:Nat) (x:QO)
 |eqs (t:Nat) (x y:QO)
 |del (x i:QO)
 |copy (sz:Nat) (a b:QO)
 |uE (z:List AV) (a:QO)
 |pZ (a:QO)
 |cap (a:QO)
 |C8 (z:List AV) (by_:Nat) (a m:QO)
 |fm (kt:Nat) (z:AV) (c:Bool) (x i:QO)
 |lS (kt:Nat) (x i b:QO)
 |vn (z:AV) (x i:QO)
 |vo (x i b:QO)
 |assert (t:Nat) (c:Bool) (x:QO)
def eG (T:Tables) (t:TypeId):Option TypeDesc :=
 match T.info? t with
 |some { desc:=.named _ u,.. }=>(T.info? u).map (·.desc)
 |some i=>some i.desc
 |none=>none
def agT (T:Tables) (t:TypeId):Option Bool :=
 match eG T t with
 |some (.struct _)|some (.array _ _)=>some true
 |some _=>some false
 |none=>none
def qJ (T:Tables) (t:TypeId):Option Nat:=(T.info? t).map (·.size)
def Wo (T:Tables) (t:TypeId):Option Nat:=(T.info? t).map (·.bytes)
def zU (T:Tables) (t:TypeId):Option Value:=(T.info? t).bind (·.zero)
def HL (T:Tables) (t:TypeId):Option TypeId:=match eG T t with|some (.slice e)=>some e|_=>none
def plT (T:Tables) (fs:Array Field) (i:Nat):Option (Nat × Nat) :=
 match fs[i]? with
 |some f=>match qJ T f.type with|some n=>some (f.offset,n)|none=>none
 |none=>none
def Fg (T:Tables) (t:TypeId):Option LK:=match agT T t,qJ T t with
 |some true,some n=>some (.agg n)
 |some false,_=>some .cell
 |_,_=>none
section
variable {P:Program}
theorem bF (t:TypeId):eG P.toTables t=P.underlying t:=rfl
theorem acs (t:TypeId):agT P.toTables t=J2 P t:=rfl
theorem dJ (t:TypeId):qJ P.toTables t=cP P t:=rfl
theorem k_ (t:TypeId):Wo P.toTables t=gV P t:=rfl
theorem gn (t:TypeId):zU P.toTables t=cU P t:=rfl
theorem jE (t:TypeId):HL P.toTables t=fJ P t:=rfl
theorem oR (fs:Array Field):plT P.toTables fs=FR P fs:=rfl
end
def oB (k:LK) (row:List AV) (j:Nat):Option AV:=match k with
 |.agg n=>match Nat.ble (j+n) row.length with|true=>some (.agg (J3 row j n))|false=>none
 |.cell=>row[j]?
theorem xp {P:Program}{t:TypeId}{k:LK}(h:Fg P.toTables t=some k) (row:List AV) (j:Nat):mL P t row j=oB k row j:=by
 unfold Fg at h
 simp only [acs,dJ] at h
 unfold mL
 split at h
 ·rename_i n h1 h2;obtain rfl:=oJ_ h;rw [h1,h2];rfl
 ·rename_i h1;obtain rfl:=oJ_ h;rw [h1];rfl
 ·cases h
def kX (k:LK) (S:ad):AV->Option AV
 |.ip row=>oB k row 0
 |.pt b sz i j=>match S.get b with
  |some (.arr sz' rows _ _)=>match Nat.beq sz sz' with
   |true=>match rows[i]? with
    |some row=>oB k row j
    |none=>none
   |false=>none
  |_=>none
 |_=>none
theorem DA {P:Program}{t:TypeId}{k:LK}(h:Fg P.toTables t=some k) (S:ad) (a:AV):sW P S t a=kX k S a:=by
 unfold sW kX
 simp only [xp h]
 rfl
def HM (place:Nat->Option (Nat × Nat)):List (Nat × Operand)->Option (List (Nat × Nat × QO))
 |[]=>some []
 |(i,x)::rest=>match place i with
  |some (off,size)=>match HM place rest with
   |some l=>some ((off,size,qo x)::l)
   |none=>none
  |none=>none
def E6 (f:Nat->AV):List AV->List (Nat × Nat × QO)->Option (List AV)
 |cells,[]=>some cells
 |cells,(off,size,x)::rest=>match Nat.beq (aP (x.ev f)).length size && Nat.ble (off+size) cells.length && (aP (x.ev f)).all bQ with
  |true=>E6 f (lJ cells off (aP (x.ev f))) rest
  |false=>none
theorem AS {α:AA}{place:Nat->Option (Nat × Nat)}:∀ {l:List (Nat × Operand)}{l':List (Nat × Nat × QO)}{cells:List AV},HM place l=some l' ->
  vi place cells (l.map fun (i,x)=>(i,α.ev x))=E6 α.tm cells l'
 |[],l',cells,h=>by obtain rfl:=oJ_ h;rfl
 |(i,x)::rest,l',cells,h=>by
  simp only [HM] at h
  split at h
  ·rename_i off size hp
   split at h
   ·rename_i l hl
    obtain rfl:=oJ_ h
    simp only [List.map_cons,vi,hp,E6,aJ]
    cases hc:(Nat.beq (aP (α.ev x)).length size && Nat.ble (off+size) cells.length && (aP (α.ev x)).all bQ) with
    |true=>simp only [];rw [AS hl]
    |false=>rfl
   ·cases h
  ·cases h
def res (T:Tables):Op->Option dp
 |.move x=>some (.mv (qo x))
 |.assign x=>some (.mv (qo x))
 |.pick c a b=>some (.pick (qo c) (qo a) (qo b))
 |.alloc e=>match zU T e with
  |some z=>some (.alloc (z.cells.toList.map bJ))
  |none=>none
 |.box _ x=>some (.box (qo x))
 |.build t parts=>match zU T t with
  |some (.agg cs)=>match eG T t with
   |some (.struct fs)=>match fs.toList.all fun f=>(qJ T f.type).isSome with
    |true=>match HM (plT T fs) parts.toList with
     |some l=>some (.build (cs.toList.map bJ) l)
     |none=>none
    |false=>none
   |some (.array _ e)=>match qJ T e with
    |some n=>match HM (fun i=>some (i*n,n)) parts.toList with
     |some l=>some (.build (cs.toList.map bJ) l)
     |none=>none
    |none=>none
   |_=>none
  |_=>none
 |.buildSlice t len parts=>match HL T t with
  |some e=>match zU T e,qJ T e with
   |some z,some n=>match Nat.ble (len*n) 16777216 && Nat.beq z.cells.size n && Nat.blt 0 n with
    |true=>some (.rows n (List.replicate len (z.cells.toList.map bJ)) (parts.toList.map fun (i,x)=>(i,qo x)))
    |false=>none
   |_,_=>none
  |none=>none
 |.load t x=>match Fg T t with
  |some k=>some (.load k (qo x))
  |none=>none
 |.store t x b=>match qJ T t with
  |some n=>some (.store n (qo x) (qo b))
  |none=>none
 |.binOp op t x y _=>match eG T t with
  |some .bool=>some (.bin op .b (qo x) (qo y))
  |some (.slice _)=>some (.bin op .s (qo x) (qo y))
  |some (.func ..)=>some (.bin op .f (qo x) (qo y))
  |some (.pointer _)=>some (.bin op .p (qo x) (qo y))
  |some (.struct _)=>match op with
   |.eql=>some (.eqs t (qo x) (qo y))
   |_=>none
  |_=>some (.bin op .o (qo x) (qo y))
 |.unOp op _ x=>match op with
  |.not=>some (.not (qo x))
  |.neg=>some (.neg (qo x))
  |_=>none
 |.convert src dst x=>match eG T src,eG T dst with
  |some (.int _),some (.int k)=>some (.conv k (qo x))
  |some .string,some .string=>some (.qL (qo x))
  |some (.slice e),some .string=>match eG T e with
   |some (.int .u8)=>some (.R7 (qo x))
   |_=>none
  |_,_=>none
 |.fieldAddr s x f=>match eG T s with
  |some (.struct fs)=>match fs[f]? with
   |some fd=>match qJ T fd.type with
    |some (_+1)=>some (.yH fd.offset (qo x))
    |_=>none
   |none=>none
  |_=>none
 |.field t x f=>match eG T t with
  |some (.struct fs)=>match fs[f]? with
   |some fd=>match Fg T fd.type with
    |some k=>some (.field k fd.offset (qo x))
    |none=>none
   |none=>none
  |_=>none
 |.indexAddr t x i=>match eG T t with
  |some (.slice e)=>match qJ T e with
   |some n=>some (.ny n (qo x) (qo i))
   |none=>none
  |some (.array len e)=>match qJ T e with
   |some n=>some (.pK len n (qo x) (qo i))
   |none=>none
  |_=>none
 |.index t x i=>match eG T t with
  |some .string=>some (.wD (qo x) (qo i))
  |some (.array len e)=>match qJ T e,Fg T e with
   |some n,some k=>some (.nI len n k (qo x) (qo i))
   |_,_=>none
  |_=>none
 |.slice t x lo hi mx=>match eG T t with
  |some .string=>some (.slice .str (qo x) (lo.map qo) (hi.map qo) (mx.map qo))
  |some (.slice e)=>match qJ T e with
   |some n=>some (.slice (.sl n) (qo x) (lo.map qo) (hi.map qo) (mx.map qo))
   |none=>none
  |_=>none
 |.extract x i=>some (.extract (qo x) i)
 |.makeSlice t l c=>match HL T t with
  |some e=>match zU T e,qJ T e,Wo T e with
   |some z,some sz,some by_=>match Nat.beq z.cells.size sz && Nat.blt 0 sz with
    |true=>some (.im (z.cells.toList.map bJ) by_ (qo l) (qo c))
    |false=>none
   |_,_,_=>none
  |none=>none
 |.range t x=>match eG T t with
  |some .string=>some (.wJ (qo x))
  |_=>none
 |.next x isStr=>match isStr with
  |true=>some (.qM (qo x))
  |false=>none
 |.makeFunc f first cap=>some (.Fv f (first.toList.map qo) (cap.toList.map qo))
 |.nilCheck x=>some (.yI (qo x))
 |.call c=>match c.callee with
  |.value f=>some (.call (qo f) (c.args.toList.map qo))
  |.builtin b=>match b,c.argTypes.toList,c.args.toList with
   |.len,[t],[x]=>match eG T t with
    |some (.slice _)=>some (.len false (qo x))
    |some .string=>some (.len true (qo x))
    |_=>none
   |.append,[t,t2],[a,b]=>match HL T t,HL T t2 with
    |some e,some _=>match zU T e,qJ T e,Wo T e with
     |some z,some sz,some by_=>match Nat.beq z.cells.size sz && Nat.blt 0 by_ with
      |true=>some (.append sz by_ (qo a) (qo b))
      |false=>none
     |_,_,_=>none
    |some e,none=>match eG T t2 with
     |some (.int _)=>match zU T e,qJ T e,Wo T e with
      |some z,some sz,some by_=>match Nat.beq z.cells.size sz && Nat.blt 0 by_ with
       |true=>some (.C8 (z.cells.toList.map bJ) by_ (qo a) (qo b))
       |false=>none
      |_,_,_=>none
     |_=>none
    |none,_=>none
   |.delete,[t,_],[x,i]=>match eG T t with
    |some (.map kt _)=>match eG T kt with
     |some (.int _)=>some (.del (qo x) (qo i))
     |_=>none
    |_=>none
   |.copy,[t,t2],[a,b]=>match HL T t,HL T t2 with
    |some e,some _=>match qJ T e with
     |some sz=>some (.copy sz (qo a) (qo b))
     |none=>none
    |_,_=>none
   |.clear,[t],[a]=>match eG T t with
    |some (.slice e)=>match zU T e with
     |some z=>some (.uE (z.cells.toList.map bJ) (qo a))
     |none=>none
    |some (.map _ _)=>some (.pZ (qo a))
    |_=>none
   |.cap,[t],[a]=>match eG T t with
    |some (.slice _)=>some (.cap (qo a))
    |_=>none
   |.min,_,[x,y]=>some (.min (qo x) (qo y))
   |.max,_,[x,y]=>some (.max (qo x) (qo y))
   |_,_,_=>none
  |.invoke _ _=>none
 |.makeMap t r=>match eG T t with
  |some (.map _ _)=>some (.fk (r.map qo))
  |_=>none
 |.lookup t x i c=>match eG T t with
  |some (.map kt et)=>match eG T kt,zU T et with
   |some (.int _),some z=>some (.look (lift z) c (qo x) (qo i))
   |some (.struct _),some z=>some (.fm kt (lift z) c (qo x) (qo i))
   |some .string,some z=>some (.fm kt (lift z) c (qo x) (qo i))
   |_,_=>none
  |_=>none
 |.mapUpdate t x i y=>match eG T t with
  |some (.map kt _)=>match eG T kt with
   |some (.int _)=>some (.jf (qo x) (qo i) (qo y))
   |some (.struct _)=>some (.lS kt (qo x) (qo i) (qo y))
   |some .string=>some (.lS kt (qo x) (qo i) (qo y))
   |_=>none
  |_=>none
 |.mapEntry t x i=>match eG T t with
  |some (.map kt et)=>match eG T kt,zU T et with
   |some (.int _),some z=>some (.vn (lift z) (qo x) (qo i))
   |_,_=>none
  |_=>none
 |.entryStore t x i y=>match eG T t with
  |some (.map kt _)=>match eG T kt with
   |some (.int _)=>some (.vo (qo x) (qo i) (qo y))
   |_=>none
  |_=>none
 |.typeAssert x _ t c=>match eG T t with
  |some (.interface _)=>none
  |some _=>some (.assert t c (qo x))
  |none=>none
 |.panic x=>some (.wB (qo x))
 |.makeInterface t x=>some (.CG t (qo x))
 |_=>none
def iJ (q:dp) (f:Nat->AV) (S:ad):Option (AV × ad) :=
 match q with
 |.mv x=>some (x.ev f,S)
 |.pick c a b=>match c.ev f with
  |.v (.bool true)=>some (a.ev f,S)
  |.v (.bool false)=>some (b.ev f,S)
  |_=>none
 |.alloc cs=>Ds S cs
 |.box x=>match (aP (x.ev f)).all bQ with
  |true=>Ds S (aP (x.ev f))
  |false=>none
 |.build cs parts=>match E6 f cs parts with
  |some l=>some (.agg l,S)
  |none=>none
 |.rows n rows parts=>match qP n rows (parts.map fun (i,x)=>(i,x.ev f)) with
  |some rows=>some (.sl true rows,S)
  |none=>none
 |.load k x=>match kX k S (x.ev f) with
  |some a=>some (a,S)
  |none=>none
 |.store n x b=>match b.ev f,x.ev f with
  |bv,.pt k sz 0 j=>match S.get k with
   |some (.arr sz' [row] 0 ex)=>match Nat.beq sz sz' && (aP bv).all bQ && Nat.beq n (aP bv).length with
    |true=>match Nat.ble (j+(aP bv).length) row.length with
     |true=>match S with|⟨g,x⟩=>some (.v undef,⟨a8 g k (some (.arr sz [lJ row j (aP bv)] 0 ex)),x⟩)
     |false=>none
    |false=>none
   |_=>none
  |_,_=>none
 |.not x=>match x.ev f with
  |.v (.bool true)=>some (.v (.bool false),S)
  |.v (.bool false)=>some (.v (.bool true),S)
  |_=>none
 |.yH off x=>match x.ev f with
  |.ip row=>some (.ip (row.drop off),S)
  |.pt k sz i j=>some (.pt k sz i (j+off),S)
  |_=>none
 |.field k off x=>match x.ev f with
  |.agg l=>match oB k l off with
   |some a=>some (a,S)
   |none=>none
  |_=>none
 |.extract x i=>match x.ev f with
  |.aE l=>match l[i]? with
   |some a=>some (a,S)
   |none=>none
  |_=>none
 |.Fv g first cap=>some (.fn g (first.map (·.ev f)) (cap.map (·.ev f)),S)
 |.yI x=>match x.ev f with
  |.ip c=>some (.ip c,S)
  |.pt k sz i j=>some (.pt k sz i j,S)
  |_=>none
 |_=>none
def JJ (op:BinOp) (isB:BK):AV->AV->Option Bool
 |.v (.int k a),.v (.int k' b)=>match decide (k=k') with
  |true=>match op with
   |.eql=>some (a == b)
   |.neq=>some (a != b)
   |.lss=>some (decide (a < b))
   |.leq=>some (decide (a<=b))
   |.gtr=>some (decide (a > b))
   |.geq=>some (decide (a>=b))
   |_=>none
  |false=>none
 |.v (.string a),.v (.string b)=>match op with
  |.eql=>some (a.toList == b.toList)
  |.neq=>some (!(a.toList == b.toList))
  |.lss=>some (Op.bytesLess a.toList b.toList)
  |.leq=>some (Op.bytesLess a.toList b.toList || a.toList == b.toList)
  |.gtr=>some (!(Op.bytesLess a.toList b.toList || a.toList == b.toList))
  |.geq=>some (!Op.bytesLess a.toList b.toList)
  |_=>none
 |.v (.bool a),.v (.bool b)=>match isB,op with
  |.b,.eql=>some (a == b)
  |.b,.neq=>some (!(a == b))
  |_,_=>none
 |_,_=>none
section
variable {P:Program}{w0:World}{n:Nat}{o:Op}{α:AA}{S S':ad}{r:AV}{q:dp}{K:AV->ad->Prop}
theorem pJ (hr:res P.toTables o=some q) (h:iJ q α.tm S=some (r,S')):aX P w0 o α S (rB r S'):=by
 have e:∀ {a:AV}{T:ad},some (a,T)=some (r,S')->a=r/\T=S':=fun h=>by injection h with h;injection h with h1 h2;exact⟨h1,h2⟩
 have e2:∀ {q:AV × ad},some q=some (r,S')->q.1=r/\q.2=S':=fun h=>by injection h with h;subst h;exact⟨rfl,rfl⟩
 have key:∀ {T:Program->Op->AA->ad->Option (AV × ad)},qI P o α S=some (r,S')->aX P w0 o α S (rB r S'):=fun h=>Qa h
 cases o with
 |move x=>obtain rfl:=oJ_ hr;rw [iJ,aJ] at h;exact e h
 |assign x=>obtain rfl:=oJ_ hr;rw [iJ,aJ] at h;exact e h
 |pick c a b =>
  obtain rfl:=oJ_ hr
  simp only [iJ,aJ] at h
  simp only [aX]
  split at h
  ·rename_i hc;rw [hc];exact e h
  ·rename_i hc;rw [hc];exact e h
  ·cases h
 |alloc t =>
  simp only [res,bF,dJ,k_,gn,jE,oR] at hr
  split at hr
  ·rename_i z hz
   obtain rfl:=oJ_ hr
   simp only [iJ] at h
   simp only [aX,hz];rw [py] at h;exact e2 h
  ·cases hr
 |box t x =>
  obtain rfl:=oJ_ hr
  simp only [iJ,aJ] at h
  simp only [aX]
  split at h
  ·rename_i hx;rw [hx];rw [py] at h;exact e2 h
  ·cases h
 |build t parts =>
  simp only [res,bF,dJ,k_,gn,jE,oR] at hr
  split at hr
  ·rename_i cs hz
   split at hr
   ·rename_i fs hu
    split at hr
    ·rename_i me
     split at hr
     ·rename_i l hl
      obtain rfl:=oJ_ hr
      simp only [iJ] at h
      simp only [aX,rP,hz,hu,me,AS hl]
      split at h
      ·rename_i l' l8;simp only [l8,Option.map_some];exact e h
      ·cases h
     ·cases hr
    ·cases hr
   ·rename_i le el hu
    split at hr
    ·rename_i m hm
     split at hr
     ·rename_i l hl
      obtain rfl:=oJ_ hr
      simp only [iJ] at h
      simp only [aX,rP,hz,hu,hm,AS hl]
      split at h
      ·rename_i l' l8;simp only [l8,Option.map_some];exact e h
      ·cases h
     ·cases hr
    ·cases hr
   ·cases hr
  ·cases hr
 |buildSlice t len parts =>
  simp only [res,bF,dJ,k_,gn,jE,oR] at hr
  split at hr
  ·rename_i el he
   split at hr
   ·rename_i z m hz hs
    split at hr
    ·rename_i hb
     obtain rfl:=oJ_ hr
     have hm:(parts.toList.map fun (i,x)=>(i,qo x)).map (fun (i,x)=>(i,QO.ev α.tm x))=parts.toList.map fun (i,x)=>(i,α.ev x):=by
      rw [List.map_map]
      apply List.map_congr_left
      rintro⟨i,x⟩ _
      simp [aJ]
     simp only [iJ] at h
     rw [hm] at h
     simp only [aX,he,hz,hs,hb]
     split at h
     ·rename_i rows zP
      simp only [zP]
      exact e h
     ·cases h
    ·cases hr
   ·cases hr
  ·cases hr
 |load t x =>
  simp only [res,bF,dJ,k_,gn,jE,oR] at hr
  split at hr
  ·rename_i k hk
   obtain rfl:=oJ_ hr
   simp only [iJ,aJ] at h
   simp only [aX]
   split at h
   ·rename_i z hz;rw [<-DA hk] at hz;exact aZ.mk hz (e h)
   ·cases h
  ·cases hr
 |store t x b =>
  simp only [res,bF,dJ,k_,gn,jE,oR] at hr
  split at hr
  ·rename_i m hm
   obtain rfl:=oJ_ hr
   simp only [iJ,aJ] at h
   have hs:yx P S t (α.ev b) (α.ev x)=some S'/\AV.v undef=r:=by
    split at h
    ·rename_i k sz j hb
     unfold yx
     rw [hb]
     split at h
     ·rename_i sz' row ex hk
      split at h
      ·rename_i hc
       split at h
       ·rename_i hl
        simp only [hk,hm,hc,hl,qc]
        obtain⟨h1,h2⟩:=e h
        exact⟨by rw [<-h2],h1⟩
       ·cases h
      ·cases h
     ·cases h
    ·cases h
   simp only [aX]
   exact aZ.mk (yy hs.1) ⟨hs.2,rfl⟩
  ·cases hr
 |unOp op t x =>
  simp only [res,bF,dJ,k_,gn,jE,oR] at hr
  split at hr
  ·obtain rfl:=oJ_ hr
   simp only [iJ,aJ] at h
   simp only [aX]
   split at h
   ·rename_i hc;rw [hc];exact e h
   ·rename_i hc;rw [hc];exact e h
   ·cases h
  ·obtain rfl:=oJ_ hr
   cases h
  ·cases hr
 |fieldAddr s x f =>
  simp only [res,bF,dJ,k_,gn,jE,oR] at hr
  split at hr
  ·rename_i fs hu
   split at hr
   ·rename_i fd hf
    split at hr
    ·rename_i m hm
     obtain rfl:=oJ_ hr
     simp only [iJ,aJ] at h
     simp only [aX,hu,hf,hm]
     split at h
     ·rename_i row hx;simp only [hx];exact e h
     ·rename_i k sz i j hx;simp only [hx];exact e h
     ·cases h
    ·cases hr
   ·cases hr
  ·cases hr
 |field t x f =>
  simp only [res,bF,dJ,k_,gn,jE,oR] at hr
  split at hr
  ·rename_i fs hu
   split at hr
   ·rename_i fd hf
    split at hr
    ·rename_i k hk
     obtain rfl:=oJ_ hr
     simp only [iJ,aJ] at h
     simp only [aX,hu,hf]
     split at h
     ·rename_i l hx
      simp only [hx]
      split at h
      ·rename_i a ha;rw [<-xp hk] at ha;exact aZ.mk ha (e h)
      ·cases h
     ·cases h
    ·cases hr
   ·cases hr
  ·cases hr
 |extract x i =>
  obtain rfl:=oJ_ hr
  simp only [iJ,aJ] at h
  simp only [aX]
  split at h
  ·rename_i l hx
   split at h
   ·rename_i a ha;simp only [hx,ha];exact e h
   ·cases h
  ·cases h
 |makeFunc f first cap =>
  obtain rfl:=oJ_ hr
  simp only [iJ,List.map_map] at h
  have hm:∀ l:List Operand,l.map ((·.ev α.tm) ∘ qo)=l.map α.ev:=fun l=>List.map_congr_left fun x _=>aJ x
  rw [hm,hm] at h
  exact e h
 |nilCheck x =>
  obtain rfl:=oJ_ hr
  simp only [iJ,aJ] at h
  simp only [aX]
  split at h
  ·rename_i c hx;rw [hx];exact e h
  ·rename_i c hx;rw [hx];exact e h
  ·cases h
 |_ =>
  simp only [res,bF,dJ,k_,gn,jE,oR] at hr
  repeat' split at hr
  all_goals first|(obtain rfl:=oJ_ hr;cases h)|cases hr
end
end Go.Proofs.YtgjfgekaclobaaaGreat
