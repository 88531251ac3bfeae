import Derived.Test.YtbofilglphfceaaGreatD10
namespace Go.Proofs.YtbofilglphfceaaGreat
set_option linter.unusedVariables false
set_option linter.unusedSimpArgs false
open Go.RowKit
inductive It where
 |seq (c:Code)
 |nT (id:Nat)
inductive Cf where
 |run (c:Code) (K:List It)
 |out (ex:Exit) (K:List It)
 |bB (ops l:List Oper) (K:List It)
 |dr (ops l:List Oper) (K:List It)
section
variable (P:Program) (w0:World) (rd:Bool) (n:Nat)
def Wp (c:Code) (Q:Exit->AA->U->Prop) (α:AA) (S:U):Prop:=∃ ex af S',bA P w0 rd n c α S ex af S'/\Q ex af S'
def cont (Q:Exit->AA->U->Prop):List It->Exit->AA->U->Prop
 |[]=>Q
 |.seq b::K=>fun ex α S=>match ex with|.normal=>Wp P w0 rd n b (cont Q K) α S|e=>cont Q K e α S
 |.nT id::K=>fun ex α S=>match ex with|.exit j=>(match Nat.beq j id with|true=>cont Q K .normal α S|false=>cont Q K (.exit j) α S)|e=>cont Q K e α S
def wpC (Q:Exit->AA->U->Prop):Cf->AA->U->Prop
 |.run c K,α,S=>Wp P w0 rd n c (cont P w0 rd n Q K) α S
 |.out ex K,α,S=>cont P w0 rd n Q K ex α S
 |.bB ops l K,α,S=>Dy P w0 n ops l (fun α S=>cont P w0 rd n Q K .normal α S) α S
 |.dr ops l K,α,S=>iF P w0 n ops l (fun α S=>cont P w0 rd n Q K .normal α S) α S
def mv:Cf->AA->U->Option (Cf × AA × U)
 |.run c K,α,S=>match c with
  |.skip=>some (.out .normal K,α,S)
  |.region _ ops false=>some (.bB ops.toList ops.toList K,α,S)
  |.seq a b=>some (.run a (.seq b::K),α,S)
  |.cond c a b=>match α.ev c with
   |.v (.bool true)=>some (.run a K,α,S)
   |.v (.bool false)=>some (.run b K,α,S)
   |_=>none
  |.block id c=>some (.run c (.nT id::K),α,S)
  |.exit id=>some (.out (.exit id) K,α,S)
  |.ret=>some (.out .ret K,α,S)
  |_=>none
 |.out ex K,α,S=>match K with
  |[]=>none
  |.seq b::K=>match ex with
   |.normal=>some (.run b K,α,S)
   |e=>some (.out e K,α,S)
  |.nT id::K=>match ex with
   |.exit j=>match Nat.beq j id with
    |true=>some (.out .normal K,α,S)
    |false=>some (.out (.exit j) K,α,S)
   |e=>some (.out e K,α,S)
 |.bB ops l K,α,S=>match um P n ops l α S with
  |([],af,S')=>some (.out .normal K,af,S')
  |(_::_,_,_)=>none
 |.dr ops l K,α,S=>match um P n ops l α S with
  |([],af,S')=>some (.out .normal K,af,S')
  |(_::_,_,_)=>none
end
section
variable {P:Program}{w0:World}{rd:Bool}{n:Nat}{α af:AA}{S S':U}{Q Q':Exit->AA->U->Prop}{c a b:Code}{ex:Exit}
theorem Wp.of (h:bA P w0 rd n c α S ex af S') (k:Q ex af S'):Wp P w0 rd n c Q α S:=⟨_,_,_,h,k⟩
theorem Wp.seq (h:Wp P w0 rd n a (fun ex α S=>match ex with|.normal=>Wp P w0 rd n b Q α S|e=>Q e α S) α S):Wp P w0 rd n (.seq a b) Q α S:=by
 obtain⟨ex,bD,bQ,h1,h2⟩:=h
 cases ex with
 |normal =>
  obtain⟨ex',af,S',h3,h4⟩:=h2
  exact⟨ex',af,S',bA.seq h1 h3,h4⟩
 |_=>exact⟨_,bD,bQ,bA.HC h1 (by simp),h2⟩
theorem Wp.cond {o:Operand}{t:Bool}(ho:α.ev o=.v (.bool t)) (h:Wp P w0 rd n (if t then a else b) Q α S):Wp P w0 rd n (.cond o a b) Q α S:=by
 obtain⟨ex,af,S',h1,h2⟩:=h
 exact⟨ex,af,S',bA.cond ho h1,h2⟩
theorem Wp.block {id:Nat}(h:Wp P w0 rd n c (fun ex α S=>match ex with|.exit j=>(match Nat.beq j id with|true=>Q .normal α S|false=>Q (.exit j) α S)|e=>Q e α S) α S):Wp P w0 rd n (.block id c) Q α S:=by
 obtain⟨ex,af,S',h1,h2⟩:=h
 cases ex with
 |exit j =>
  simp only at h2
  split at h2
  ·rename_i hj
   have:=Nat.eq_of_beq_eq_true hj
   subst this
   exact⟨_,af,S',bA.ym h1,h2⟩
  ·rename_i hj
   have aM:j ≠ id:=fun e=>by subst e;rw [Nat.beq_refl] at hj;cases hj
   exact⟨_,af,S',bA.block h1 (fun e=>aM (by injection e)),h2⟩
 |_=>exact⟨_,af,S',bA.block h1 (by simp),h2⟩
theorem iF.wp {id:Nat}{ops:Array Oper}(kH:(P.follows .mixedOrders && q9 ops)=true) (h:iF P w0 n ops.toList ops.toList (fun α S=>Q .normal α S) α S):Wp P w0 rd n (.region id ops true) Q α S:=by
 simp only [Bool.and_eq_true] at kH
 obtain⟨af,S',h1,h2⟩:=h 0 rfl
 rw [Array.length_toList,<-List.range_eq_range'] at h1
 exact⟨_,af,S',bA.draw kH.1 kH.2 h1,h2⟩
end
section
variable {P:Program}{w0:World}{rd:Bool}{n:Nat}{α af:AA}{S S':U}{Q:Exit->AA->U->Prop}{c a b:Code}{ex:Exit}{K:List It}{r:AV}{ops rest:List Oper}{o:Oper}
theorem wpC.op (hd:kR n o.dst=true) (hw:eW ops α o=some true) (h:aE P w0 o.op α S (nS r S')) (k:wpC P w0 rd n Q (.bB ops rest K) (om o.dst α r) S'):wpC P w0 rd n Q (.bB ops (o::rest) K) α S:=Dy.op hd hw h k
def FB:Exit->Bool|.normal=>true|.ret=>true|_=>false
end
def dG (i:Int):Value:=.int .i64 i
def jK:List (Value × AV)->Int->Option Nat
 |[],_=>none
 |p::es,i=>match p.1 with
  |.int _ n=>match decide (n=i) with|true=>some 0|false=>(jK es i).map (·+1)
  |_=>(jK es i).map (·+1)
def uo (es:List (Value × AV)) (i:Int):Option AV:=match jK es i with|some j=>(es[j]?).map (·.2)|none=>none
def uE (es:List (Value × AV)) (i:Int) (b:AV):List (Value × AV):=match jK es i with|some j=>es.set j (dG i,b)|none=>es++[(dG i,b)]
def m9 (es:List (Value × AV)):Prop:=∀ p ∈ es,∃ n,p.1=dG n
theorem sn:∀ {es:List (Value × AV)}{i:Int}{j:Nat},m9 es->jK es i=some j->∃ a,es[j]?=some (dG i,a)
 |[],i,j,_,h=>by cases h
 |p::es,i,j,hk,h=>by
  obtain⟨n,hn⟩:=hk p (by simp)
  simp only [jK,hn,dG] at h
  split at h
  ·rename_i e
   obtain rfl:=of_decide_eq_true e
   obtain rfl:=Option.some.inj h
   exact⟨p.2,by rw [List.getElem?_cons_zero,<-hn]⟩
  ·cases hx:jK es i with
   |none=>rw [hx] at h;cases h
   |some j' =>
    rw [hx] at h
    obtain rfl:=Option.some.inj h
    obtain⟨a,ha⟩:=sn (fun q hq=>hk q (by simp [hq])) hx
    exact⟨a,by simpa using ha⟩
theorem rf {kk:IntKind}{i:Int}:∀ {es:List (Value × AV)}{L:List MapEntry}{o:Nat},m9 es->L.length=es.length->(∀ (j:Nat) (k:Value) (a:AV) (e:MapEntry),es[j]?=some (k,a)->L[j]?=some e->e.key=k) ->
  Instr.findNow (.int kk) (dG i) L o=some (match jK es i with|some j=>(L[j]?).map fun e=>(j+o,e.val)|none=>none)
 |[],[],o,_,_,_=>rfl
 |p::es,e::L,o,hk,hl,h=>by
  obtain⟨n,hn⟩:=hk p (by simp)
  have Ik:e.key=dG n:=by rw [h 0 p.1 p.2 e rfl rfl,hn]
  simp only [Instr.findNow,Ik,dG,Instr.sameNow,if_true,jK,hn]
  by_cases c:n=i
  ·subst c
   simp
  ·have c':¬ i=n:=fun e=>c e.symm
   simp only [c,decide_false,beq_eq_false_iff_ne.2 c']
   have ih:=rf (kk:=kk) (i:=i) (es:=es) (L:=L) (o:=o+1) (fun q hq=>hk q (by simp [hq])) (by simpa using hl) (fun j k a e' h1 h2=>h (j+1) k a e' (by simpa using h1) (by simpa using h2))
   simp only [dG] at ih
   rw [ih]
   congr 1
   cases jK es i with
   |none=>rfl
   |some j=>simp only [Option.map_some,List.getElem?_cons_succ];congr 1;funext x;congr 1;omega
 |[],_::_,_,_,hl,_=>by simp at hl
 |_::_,[],_,_,hl,_=>by simp at hl
section
variable {P:Program}{w0:World}{n:Nat}{o:Oper}{α:AA}{S S':U}{r:AV}
theorem rh {g:Gh}{w:World}{k:Nat}{v:Value}(h:ao g w (.mp k) v):v=.map (some (g.ob k))/\g.al k:=by
 cases h with
 |mp hk=>exact⟨rfl,hk⟩
theorem run_checkKey {kt:TypeId}{kk:IntKind}{w:World}(h:P.underlying kt=some (.int kk)) (b:Bool) (i:Int):(Instr.checkKey b 10000 kt (dG i)).run P w=.ok () w:=by
 rw [show (10000:Nat)=9999+1 from rfl,Instr.checkKey]
 simp [run_underlying h,dG,Sem.run_bind]
theorem run_findKey {kt:TypeId}{kk:IntKind}{w:World}{i:Int}{L:List MapEntry}{x:Option (Nat × Value)}(h:P.underlying kt=some (.int kk)) (hx:Instr.findNow (.int kk) (dG i) L 0=some x):(Instr.findKey kt (dG i) L).run P w=.ok x w:=by
 simp only [Instr.findKey,Sem.run_bind,run_underlying h,Result.andThen_ok,hx,Sem.run_pure]
theorem fL {w:World}{b:Nat}{es:Array MapEntry}{clock:Nat}(h:w.heap[b]?=some (.map es clock)):(getObj b).run P w=.ok (.map es clock) w:=by
 simp [getObj,Sem.run,h]
theorem Ce {g:Gh}{w:World}{es:List (Value × AV)}{entries:Array MapEntry}(a7:entries.size=es.length) (he:∀ (i:Nat) (k:Value) (a:AV),es[i]?=some (k,a)->∃ e:MapEntry,entries[i]?=some e/\e.key=k/\ao g w a e.val) (hk:m9 es) {kk:IntKind}(i:Int) :
  Instr.findNow (.int kk) (dG i) entries.toList 0=some (match jK es i with|some j=>(entries[j]?).map fun e=>(j,e.val)|none=>none):=by
 have h:=rf (kk:=kk) (i:=i) (es:=es) (L:=entries.toList) (o:=0) hk (by simpa using a7) (fun j k a e h1 h2=>by
  obtain⟨e',h3,h4,_⟩:=he j k a h1
  rw [Array.getElem?_toList,h3] at h2
  rw [<-Option.some.inj h2];exact h4)
 simpa using h
theorem Dz {t kt et:TypeId}{kk:IntKind}{x i:Operand}{k:Nat}{es:List (Value × AV)}{z:Value}{m:Int}{c:Bool}(ho:o.op=.lookup t x i c) (ht:P.underlying t=some (.map kt et)) (ri:P.underlying kt=some (.int kk)) (hz:bY P et=some z)
  (hx:α.ev x=.mp k) (hS:S.get k=some (.mp es)) (hk:m9 es) (hi:α.ev i=.v (dG m)):aC P w0 n o α S (match uo es m with|some a=>(if c then .aL [a,.v (.bool true)] else a)|none=>(if c then .aL [lift z,.v (.bool false)] else lift z)) S:=by
 refine aC.quiet fun A g q w cz hA=>?_
 have h1:=hA.ev x
 have h2:=hA.ev i
 rw [hx] at h1
 rw [hi] at h2
 obtain⟨e1,aY⟩:=rh h1
 have e2:=a_ h2
 obtain⟨_,_,entries,clock,p1,p2,p3⟩:=cz.bE k _ hS aY
 have hf:=Ce p2 p3 hk (kk:=kk) m
 obtain⟨inf,Ue,jy⟩:∃ inf,P.info? et=some inf/\inf.zero=some z:=by
  unfold bY at hz
  cases hp:P.info? et with
  |none=>rw [hp] at hz;cases hz
  |some inf=>rw [hp] at hz;exact⟨inf,rfl,hz⟩
 have fin:∀ (v:Value) (b:Bool) (a:AV),ao g w a v->ao g w (if c then .aL [a,.v (.bool b)] else a) (if c then .tuple #[v,.bool b] else v):=by
  intro v b a hr
  cases c with
  |false=>exact hr
  |true =>
   refine .aL rfl fun i y x hy hx=>?_
   match i with
   |0=>simp at hy hx;subst hy hx;exact hr
   |1=>simp at hy hx;subst hy hx;exact .v
   |i+2=>simp at hy
 unfold uo
 cases hj:jK es m with
 |none =>
  rw [hj] at hf
  refine⟨_,?_,fin z false (lift z) (qu z)⟩
  simp only [execOp,ho,e1,e2,Instr.lookup,Sem.run_bind,run_underlying ht,Result.andThen_ok,fL p1,Sem.run_pure,run_checkKey ri,run_findKey ri hf,iT hz]
 |some j =>
  obtain⟨a,ha⟩:=sn hk hj
  obtain⟨e,q1,q2,q3⟩:=p3 j _ a ha
  rw [hj] at hf
  simp only [q1,Option.map_some] at hf
  simp only [ha,Option.map_some]
  refine⟨_,?_,fin e.val true a q3⟩
  simp only [execOp,ho,e1,e2,Instr.lookup,Sem.run_bind,run_underlying ht,Result.andThen_ok,fL p1,Sem.run_pure,run_checkKey ri,run_findKey ri hf]
theorem St.uF {A:Nat->Prop}{g:Gh}{w:World}{k:Nat}{es es':List (Value × AV)}{entries entries':Array MapEntry}{clock clock':Nat}(hS:St w0 A g S w) (hk:S.get k=some (.mp es)) (ha:g.al k) (hm:w.heap[g.ob k]?=some (.map entries clock))
  (a7:entries'.size=es'.length) (he:∀ (i:Nat) (k:Value) (a:AV),es'[i]?=some (k,a)->∃ e:MapEntry,entries'[i]?=some e/\e.key=k/\ao g w a e.val) :
  ∃ w',(setObj (g.ob k) (.map entries' clock')).run P w=.ok () w'/\St w0 A g (S.set k (some (.mp es'))) w'/\Ext A g w g w':=by
 have au:=(hS.bE k _ hk ha).2.1
 have m_:({ w with heap:=w.heap.setIfInBounds (g.ob k) (.map entries' clock') }:World).heap[g.ob k]?=some (.map entries' clock'):=by simp [Array.getElem?_setIfInBounds,au]
 obtain⟨h1,h2⟩:=hS.putObj (ob:=.mp es') hk ha (fun J=>⟨by simp,by simp⟩) (x':=.map entries' clock') rfl (fun q=>by simp only [World.cell?,m_,hm]) (fun hL hb=>⟨entries',clock',hb,a7,fun i key a hi=>by
  obtain⟨e,q1,q2,q3⟩:=he i key a hi
  exact⟨e,q1,q2,q3.later hL⟩⟩)
 exact⟨_,by simp [setObj,Sem.run,hm],h2,h1⟩
theorem Cg {t:TypeId}(ho:o.op=.makeMap t none):aC P w0 n o α S (.mp S.nx) (S.new (.mp [])):=by
 intro A g q w hS hA
 obtain⟨h1,h2⟩:=hS.new (.map #[] 0) (.mp []) 0 (fun J=>by simp) (fun hL=>⟨#[],0,bZ,rfl,fun i k a h=>by simp at h⟩)
 have hr:=ao.mp (g:=g.new S.nx w.heap.size 0) (w:=w.alloc (.map #[] 0)) (k:=S.nx) (.inr rfl)
 rw [show (g.new S.nx w.heap.size 0).ob S.nx=w.heap.size from ah _ _ _] at hr
 refine⟨_,_,_,.inl ?_,hr,h2,h1⟩
 simp [execOp,ho,Instr.makeMap,newObj,Sem.run]
theorem yp {t kt et:TypeId}{x:Operand}{kk:IntKind}{m:Int}(ho:o.op=.makeMap t (some x)) (ht:P.underlying t=some (.map kt et)) (hx:α.ev x=.v (.int kk m)):aC P w0 n o α S (.mp S.nx) (S.new (.mp [])):=by
 intro A g q w hS hA
 have h0:=hA.ev x
 rw [hx] at h0
 have e0:=a_ h0
 obtain⟨h1,h2⟩:=hS.new (.map #[] 0) (.mp []) 0 (fun J=>by simp) (fun hL=>⟨#[],0,bZ,rfl,fun i k a h=>by simp at h⟩)
 have hr:=ao.mp (g:=g.new S.nx w.heap.size 0) (w:=w.alloc (.map #[] 0)) (k:=S.nx) (.inr rfl)
 rw [show (g.new S.nx w.heap.size 0).ob S.nx=w.heap.size from ah _ _ _] at hr
 refine⟨_,_,_,.inl ?_,hr,h2,h1⟩
 simp [execOp,ho,Instr.makeMap,newObj,Sem.run,e0,run_underlying ht,asInt,asIntOf]
theorem uG {t kt et:TypeId}{kk:IntKind}{x i y:Operand}{k:Nat}{es:List (Value × AV)}{m:Int}{b:AV}(ho:o.op=.mapUpdate t x i y) (ht:P.underlying t=some (.map kt et)) (ri:P.underlying kt=some (.int kk))
  (hx:α.ev x=.mp k) (hS:S.get k=some (.mp es)) (hk:m9 es) (hi:α.ev i=.v (dG m)) (hy:α.ev y=b):aC P w0 n o α S (.v undef) (S.set k (some (.mp (uE es m b)))):=by
 intro A g q w cz hA
 have h1:=hA.ev x
 have h2:=hA.ev i
 have h3:=hA.ev y
 rw [hx] at h1
 rw [hi] at h2
 rw [hy] at h3
 obtain⟨e1,aY⟩:=rh h1
 have e2:=a_ h2
 obtain⟨v,hv⟩:∃ v,q.eval y=v:=⟨_,rfl⟩
 rw [hv] at h3
 obtain⟨_,_,entries,clock,p1,p2,p3⟩:=cz.bE k _ hS aY
 have hf:=Ce p2 p3 hk (kk:=kk) m
 have hlen:entries.toList.length=entries.size:=Array.length_toList
 unfold uE
 cases hj:jK es m with
 |none =>
  rw [hj] at hf
  obtain⟨w',q1,q2,q3⟩:=cz.uF (P:=P) hS aY p1 (entries':=entries.push { key:=dG m,val:=v,born:=clock }) (clock':=clock+1) (es':=es++[(dG m,b)]) (by simp [p2]) (fun i key a hi=>by
   by_cases c:i < es.length
   ·rw [List.getElem?_append_left c] at hi
    obtain⟨e,r1,r2,r3⟩:=p3 i key a hi
    exact⟨e,by rw [Array.getElem?_push_lt (by omega)];rw [Array.getElem?_eq_getElem (by omega)] at r1;exact r1,r2,r3⟩
   ·rw [List.getElem?_append_right (by omega)] at hi
    have FC:i=es.length:=by
     have:=(List.getElem?_eq_some_iff.1 hi).1
     simp at this;omega
    subst FC
    simp at hi
    obtain⟨rfl,rfl⟩:=hi
    exact⟨{ key:=dG m,val:=v,born:=clock },by rw [<-p2];simp,rfl,h3⟩)
  refine⟨undef,w',g,.inr ⟨?_,rfl⟩,.v,q2,q3⟩
  simp only [execOp,ho,e1,e2,hv,Instr.mapUpdate,Sem.run_bind,run_underlying ht,Result.andThen_ok,fL p1,run_checkKey ri,run_findKey ri hf,q1,Sem.run_pure]
 |some j =>
  obtain⟨a,ha⟩:=sn hk hj
  obtain⟨e,r1,r2,r3⟩:=p3 j _ a ha
  rw [hj] at hf
  simp only [r1,Option.map_some] at hf
  have hO:j < entries.size:=(Array.getElem?_eq_some_iff.1 r1).1
  obtain⟨w',q1,q2,q3⟩:=cz.uF (P:=P) hS aY p1 (entries':=entries.modify j fun e=>{ e with key:=dG m,val:=v }) (clock':=clock) (es':=es.set j (dG m,b)) (by simp [p2]) (fun i key a' hi=>by
   rw [List.getElem?_set] at hi
   by_cases c:j=i
   ·subst c
    rw [if_pos rfl,if_pos (by omega)] at hi
    simp only [Option.some.injEq,Prod.mk.injEq] at hi
    obtain⟨rfl,rfl⟩:=hi
    exact⟨{ e with key:=dG m,val:=v },by rw [Array.getElem?_modify,if_pos rfl,r1];rfl,rfl,h3⟩
   ·rw [if_neg c] at hi
    obtain⟨e',s1,s2,s3⟩:=p3 i key a' hi
    exact⟨e',by rw [Array.getElem?_modify,if_neg c];exact s1,s2,s3⟩)
  refine⟨undef,w',g,.inr ⟨?_,rfl⟩,.v,q2,q3⟩
  have j9:(Instr.keyThatStays (((entries[j]?).map (·.key)).getD (dG m)) (dG m)).run P w=.ok (dG m) w:=by
   rw [r1]
   simp [Instr.keyThatStays,r2,Instr.sameBits,dG]
  simp only [execOp,ho,e1,e2,hv,Instr.mapUpdate,Sem.run_bind,run_underlying ht,Result.andThen_ok,fL p1,run_checkKey ri,run_findKey ri hf,j9,q1,Sem.run_pure]
end
end Go.Proofs.YtbofilglphfceaaGreat
