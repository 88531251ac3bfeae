import Derived.Test.YtbpabjmnhggajaaGreatOs7
namespace Go.Proofs.YtbpabjmnhggajaaGreat
set_option linter.unusedVariables false
set_option linter.unusedSimpArgs false
open Go.RowKit
inductive It where
 |seq (c:Code)
 |qe (id:Nat)
inductive Cf where
 |run (c:Code) (K:List It)
 |out (ex:Exit) (K:List It)
 |aN (ops l:List Oper) (K:List It)
 |dr (ops l:List Oper) (K:List It)
section
variable (P:Program) (w0:World) (rd:Bool) (n:Nat)
def Wp (c:Code) (Q:Exit->AA->ae->Prop) (α:AA) (S:ae):Prop:=∃ ex au S',cC P w0 rd n c α S ex au S'/\Q ex au S'
def cont (Q:Exit->AA->ae->Prop):List It->Exit->AA->ae->Prop
 |[]=>Q
 |.seq b::K=>fun ex α S=>match ex with|.normal=>Wp P w0 rd n b (cont Q K) α S|e=>cont Q K e α S
 |.qe id::K=>fun ex α S=>match ex with|.exit j=>(match Nat.beq j id with|true=>cont Q K .normal α S|false=>cont Q K (.exit j) α S)|e=>cont Q K e α S
def Mx (Q:Exit->AA->ae->Prop):Cf->AA->ae->Prop
 |.run c K,α,S=>Wp P w0 rd n c (cont P w0 rd n Q K) α S
 |.out ex K,α,S=>cont P w0 rd n Q K ex α S
 |.aN ops l K,α,S=>Av P w0 n ops l (fun α S=>cont P w0 rd n Q K .normal α S) α S
 |.dr ops l K,α,S=>l_ P w0 n ops l (fun α S=>cont P w0 rd n Q K .normal α S) α S
def mv:Cf->AA->ae->Option (Cf × AA × ae)
 |.run c K,α,S=>match c with
  |.skip=>some (.out .normal K,α,S)
  |.region _ ops false=>some (.aN ops.toList ops.toList K,α,S)
  |.seq a b=>some (.run a (.seq b::K),α,S)
  |.cond c a b=>match α.ev c with
   |.v (.bool true)=>some (.run a K,α,S)
   |.v (.bool false)=>some (.run b K,α,S)
   |_=>none
  |.block id c=>some (.run c (.qe id::K),α,S)
  |.exit id=>some (.out (.exit id) K,α,S)
  |.ret=>some (.out .ret K,α,S)
  |_=>none
 |.out ex K,α,S=>match K with
  |[]=>none
  |.seq b::K=>match ex with
   |.normal=>some (.run b K,α,S)
   |e=>some (.out e K,α,S)
  |.qe id::K=>match ex with
   |.exit j=>match Nat.beq j id with
    |true=>some (.out .normal K,α,S)
    |false=>some (.out (.exit j) K,α,S)
   |e=>some (.out e K,α,S)
 |.aN ops l K,α,S=>match Hp P n ops l α S with
  |([],au,S')=>some (.out .normal K,au,S')
  |(_::_,_,_)=>none
 |.dr ops l K,α,S=>match Hp P n ops l α S with
  |([],au,S')=>some (.out .normal K,au,S')
  |(_::_,_,_)=>none
end
section
variable {P:Program}{w0:World}{rd:Bool}{n:Nat}{α au:AA}{S S':ae}{Q Q':Exit->AA->ae->Prop}{c a b:Code}{ex:Exit}
theorem Wp.of (h:cC P w0 rd n c α S ex au S') (k:Q ex au S'):Wp P w0 rd n c Q α S:=⟨_,_,_,h,k⟩
theorem Wp.seq (h:Wp P w0 rd n a (fun ex α S=>match ex with|.normal=>Wp P w0 rd n b Q α S|e=>Q e α S) α S):Wp P w0 rd n (.seq a b) Q α S:=by
 obtain⟨ex,bF,bW,h1,h2⟩:=h;cases ex with
 |normal =>
  obtain⟨ex',au,S',h3,h4⟩:=h2;exact⟨ex',au,S',cC.seq h1 h3,h4⟩
 |_=>exact⟨_,bF,bW,cC.WG h1 (by simp),h2⟩
theorem Wp.cond {o:Operand}{t:Bool}(ho:α.ev o=.v (.bool t)) (h:Wp P w0 rd n (if t then a else b) Q α S):Wp P w0 rd n (.cond o a b) Q α S:=by
 obtain⟨ex,au,S',h1,h2⟩:=h;exact⟨ex,au,S',cC.cond ho h1,h2⟩
theorem Wp.block {id:Nat}(h:Wp P w0 rd n c (fun ex α S=>match ex with|.exit j=>(match Nat.beq j id with|true=>Q .normal α S|false=>Q (.exit j) α S)|e=>Q e α S) α S):Wp P w0 rd n (.block id c) Q α S:=by
 obtain⟨ex,au,S',h1,h2⟩:=h;cases ex with
 |exit j =>
  simp only at h2;split at h2
  ·rename_i hj;have:=Nat.eq_of_beq_eq_true hj;subst this;exact⟨_,au,S',cC.MU h1,h2⟩
  ·rename_i hj;have bU:j ≠ id:=fun e=>by subst e;rw[Nat.beq_refl] at hj;cases hj
   exact⟨_,au,S',cC.block h1 (fun e=>bU (by grind)),h2⟩
 |_=>exact⟨_,au,S',cC.block h1 (by simp),h2⟩
theorem l_.wp {id:Nat}{ops:Array Oper}(jA:(P.follows .mixedOrders && Ek ops)=true) (h:l_ P w0 n ops.toList ops.toList (fun α S=>Q .normal α S) α S):Wp P w0 rd n (.region id ops true) Q α S:=by
 simp only[Bool.and_eq_true] at jA;obtain⟨au,S',h1,h2⟩:=h 0 rfl;rw[Array.length_toList,<-List.range_eq_range'] at h1;exact⟨_,au,S',cC.draw jA.1 jA.2 h1,h2⟩
end
section
variable {P:Program}{w0:World}{rd:Bool}{n:Nat}{α au:AA}{S S':ae}{Q:Exit->AA->ae->Prop}{c a b:Code}{ex:Exit}{K:List It}{r:AV}{ops rest:List Oper}{o:Oper}
theorem Mx.op (hd:oz n o.dst=true) (hw:iQ ops α o=some true) (h:a8 P w0 o.op α S (td r S')) (k:Mx P w0 rd n Q (.aN ops rest K) (uo o.dst α r) S'):Mx P w0 rd n Q (.aN ops (o::rest) K) α S:=Av.op hd hw h k
def ae_ (P:Program) (w0:World) (rd:Bool) (n:Nat) (I:Nat->AA->ae->Prop) (Q:Exit->AA->ae->Prop) (K:List It) (k:Nat):Exit->AA->ae->Prop :=
 fun ex α S=>match ex with|.normal=>∃ j,j < k/\I j α S|e=>Mx P w0 rd n Q (.out e K) α S
theorem Mx.next {I:Nat->AA->ae->Prop}{k:Nat}(j:Nat) (hj:j < k) (h:I j α S):Mx P w0 rd n (ae_ P w0 rd n I Q K k) (.out .normal []) α S:=⟨j,hj,h⟩
def CK:Exit->Bool|.normal=>true|.ret=>true|_=>false
end
def cE (i:Int):Value:=.int .i64 i
def jB:List (Value × AV)->Int->Option Nat
 |[],_=>none
 |p::es,i=>match p.1 with
  |.int _ n=>match decide (n=i) with|true=>some 0|false=>(jB es i).map (·+1)
  |_=>(jB es i).map (·+1)
def oy (es:List (Value × AV)) (i:Int):Option AV:=match jB es i with|some j=>(es[j]?).map (·.2)|none=>none
def vp (es:List (Value × AV)) (i:Int) (b:AV):List (Value × AV):=match jB es i with|some j=>es.set j (cE i,b)|none=>es++[(cE i,b)]
def EP (es:List (Value × AV)) (i:Int):List (Value × AV):=match jB es i with|some j=>es.eraseIdx j|none=>es
def lU (es:List (Value × AV)):Prop:=∀ p ∈ es,∃ n,p.1=cE n
theorem sY:∀ {es:List (Value × AV)}{i:Int}{j:Nat},lU es->jB es i=some j->∃ a,es[j]?=some (cE i,a)
 |[],i,j,_,h=>by cases h
 |p::es,i,j,hk,h=>by
  obtain⟨n,hn⟩:=hk p (by simp);simp only[jB,hn,cE] at h;split at h
  ·grind
  ·cases hx:jB es i with
   |none=>rw[hx] at h;cases h
   |some j' =>
    rw[hx] at h;obtain rfl:=oJ_ h;obtain⟨a,ha⟩:=sY (fun q hq=>hk q (by grind)) hx;exact⟨a,by grind⟩
theorem Em {kk:IntKind}{i:Int}:∀ {es:List (Value × AV)}{L:List MapEntry}{o:Nat},lU es->L.length=es.length->(∀ (j:Nat) (k:Value) (a:AV) (e:MapEntry),es[j]?=some (k,a)->L[j]?=some e->e.key=k) ->
  Instr.findNow (.int kk) (cE i) L o=some (match jB es i with|some j=>(L[j]?).map fun e=>(j+o,e.val)|none=>none)
 |[],[],o,_,_,_=>rfl
 |p::es,e::L,o,hk,hl,h=>by
  obtain⟨n,hn⟩:=hk p (by simp);have Zm:e.key=cE n:=by rw[h 0 p.1 p.2 e rfl rfl,hn]
  simp only[Instr.findNow,Zm,cE,Instr.sameNow,if_true,jB,hn];by_cases c:n=i
  ·grind
  ·have c':¬ i=n:=fun e=>c e.symm;simp only[c,decide_false,beq_eq_false_iff_ne.2 c'];have ih:=Em (kk:=kk) (i:=i) (es:=es) (L:=L) (o:=o+1) (fun q hq=>hk q (by grind)) (by grind) (fun j k a e' h1 h2=>h (j+1) k a e' (by grind) (by grind));simp only[cE] at ih;rw[ih];congr 1;cases jB es i with
   |none=>rfl
   |some j=>simp only[Option.map_some,List.getElem?_cons_succ];congr 1;funext x;congr 1;omega
 |[],_::_,_,_,hl,_=>by grind
 |_::_,[],_,_,hl,_=>by grind
section
variable {P:Program}{w0:World}{n:Nat}{o:Oper}{α:AA}{S S':ae}{r:AV}
theorem n0 {g:Gh}{w:World}{k:Nat}{v:Value}(h:aF g w (.mp k) v):v=.map (some (g.ob k))/\g.al k:=by
 cases h with
 |mp hk=>exact⟨rfl,hk⟩
theorem run_checkKey {kt:TypeId}{kk:IntKind}{w:World}(h:P.underlying kt=some (.int kk)) (b:Bool) (i:Int):(Instr.checkKey b 10000 kt (cE i)).run P w=.ok () w:=by
 rw[show (10000:Nat)=9999+1 from rfl,Instr.checkKey];simp[run_underlying h,cE,Sem.run_bind]
theorem run_findKey {kt:TypeId}{kk:IntKind}{w:World}{i:Int}{L:List MapEntry}{x:Option (Nat × Value)}(h:P.underlying kt=some (.int kk)) (hx:Instr.findNow (.int kk) (cE i) L 0=some x):(Instr.findKey kt (cE i) L).run P w=.ok x w:=by
 simp only[Instr.findKey,Sem.run_bind,run_underlying h,Result.andThen_ok,hx,Sem.run_pure]
theorem eM {w:World}{b:Nat}{es:Array MapEntry}{clock:Nat}(h:w.heap[b]?=some (.map es clock)):(getObj b).run P w=.ok (.map es clock) w:=by
 simp[getObj,Sem.run,h]
theorem zn {g:Gh}{w:World}{es:List (Value × AV)}{entries:Array MapEntry}(bS:entries.size=es.length) (he:∀ (i:Nat) (k:Value) (a:AV),es[i]?=some (k,a)->∃ e:MapEntry,entries[i]?=some e/\e.key=k/\aF g w a e.val) (hk:lU es) {kk:IntKind}(i:Int) :
  Instr.findNow (.int kk) (cE i) entries.toList 0=some (match jB es i with|some j=>(entries[j]?).map fun e=>(j,e.val)|none=>none):=by
 have h:=Em (kk:=kk) (i:=i) (es:=es) (L:=entries.toList) (o:=0) hk (by grind) (fun j k a e h1 h2=>by grind);simpa using h
theorem zm {t kt et:TypeId}{kk:IntKind}{x i:Operand}{k:Nat}{es:List (Value × AV)}{z:Value}{m:Int}{c:Bool}(ho:o.op=.lookup t x i c) (ht:P.underlying t=some (.map kt et)) (oa:P.underlying kt=some (.int kk)) (hz:de P et=some z)
  (hx:α.ev x=.mp k) (hE:∀ (A:Nat->Prop) (g:Gh) (w:World),St w0 A g S w->g.al k->∃ (entries:Array MapEntry) (clock:Nat),w.heap[g.ob k]?=some (.map entries clock)/\entries.size=es.length/\∀ (i:Nat) (k:Value) (a:AV),es[i]?=some (k,a)->∃ e:MapEntry,entries[i]?=some e/\e.key=k/\aF g w a e.val) (hk:lU es) (hi:α.ev i=.v (cE m)):aQ P w0 n o α S (match oy es m with|some a=>(if c then .aG [a,.v (.bool true)] else a)|none=>(if c then .aG [lift z,.v (.bool false)] else lift z)) S:=by
 refine aQ.quiet fun A g q w cZ hA=>?_;have h1:=hA.ev x;have h2:=hA.ev i;rw[hx] at h1;rw[hi] at h2;obtain⟨e1,aK⟩:=n0 h1;have e2:=bI h2;obtain⟨entries,clock,p1,p2,p3⟩:=hE A g w cZ aK;have hf:=zn p2 p3 hk (kk:=kk) m;obtain⟨inf,amn,nZ⟩:∃ inf,P.info? et=some inf/\inf.zero=some z:=by
  unfold de at hz;cases hp:P.info? et with
  |none=>rw[hp] at hz;cases hz
  |some inf=>rw[hp] at hz;exact⟨inf,rfl,hz⟩
 have fin:∀ (v:Value) (b:Bool) (a:AV),aF g w a v->aF g w (if c then .aG [a,.v (.bool b)] else a) (if c then .tuple #[v,.bool b] else v):=by
  intro v b a hr;cases c with
  |false=>exact hr
  |true =>
   refine .aG rfl fun i y x hy hx=>?_
   match i with
   |0=>simp at hy hx;subst hy hx;exact hr
   |1=>simp at hy hx;subst hy hx;exact .v
   |i+2=>simp at hy
 unfold oy;cases hj:jB es m with
 |none =>
  rw[hj] at hf;refine⟨_,?_,fin z false (lift z) (tu z)⟩;simp only[execOp,ho,e1,e2,Instr.lookup,Sem.run_bind,run_underlying ht,Result.andThen_ok,eM p1,Sem.run_pure,run_checkKey oa,run_findKey oa hf,lN hz]
 |some j =>
  obtain⟨a,ha⟩:=sY hk hj;obtain⟨e,q1,q2,q3⟩:=p3 j _ a ha;rw[hj] at hf;simp only[q1,Option.map_some] at hf;simp only[ha,Option.map_some];refine⟨_,?_,fin e.val true a q3⟩;simp only[execOp,ho,e1,e2,Instr.lookup,Sem.run_bind,run_underlying ht,Result.andThen_ok,eM p1,Sem.run_pure,run_checkKey oa,run_findKey oa hf]
theorem R4 {t kt et:TypeId}{kk:IntKind}{x i:Operand}{k:Nat}{es:List (Value × AV)}{z:Value}{m:Int}{c:Bool}(ho:o.op=.lookup t x i c) (ht:P.underlying t=some (.map kt et)) (oa:P.underlying kt=some (.int kk)) (hz:de P et=some z)
  (hx:α.ev x=.mp k) (hS:S.get k=some (.mp es)) (hk:lU es) (hi:α.ev i=.v (cE m)):aQ P w0 n o α S (match oy es m with|some a=>(if c then .aG [a,.v (.bool true)] else a)|none=>(if c then .aG [lift z,.v (.bool false)] else lift z)) S :=
 zm ho ht oa hz hx (fun A g w cZ aK=>(cZ.bT k _ hS aK).2.2) hk hi
theorem St.vY {A:Nat->Prop}{g:Gh}{w:World}{k:Nat}{es es':List (Value × AV)}{entries entries':Array MapEntry}{clock clock':Nat}(hS:St w0 A g S w) (hk:S.get k=some (.mp es)) (ha:g.al k) (hm:w.heap[g.ob k]?=some (.map entries clock))
  (bS:entries'.size=es'.length) (he:∀ (i:Nat) (k:Value) (a:AV),es'[i]?=some (k,a)->∃ e:MapEntry,entries'[i]?=some e/\e.key=k/\aF g w a e.val) :
  ∃ w',(setObj (g.ob k) (.map entries' clock')).run P w=.ok () w'/\St w0 A g (S.set k (some (.mp es'))) w'/\Ext A g w g w':=by
 have aA:=(hS.bT k _ hk ha).2.1;have uw:({ w with heap:=w.heap.setIfInBounds (g.ob k) (.map entries' clock') }:World).heap[g.ob k]?=some (.map entries' clock'):=by grind
 obtain⟨h1,h2⟩:=hS.putObj (ob:=.mp es') hk ha (fun J=>⟨by simp,by simp⟩) (x':=.map entries' clock') rfl (fun q=>by simp only[World.cell?,uw,hm]) (fun hL hb=>⟨entries',clock',hb,bS,fun i key a hi=>by
  obtain⟨e,q1,q2,q3⟩:=he i key a hi;exact⟨e,q1,q2,q3.later hL⟩⟩)
 exact⟨_,by simp[setObj,Sem.run,hm],h2,h1⟩
theorem O2 {t:TypeId}(ho:o.op=.makeMap t none):aQ P w0 n o α S (.mp S.nx) (S.new (.mp [])):=by
 intro A g q w hS hA;obtain⟨h1,h2⟩:=hS.new (.map #[] 0) (.mp []) 0 (fun J=>by simp) (fun hL=>⟨#[],0,dw,rfl,fun i k a h=>by grind⟩);have hr:=aF.mp (g:=g.new S.nx w.heap.size 0) (w:=w.alloc (.map #[] 0)) (k:=S.nx) (.inr rfl);rw[show (g.new S.nx w.heap.size 0).ob S.nx=w.heap.size from az _ _ _] at hr;refine⟨_,_,_,.inl ?_,hr,h2,h1⟩;simp[execOp,ho,Instr.makeMap,newObj,Sem.run]
theorem MM {t kt et:TypeId}{x:Operand}{kk:IntKind}{m:Int}(ho:o.op=.makeMap t (some x)) (ht:P.underlying t=some (.map kt et)) (hx:α.ev x=.v (.int kk m)):aQ P w0 n o α S (.mp S.nx) (S.new (.mp [])):=by
 intro A g q w hS hA;have h0:=hA.ev x;rw[hx] at h0;have e0:=bI h0;obtain⟨h1,h2⟩:=hS.new (.map #[] 0) (.mp []) 0 (fun J=>by simp) (fun hL=>⟨#[],0,dw,rfl,fun i k a h=>by grind⟩);have hr:=aF.mp (g:=g.new S.nx w.heap.size 0) (w:=w.alloc (.map #[] 0)) (k:=S.nx) (.inr rfl);rw[show (g.new S.nx w.heap.size 0).ob S.nx=w.heap.size from az _ _ _] at hr;refine⟨_,_,_,.inl ?_,hr,h2,h1⟩;simp[execOp,ho,Instr.makeMap,newObj,Sem.run,e0,run_underlying ht,asInt,asIntOf]
theorem HN {t kt et:TypeId}{kk:IntKind}{x i y:Operand}{k:Nat}{es:List (Value × AV)}{m:Int}{b:AV}(ho:o.op=.mapUpdate t x i y) (ht:P.underlying t=some (.map kt et)) (oa:P.underlying kt=some (.int kk))
  (hx:α.ev x=.mp k) (hS:S.get k=some (.mp es)) (hk:lU es) (hi:α.ev i=.v (cE m)) (hy:α.ev y=b):aQ P w0 n o α S (.v undef) (S.set k (some (.mp (vp es m b)))):=by
 intro A g q w cZ hA;have h1:=hA.ev x;have h2:=hA.ev i;have h3:=hA.ev y;rw[hx] at h1;rw[hi] at h2;rw[hy] at h3;obtain⟨e1,aK⟩:=n0 h1;have e2:=bI h2;obtain⟨v,hv⟩:∃ v,q.eval y=v:=⟨_,rfl⟩;rw[hv] at h3;obtain⟨_,_,entries,clock,p1,p2,p3⟩:=cZ.bT k _ hS aK;have hf:=zn p2 p3 hk (kk:=kk) m;have hlen:entries.toList.length=entries.size:=Array.length_toList;unfold vp;cases hj:jB es m with
 |none =>
  rw[hj] at hf;obtain⟨w',q1,q2,q3⟩:=cZ.vY (P:=P) hS aK p1 (entries':=entries.push { key:=cE m,val:=v,born:=clock }) (clock':=clock+1) (es':=es++[(cE m,b)]) (by grind) (fun i key a hi=>by
   by_cases c:i < es.length
   ·grind
   ·rw[List.getElem?_append_right (by omega)] at hi;have Ic:i=es.length:=by grind
    subst Ic;simp at hi;obtain⟨rfl,rfl⟩:=hi;exact⟨{ key:=cE m,val:=v,born:=clock },by grind,rfl,h3⟩)
  refine⟨undef,w',g,.inr ⟨?_,rfl⟩,.v,q2,q3⟩;simp only[execOp,ho,e1,e2,hv,Instr.mapUpdate,Sem.run_bind,run_underlying ht,Result.andThen_ok,eM p1,run_checkKey oa,run_findKey oa hf,q1,Sem.run_pure]
 |some j =>
  obtain⟨a,ha⟩:=sY hk hj;obtain⟨e,r1,r2,r3⟩:=p3 j _ a ha;rw[hj] at hf;simp only[r1,Option.map_some] at hf;have lx:j < entries.size:=(Array.getElem?_eq_some_iff.1 r1).1;obtain⟨w',q1,q2,q3⟩:=cZ.vY (P:=P) hS aK p1 (entries':=entries.modify j fun e=>{ e with key:=cE m,val:=v }) (clock':=clock) (es':=es.set j (cE m,b)) (by grind) (fun i key a' hi=>by grind);refine⟨undef,w',g,.inr ⟨?_,rfl⟩,.v,q2,q3⟩;have mj:(Instr.keyThatStays (((entries[j]?).map (·.key)).getD (cE m)) (cE m)).run P w=.ok (cE m) w:=by
   rw[r1];simp[Instr.keyThatStays,r2,Instr.sameBits,cE]
  simp only[execOp,ho,e1,e2,hv,Instr.mapUpdate,Sem.run_bind,run_underlying ht,Result.andThen_ok,eM p1,run_checkKey oa,run_findKey oa hf,mj,q1,Sem.run_pure]
end
inductive QO where
 |t (n:Nat)
 |c (a:AV)
def QO.ev (f:Nat->AV):QO->AV
 |.t n=>f n
 |.c a=>a
def qo:Operand->QO
 |.tmp t=>.t t
 |.const v=>.c (lift v)
 |.global g=>.c (.v (.pointer (some ⟨g,0,none⟩)))
 |.func f=>.c (.v (.func (.func f) #[] #[]))
theorem aI {α:AA}(x:Operand):(qo x).ev α.tm=α.ev x:=by cases x<;>rfl
inductive LK where
 |agg (n:Nat)
 |cell
inductive SK where
 |str
 |sl (n:Nat)
inductive BK where
 |b
 |s
 |o
 |f
 |p
inductive ee where
 |mv (x:QO)
 |pick (c a b:QO)
 |alloc (cs:List AV)
 |box (x:QO)
 |build (cs:List AV) (parts:List (Nat × Nat × QO))
 |rows (n:Nat) (rows:List (List AV)) (parts:List (Nat × QO))
 |load (k:LK) (x:QO)
 |store (n:Nat) (x b:QO)
 |bin (op:BinOp) (isB:BK) (x y:QO)
 |not (x:QO)
 |neg (x:QO)
 |conv (k:IntKind) (x:QO)
 |sD (x:QO)
 |AH (off:Nat) (x:QO)
 |field (k:LK) (off:Nat) (x:QO)
 |ox (n:Nat) (x i:QO)
 |ph (len n:Nat) (x i:QO)
 |yv (x i:QO)
 |oJ (len n:Nat) (k:LK) (x i:QO)
 |slice (k:SK) (x:QO) (lo hi mx:Option QO)
 |extract (x:QO) (i:Nat)
 |iI (z:List AV) (by_:Nat) (l c:QO)
 |yD (x:QO)
 |sE (x:QO)
 |HL (f:Fn) (first cap:List QO)
 |AI (x:QO)
 |call (f:QO) (args:List QO)
 |len (str:Bool) (x:QO)
 |append (sz by_:Nat) (a b:QO)
 |min (x y:QO)
 |max (x y:QO)
 |TH (x:QO)
 |gj (x:Option QO)
 |look (z:AV) (c:Bool) (x i:QO)
 |j7 (x i b:QO)
 |y9 (x:QO)
 |EK (t:Nat) (x:QO)
 |eqs (t:Nat) (x y:QO)
 |del (x i:QO)
 |copy (sz:Nat) (a b:QO)
 |wj (z:List AV) (a:QO)
 |rp (a:QO)
 |cap (a:QO)
 |E8 (z:List AV) (by_:Nat) (a m:QO)
 |fP (kt:Nat) (z:AV) (c:Bool) (x i:QO)
 |oD (kt:Nat) (x i b:QO)
 |zo (z:AV) (x i:QO)
 |zp (x i b:QO)
 |assert (t:Nat) (c:Bool) (x:QO)
def eZ (T:Tables) (t:TypeId):Option TypeDesc :=
 match T.info? t with
 |some { desc:=.named _ u,.. }=>(T.info? u).map (·.desc)
 |some i=>some i.desc
 |none=>none
def agT (T:Tables) (t:TypeId):Option Bool :=
 match eZ T t with
 |some (.struct _)|some (.array _ _)=>some true
 |some _=>some false
 |none=>none
def sC (T:Tables) (t:TypeId):Option Nat:=(T.info? t).map (·.size)
def Wq (T:Tables) (t:TypeId):Option Nat:=(T.info? t).map (·.bytes)
def BW (T:Tables) (t:TypeId):Option Value:=(T.info? t).bind (·.zero)
def Ky (T:Tables) (t:TypeId):Option TypeId:=match eZ T t with|some (.slice e)=>some e|_=>none
def plT (T:Tables) (fs:Array Field) (i:Nat):Option (Nat × Nat) :=
 match fs[i]? with
 |some f=>match sC T f.type with|some n=>some (f.offset,n)|none=>none
 |none=>none
def Hw (T:Tables) (t:TypeId):Option LK:=match agT T t,sC T t with
 |some true,some n=>some (.agg n)
 |some false,_=>some .cell
 |_,_=>none
section
variable {P:Program}
theorem bE (t:TypeId):eZ P.toTables t=P.underlying t:=rfl
theorem ab1 (t:TypeId):agT P.toTables t=MV P t:=rfl
theorem dS (t:TypeId):sC P.toTables t=cY P t:=rfl
theorem me (t:TypeId):Wq P.toTables t=iu P t:=rfl
theorem gU (t:TypeId):BW P.toTables t=de P t:=rfl
theorem kh (t:TypeId):Ky P.toTables t=fZ P t:=rfl
theorem qc (fs:Array Field):plT P.toTables fs=H5 P fs:=rfl
end
def pD (k:LK) (row:List AV) (j:Nat):Option AV:=match k with
 |.agg n=>match Nat.ble (j+n) row.length with|true=>some (.agg (MW row j n))|false=>none
 |.cell=>row[j]?
theorem zi {P:Program}{t:TypeId}{k:LK}(h:Hw P.toTables t=some k) (row:List AV) (j:Nat):nC P t row j=pD k row j:=by
 unfold Hw at h;simp only[ab1,dS] at h;unfold nC;split at h
 ·rename_i n h1 h2;obtain rfl:=oJ_ h;rw[h1,h2];rfl
 ·rename_i h1;obtain rfl:=oJ_ h;rw[h1];rfl
 ·grind
def mc (k:LK) (S:ae):AV->Option AV
 |.ip row=>pD k row 0
 |.pt b sz i j=>match S.get b with
  |some (.arr sz' rows _ _)=>match Nat.beq sz sz' with
   |true=>match rows[i]? with
    |some row=>pD k row j
    |none=>none
   |false=>none
  |_=>none
 |_=>none
theorem Ft {P:Program}{t:TypeId}{k:LK}(h:Hw P.toTables t=some k) (S:ae) (a:AV):uK P S t a=mc k S a:=by
 unfold uK mc;simp only[zi h]
 rfl
def Kz (place:Nat->Option (Nat × Nat)):List (Nat × Operand)->Option (List (Nat × Nat × QO))
 |[]=>some []
 |(i,x)::rest=>match place i with
  |some (off,size)=>match Kz place rest with
   |some l=>some ((off,size,qo x)::l)
   |none=>none
  |none=>none
def Hq (f:Nat->AV):List AV->List (Nat × Nat × QO)->Option (List AV)
 |cells,[]=>some cells
 |cells,(off,size,x)::rest=>match Nat.beq (aL (x.ev f)).length size && Nat.ble (off+size) cells.length && (aL (x.ev f)).all bO with
  |true=>Hq f (mF cells off (aL (x.ev f))) rest
  |false=>none
theorem CH {α:AA}{place:Nat->Option (Nat × Nat)}:∀ {l:List (Nat × Operand)}{l':List (Nat × Nat × QO)}{cells:List AV},Kz place l=some l' ->
  wY place cells (l.map fun (i,x)=>(i,α.ev x))=Hq α.tm cells l'
 |[],l',cells,h=>by obtain rfl:=oJ_ h;rfl
 |(i,x)::rest,l',cells,h=>by
  simp only[Kz] at h;split at h
  ·rename_i off size hp;split at h
   ·rename_i l hl;obtain rfl:=oJ_ h;simp only[List.map_cons,wY,hp,Hq,aI];cases hc:(Nat.beq (aL (α.ev x)).length size && Nat.ble (off+size) cells.length && (aL (α.ev x)).all bO) with
    |true=>simp only[];rw[CH hl]
    |false=>rfl
   ·grind
  ·grind
def res (T:Tables):Op->Option ee
 |.move x=>some (.mv (qo x))
 |.assign x=>some (.mv (qo x))
 |.pick c a b=>some (.pick (qo c) (qo a) (qo b))
 |.alloc e=>match BW T e with
  |some z=>some (.alloc (z.cells.toList.map bJ))
  |none=>none
 |.box _ x=>some (.box (qo x))
 |.build t parts=>match BW T t with
  |some (.agg cs)=>match eZ T t with
   |some (.struct fs)=>match fs.toList.all fun f=>(sC T f.type).isSome with
    |true=>match Kz (plT T fs) parts.toList with
     |some l=>some (.build (cs.toList.map bJ) l)
     |none=>none
    |false=>none
   |some (.array _ e)=>match sC T e with
    |some n=>match Kz (fun i=>some (i*n,n)) parts.toList with
     |some l=>some (.build (cs.toList.map bJ) l)
     |none=>none
    |none=>none
   |_=>none
  |_=>none
 |.buildSlice t len parts=>match Ky T t with
  |some e=>match BW T e,sC T e with
   |some z,some n=>match Nat.ble (len*n) 16777216 && Nat.beq z.cells.size n && Nat.blt 0 n with
    |true=>some (.rows n (List.replicate len (z.cells.toList.map bJ)) (parts.toList.map fun (i,x)=>(i,qo x)))
    |false=>none
   |_,_=>none
  |none=>none
 |.load t x=>match Hw T t with
  |some k=>some (.load k (qo x))
  |none=>none
 |.store t x b=>match sC T t with
  |some n=>some (.store n (qo x) (qo b))
  |none=>none
 |.binOp op t x y _=>match eZ T t with
  |some .bool=>some (.bin op .b (qo x) (qo y))
  |some (.slice _)=>some (.bin op .s (qo x) (qo y))
  |some (.func ..)=>some (.bin op .f (qo x) (qo y))
  |some (.pointer _)=>some (.bin op .p (qo x) (qo y))
  |some (.struct _)=>match op with
   |.eql=>some (.eqs t (qo x) (qo y))
   |_=>none
  |_=>some (.bin op .o (qo x) (qo y))
 |.unOp op _ x=>match op with
  |.not=>some (.not (qo x))
  |.neg=>some (.neg (qo x))
  |_=>none
 |.convert src dst x=>match eZ T src,eZ T dst with
  |some (.int _),some (.int k)=>some (.conv k (qo x))
  |some .string,some .string=>some (.sD (qo x))
  |some (.slice e),some .string=>match eZ T e with
   |some (.int .u8)=>some (.TH (qo x))
   |_=>none
  |_,_=>none
 |.fieldAddr s x f=>match eZ T s with
  |some (.struct fs)=>match fs[f]? with
   |some fd=>match sC T fd.type with
    |some (_+1)=>some (.AH fd.offset (qo x))
    |_=>none
   |none=>none
  |_=>none
 |.field t x f=>match eZ T t with
  |some (.struct fs)=>match fs[f]? with
   |some fd=>match Hw T fd.type with
    |some k=>some (.field k fd.offset (qo x))
    |none=>none
   |none=>none
  |_=>none
 |.indexAddr t x i=>match eZ T t with
  |some (.slice e)=>match sC T e with
   |some n=>some (.ox n (qo x) (qo i))
   |none=>none
  |some (.array len e)=>match sC T e with
   |some n=>some (.ph len n (qo x) (qo i))
   |none=>none
  |_=>none
 |.index t x i=>match eZ T t with
  |some .string=>some (.yv (qo x) (qo i))
  |some (.array len e)=>match sC T e,Hw T e with
   |some n,some k=>some (.oJ len n k (qo x) (qo i))
   |_,_=>none
  |_=>none
 |.slice t x lo hi mx=>match eZ T t with
  |some .string=>some (.slice .str (qo x) (lo.map qo) (hi.map qo) (mx.map qo))
  |some (.slice e)=>match sC T e with
   |some n=>some (.slice (.sl n) (qo x) (lo.map qo) (hi.map qo) (mx.map qo))
   |none=>none
  |_=>none
 |.extract x i=>some (.extract (qo x) i)
 |.makeSlice t l c=>match Ky T t with
  |some e=>match BW T e,sC T e,Wq T e with
   |some z,some sz,some by_=>match Nat.beq z.cells.size sz && Nat.blt 0 sz with
    |true=>some (.iI (z.cells.toList.map bJ) by_ (qo l) (qo c))
    |false=>none
   |_,_,_=>none
  |none=>none
 |.range t x=>match eZ T t with
  |some .string=>some (.yD (qo x))
  |_=>none
 |.next x isStr=>match isStr with
  |true=>some (.sE (qo x))
  |false=>none
 |.makeFunc f first cap=>some (.HL f (first.toList.map qo) (cap.toList.map qo))
 |.nilCheck x=>some (.AI (qo x))
 |.call c=>match c.callee with
  |.value f=>some (.call (qo f) (c.args.toList.map qo))
  |.builtin b=>match b,c.argTypes.toList,c.args.toList with
   |.len,[t],[x]=>match eZ T t with
    |some (.slice _)=>some (.len false (qo x))
    |some .string=>some (.len true (qo x))
    |_=>none
   |.append,[t,t2],[a,b]=>match Ky T t,Ky T t2 with
    |some e,some _=>match BW T e,sC T e,Wq T e with
     |some z,some sz,some by_=>match Nat.beq z.cells.size sz && Nat.blt 0 by_ with
      |true=>some (.append sz by_ (qo a) (qo b))
      |false=>none
     |_,_,_=>none
    |some e,none=>match eZ T t2 with
     |some (.int _)=>match BW T e,sC T e,Wq T e with
      |some z,some sz,some by_=>match Nat.beq z.cells.size sz && Nat.blt 0 by_ with
       |true=>some (.E8 (z.cells.toList.map bJ) by_ (qo a) (qo b))
       |false=>none
      |_,_,_=>none
     |_=>none
    |none,_=>none
   |.delete,[t,_],[x,i]=>match eZ T t with
    |some (.map kt _)=>match eZ T kt with
     |some (.int _)=>some (.del (qo x) (qo i))
     |_=>none
    |_=>none
   |.copy,[t,t2],[a,b]=>match Ky T t,Ky T t2 with
    |some e,some _=>match sC T e with
     |some sz=>some (.copy sz (qo a) (qo b))
     |none=>none
    |_,_=>none
   |.clear,[t],[a]=>match eZ T t with
    |some (.slice e)=>match BW T e with
     |some z=>some (.wj (z.cells.toList.map bJ) (qo a))
     |none=>none
    |some (.map _ _)=>some (.rp (qo a))
    |_=>none
   |.cap,[t],[a]=>match eZ T t with
    |some (.slice _)=>some (.cap (qo a))
    |_=>none
   |.min,_,[x,y]=>some (.min (qo x) (qo y))
   |.max,_,[x,y]=>some (.max (qo x) (qo y))
   |_,_,_=>none
  |.invoke _ _=>none
 |.makeMap t r=>match eZ T t with
  |some (.map _ _)=>some (.gj (r.map qo))
  |_=>none
 |.lookup t x i c=>match eZ T t with
  |some (.map kt et)=>match eZ T kt,BW T et with
   |some (.int _),some z=>some (.look (lift z) c (qo x) (qo i))
   |some (.struct _),some z=>some (.fP kt (lift z) c (qo x) (qo i))
   |some .string,some z=>some (.fP kt (lift z) c (qo x) (qo i))
   |_,_=>none
  |_=>none
 |.mapUpdate t x i y=>match eZ T t with
  |some (.map kt _)=>match eZ T kt with
   |some (.int _)=>some (.j7 (qo x) (qo i) (qo y))
   |some (.struct _)=>some (.oD kt (qo x) (qo i) (qo y))
   |some .string=>some (.oD kt (qo x) (qo i) (qo y))
   |_=>none
  |_=>none
 |.mapEntry t x i=>match eZ T t with
  |some (.map kt et)=>match eZ T kt,BW T et with
   |some (.int _),some z=>some (.zo (lift z) (qo x) (qo i))
   |_,_=>none
  |_=>none
 |.entryStore t x i y=>match eZ T t with
  |some (.map kt _)=>match eZ T kt with
   |some (.int _)=>some (.zp (qo x) (qo i) (qo y))
   |_=>none
  |_=>none
 |.typeAssert x _ t c=>match eZ T t with
  |some (.interface _)=>none
  |some _=>some (.assert t c (qo x))
  |none=>none
 |.panic x=>some (.y9 (qo x))
 |.makeInterface t x=>some (.EK t (qo x))
 |_=>none
def ja (q:ee) (f:Nat->AV) (S:ae):Option (AV × ae) :=
 match q with
 |.mv x=>some (x.ev f,S)
 |.pick c a b=>match c.ev f with
  |.v (.bool true)=>some (a.ev f,S)
  |.v (.bool false)=>some (b.ev f,S)
  |_=>none
 |.alloc cs=>Fp S cs
 |.box x=>match (aL (x.ev f)).all bO with
  |true=>Fp S (aL (x.ev f))
  |false=>none
 |.build cs parts=>match Hq f cs parts with
  |some l=>some (.agg l,S)
  |none=>none
 |.rows n rows parts=>match sG n rows (parts.map fun (i,x)=>(i,x.ev f)) with
  |some rows=>some (.sl true rows,S)
  |none=>none
 |.load k x=>match mc k S (x.ev f) with
  |some a=>some (a,S)
  |none=>none
 |.store n x b=>match b.ev f,x.ev f with
  |bv,.pt k sz 0 j=>match S.get k with
   |some (.arr sz' [row] 0 ex)=>match Nat.beq sz sz' && (aL bv).all bO && Nat.beq n (aL bv).length with
    |true=>match Nat.ble (j+(aL bv).length) row.length with
     |true=>match S with|⟨g,x⟩=>some (.v undef,⟨a7 g k (some (.arr sz [mF row j (aL bv)] 0 ex)),x⟩)
     |false=>none
    |false=>none
   |_=>none
  |_,_=>none
 |.not x=>match x.ev f with
  |.v (.bool true)=>some (.v (.bool false),S)
  |.v (.bool false)=>some (.v (.bool true),S)
  |_=>none
 |.AH off x=>match x.ev f with
  |.ip row=>some (.ip (row.drop off),S)
  |.pt k sz i j=>some (.pt k sz i (j+off),S)
  |_=>none
 |.field k off x=>match x.ev f with
  |.agg l=>match pD k l off with
   |some a=>some (a,S)
   |none=>none
  |_=>none
 |.extract x i=>match x.ev f with
  |.aG l=>match l[i]? with
   |some a=>some (a,S)
   |none=>none
  |_=>none
 |.HL g first cap=>some (.fn g (first.map (·.ev f)) (cap.map (·.ev f)),S)
 |.AI x=>match x.ev f with
  |.ip c=>some (.ip c,S)
  |.pt k sz i j=>some (.pt k sz i j,S)
  |_=>none
 |_=>none
def MB (op:BinOp) (isB:BK):AV->AV->Option Bool
 |.v (.int k a),.v (.int k' b)=>match decide (k=k') with
  |true=>match op with
   |.eql=>some (a == b)
   |.neq=>some (a != b)
   |.lss=>some (decide (a < b))
   |.leq=>some (decide (a<=b))
   |.gtr=>some (decide (a > b))
   |.geq=>some (decide (a>=b))
   |_=>none
  |false=>none
 |.v (.string a),.v (.string b)=>match op with
  |.eql=>some (a.toList == b.toList)
  |.neq=>some (!(a.toList == b.toList))
  |.lss=>some (Op.bytesLess a.toList b.toList)
  |.leq=>some (Op.bytesLess a.toList b.toList || a.toList == b.toList)
  |.gtr=>some (!(Op.bytesLess a.toList b.toList || a.toList == b.toList))
  |.geq=>some (!Op.bytesLess a.toList b.toList)
  |_=>none
 |.v (.bool a),.v (.bool b)=>match isB,op with
  |.b,.eql=>some (a == b)
  |.b,.neq=>some (!(a == b))
  |_,_=>none
 |_,_=>none
section
variable {P:Program}{w0:World}{n:Nat}{o:Op}{α:AA}{S S':ae}{r:AV}{q:ee}{K:AV->ae->Prop}
theorem rF (hr:res P.toTables o=some q) (h:ja q α.tm S=some (r,S')):a8 P w0 o α S (td r S'):=by
 have e:∀ {a:AV}{T:ae},some (a,T)=some (r,S')->a=r/\T=S':=fun h=>by grind
 have e2:∀ {q:AV × ae},some q=some (r,S')->q.1=r/\q.2=S':=fun h=>by grind
 have key:∀ {T:Program->Op->AA->ae->Option (AV × ae)},sB P o α S=some (r,S')->a8 P w0 o α S (td r S'):=fun h=>RJ h;cases o with
 |move x=>obtain rfl:=oJ_ hr;rw[ja,aI] at h;exact e h
 |assign x=>obtain rfl:=oJ_ hr;rw[ja,aI] at h;exact e h
 |pick c a b =>
  obtain rfl:=oJ_ hr;simp only[ja,aI] at h;simp only[a8];split at h
  ·rename_i hc;rw[hc];exact e h
  ·rename_i hc;rw[hc];exact e h
  ·grind
 |alloc t =>
  simp only[res,bE,dS,me,gU,kh,qc] at hr;split at hr
  ·rename_i z hz;obtain rfl:=oJ_ hr;simp only[ja] at h;simp only[a8,hz];rw[qC] at h;exact e2 h
  ·grind
 |box t x =>
  obtain rfl:=oJ_ hr;simp only[ja,aI] at h;simp only[a8];split at h
  ·rename_i hx;rw[hx];rw[qC] at h;exact e2 h
  ·grind
 |build t parts =>
  simp only[res,bE,dS,me,gU,kh,qc] at hr;split at hr
  ·rename_i cs hz;split at hr
   ·rename_i fs hu;split at hr
    ·rename_i mZ;split at hr
     ·rename_i l hl;obtain rfl:=oJ_ hr;simp only[ja] at h;simp only[a8,tv,hz,hu,mZ,CH hl];split at h
      ·rename_i l' nI;simp only[nI,Option.map_some];exact e h
      ·grind
     ·grind
    ·grind
   ·rename_i le el hu;split at hr
    ·rename_i m hm;split at hr
     ·rename_i l hl;obtain rfl:=oJ_ hr;simp only[ja] at h;simp only[a8,tv,hz,hu,hm,CH hl];split at h
      ·rename_i l' nI;simp only[nI,Option.map_some];exact e h
      ·grind
     ·grind
    ·grind
   ·grind
  ·grind
 |buildSlice t len parts =>
  simp only[res,bE,dS,me,gU,kh,qc] at hr;split at hr
  ·rename_i el he;split at hr
   ·rename_i z m hz hs;split at hr
    ·rename_i hb;obtain rfl:=oJ_ hr;have hm:(parts.toList.map fun (i,x)=>(i,qo x)).map (fun (i,x)=>(i,QO.ev α.tm x))=parts.toList.map fun (i,x)=>(i,α.ev x):=by
      rw[List.map_map];apply List.map_congr_left;rintro⟨i,x⟩ _;simp[aI]
     simp only[ja] at h;rw[hm] at h;simp only[a8,he,hz,hs,hb];split at h
     ·rename_i rows Ji;simp only[Ji];exact e h
     ·grind
    ·grind
   ·grind
  ·grind
 |load t x =>
  simp only[res,bE,dS,me,gU,kh,qc] at hr;split at hr
  ·rename_i k hk;obtain rfl:=oJ_ hr;simp only[ja,aI] at h;simp only[a8];split at h
   ·rename_i z hz;rw[<-Ft hk] at hz;exact bc.mk hz (e h)
   ·grind
  ·grind
 |store t x b =>
  simp only[res,bE,dS,me,gU,kh,qc] at hr;split at hr
  ·rename_i m hm;obtain rfl:=oJ_ hr;simp only[ja,aI] at h;have hs:As P S t (α.ev b) (α.ev x)=some S'/\AV.v undef=r:=by grind[As,rE]
   simp only[a8];exact bc.mk (Au hs.1) ⟨hs.2,rfl⟩
  ·grind
 |unOp op t x =>
  simp only[res,bE,dS,me,gU,kh,qc] at hr;split at hr
  ·obtain rfl:=oJ_ hr;simp only[ja,aI] at h;simp only[a8];split at h
   ·rename_i hc;rw[hc];exact e h
   ·rename_i hc;rw[hc];exact e h
   ·grind
  ·obtain rfl:=oJ_ hr;cases h
  ·grind
 |fieldAddr s x f =>
  simp only[res,bE,dS,me,gU,kh,qc] at hr;split at hr
  ·rename_i fs hu;split at hr
   ·rename_i fd hf;split at hr
    ·rename_i m hm;obtain rfl:=oJ_ hr;simp only[ja,aI] at h;simp only[a8,hu,hf,hm];split at h
     ·rename_i row hx;simp only[hx];exact e h
     ·rename_i k sz i j hx;simp only[hx];exact e h
     ·grind
    ·grind
   ·grind
  ·grind
 |field t x f =>
  simp only[res,bE,dS,me,gU,kh,qc] at hr;split at hr
  ·rename_i fs hu;split at hr
   ·rename_i fd hf;split at hr
    ·rename_i k hk;obtain rfl:=oJ_ hr;simp only[ja,aI] at h;simp only[a8,hu,hf];split at h
     ·rename_i l hx;simp only[hx];split at h
      ·rename_i a ha;rw[<-zi hk] at ha;exact bc.mk ha (e h)
      ·grind
     ·grind
    ·grind
   ·grind
  ·grind
 |extract x i =>
  obtain rfl:=oJ_ hr;simp only[ja,aI] at h;simp only[a8];split at h
  ·rename_i l hx;split at h
   ·rename_i a ha;simp only[hx,ha];exact e h
   ·grind
  ·grind
 |makeFunc f first cap =>
  obtain rfl:=oJ_ hr;simp only[ja,List.map_map] at h;have hm:∀ l:List Operand,l.map ((·.ev α.tm) ∘ qo)=l.map α.ev:=fun l=>List.map_congr_left fun x _=>aI x;rw[hm,hm] at h;exact e h
 |nilCheck x =>
  obtain rfl:=oJ_ hr;simp only[ja,aI] at h;simp only[a8];split at h
  ·rename_i c hx;rw[hx];exact e h
  ·rename_i c hx;rw[hx];exact e h
  ·grind
 |_ =>
  simp only[res,bE,dS,me,gU,kh,qc] at hr
  repeat' split at hr
  all_goals first|(obtain rfl:=oJ_ hr;cases h)|cases hr
end
end Go.Proofs.YtbpabjmnhggajaaGreat
