import Derived.Test.YtbpabjmnhggajaaGreatOr6
namespace Go.Proofs.YtbpabjmnhggajaaGreat
set_option linter.all false
open Go.RowKit
variable {entries:Array MapEntry}{g:Gh}{m:Int}{kk:IntKind}{es:List (Value × AV)}{i x:Operand}{P:Program}{et kt t:TypeId}{w:World}
inductive It where
 |seq (c:Code)
 |yb (id:Nat)
inductive Cf where
 |run (c:Code) (K:List It)
 |out (ex:Exit) (K:List It)
 |bc (ops l:List Oper) (K:List It)
 |dr (ops l:List Oper) (K:List It)
section
variable (P:Program) (w0:World) (rd:Bool) (n:Nat)
def Wp (c:Code) (Q:Exit->AA->af->Prop) (α:AA) (S:af):Prop:=∃ex aE S',dN P w0 rd n c α S ex aE S'/\Q ex aE S'
def cont (Q:Exit->AA->af->Prop):List It->Exit->AA->af->Prop
 |[]=>Q
 |.seq b::K=>λex α S=>match ex with|.normal=>Wp P w0 rd n b (cont Q K) α S|e=>cont Q K e α S
 |.yb id::K=>λex α S=>match ex with|.exit j=>(match Nat.beq j id with|true=>cont Q K .normal α S|false=>cont Q K (.exit j) α S)|e=>cont Q K e α S
def wpC (Q:Exit->AA->af->Prop):Cf->AA->af->Prop
 |.run c K,α,S=>Wp P w0 rd n c (cont P w0 rd n Q K) α S
 |.out ex K,α,S=>cont P w0 rd n Q K ex α S
 |.bc ops l K,α,S=>D7 P w0 n ops l (λα S=>cont P w0 rd n Q K .normal α S) α S
 |.dr ops l K,α,S=>n_ P w0 n ops l (λα S=>cont P w0 rd n Q K .normal α S) α S
def mv:Cf->AA->af->Option (Cf × AA × af)
 |.run c K,α,S=>match c with
  |.skip=>some (.out .normal K,α,S)
  |.region _ ops false=>some (.bc ops.toList ops.toList K,α,S)
  |.seq a b=>some (.run a (.seq b::K),α,S)
  |.cond c a b=>match α.ev c with
   |.v (.bool true)=>some (.run a K,α,S)
   |.v (.bool false)=>some (.run b K,α,S)
   |_=>none
  |.block id c=>some (.run c (.yb id::K),α,S)
  |.exit id=>some (.out (.exit id) K,α,S)
  |.ret=>some (.out .ret K,α,S)
  |_=>none
 |.out ex K,α,S=>match K with
  |[]=>none
  |.seq b::K=>match ex with
   |.normal=>some (.run b K,α,S)
   |e=>some (.out e K,α,S)
  |.yb id::K=>match ex with
   |.exit j=>match Nat.beq j id with
    |true=>some (.out .normal K,α,S)
    |false=>some (.out (.exit j) K,α,S)
   |e=>some (.out e K,α,S)
 |.bc ops l K,α,S=>match Lf P n ops l α S with
  |([],aE,S')=>some (.out .normal K,aE,S')
  |(_::_,_,_)=>none
 |.dr ops l K,α,S=>match Lf P n ops l α S with
  |([],aE,S')=>some (.out .normal K,aE,S')
  |(_::_,_,_)=>none
end
section
variable {P:Program}{w0:World}{rd:Bool}{n:Nat}{α aE:AA}{S S':af}{Q Q':Exit->AA->af->Prop}{c a b:Code}{ex:Exit}
theorem Wp.of (h:dN P w0 rd n c α S ex aE S') (k:Q ex aE S'):Wp P w0 rd n c Q α S:=⟨_,_,_,h,k⟩
theorem Wp.seq (h:Wp P w0 rd n a (λex α S=>match ex with|.normal=>Wp P w0 rd n b Q α S|e=>Q e α S) α S):Wp P w0 rd n (.seq a b) Q α S:=by
 obtain⟨ex,g,i,d,f⟩:=h;cases ex with
 |normal =>
  obtain⟨c,aE,S',j,k⟩:=f;exact⟨c,aE,S',dN.seq d j,k⟩
 |_=>exact⟨_,g,i,dN.abF d (by simp),f⟩
theorem Wp.cond {o:Operand}{t:Bool}(c:α.ev o=.v (.bool t)) (h:Wp P w0 rd n (if t then a else b) Q α S):Wp P w0 rd n (.cond o a b) Q α S:=by
 obtain⟨ex,aE,S',d,e⟩:=h;exact⟨ex,aE,S',dN.cond c d,e⟩
theorem Wp.block {id:Nat}(h:Wp P w0 rd n c (λex α S=>match ex with|.exit j=>(match Nat.beq j id with|true=>Q .normal α S|false=>Q (.exit j) α S)|e=>Q e α S) α S):Wp P w0 rd n (.block id c) Q α S:=by
 obtain⟨ex,aE,S',d,a⟩:=h;cases ex with
 |exit j =>
  simp only at a;split at a
  ·rename_i b;have:=aH_ b;subst this;exact⟨_,aE,S',dN.R7 d,a⟩
  ·rename_i b;have f:j ≠ id:=λe=>by subst e;rw[bp_]at b;cases b
   exact⟨_,aE,S',dN.block d (λe=>f (by grind)),a⟩
 |_=>exact⟨_,aE,S',dN.block d (by simp),a⟩
theorem n_.wp {id:Nat}{ops:Array Oper}(a:(P.follows .mixedOrders && Ic ops)=true) (h:n_ P w0 n ops.toList ops.toList (λα S=>Q .normal α S) α S):Wp P w0 rd n (.region id ops true) Q α S:=by
 simp only[al_]at a;obtain⟨aE,S',b,c⟩:=h 0 rfl;rw[bh_,<-bQ_]at b;exact⟨_,aE,S',dN.draw a.1 a.2 b,c⟩
end
section
variable {P:Program}{w0:World}{rd:Bool}{n:Nat}{α aE:AA}{S S':af}{Q:Exit->AA->af->Prop}{c a b:Code}{ex:Exit}{K:List It}{r:AV}{ops rest:List Oper}{o:Oper}
theorem wpC.op (a:qE n o.dst=true) (b:kU ops α o=some true) (h:bu P w0 o.op α S (wJ r S')) (k:wpC P w0 rd n Q (.bc ops rest K) (xW o.dst α r) S'):wpC P w0 rd n Q (.bc ops (o::rest) K) α S:=D7.op a b h k
def KV:Exit->Bool|.normal=>true|.ret=>true|_=>false
end
def c_ (i:Int):Value:=.int .i64 i
def lW:List (Value × AV)->Int->Option Nat
 |[],_=>none
 |p::es,i=>match p.1 with
  |.int _ n=>match decide (n=i) with|true=>some 0|false=>(lW es i).map (·+1)
  |_=>(lW es i).map (·+1)
def se (es:List (Value × AV)) (i:Int):Option AV:=match lW es i with|some j=>(es[j]?).map (·.2)|none=>none
def AJ (es:List (Value × AV)) (i:Int) (b:AV):List (Value × AV):=match lW es i with|some j=>es.set j (c_ i,b)|none=>es++[(c_ i,b)]
def IM (es:List (Value × AV)) (i:Int):List (Value × AV):=match lW es i with|some j=>es.eraseIdx j|none=>es
def oB (es:List (Value × AV)):Prop:=∀p ∈ es,∃n,p.1=c_ n
theorem wG:∀{es:List (Value × AV)}{i:Int}{j:Nat},oB es->lW es i=some j->∃a,es[j]?=some (c_ i,a)
 |[],i,j,_,h=>by cases h
 |p::es,i,j,c,h=>by
  obtain⟨n,d⟩:=c p (by simp);simp only[lW,d,c_]at h;split at h
  ·grind
  ·cases b:lW es i with
   |none=>rw[b]at h;cases h
   |some e =>
    rw[b]at h;obtain rfl:=oJ_ h;obtain⟨a,f⟩:=wG (λq g=>c q (by grind)) b;exact⟨a,by grind⟩
theorem Ih {kk:IntKind}{i:Int}:∀{es:List (Value × AV)}{L:List MapEntry}{o:Nat},oB es->L.length=es.length->(∀(j:Nat) (k:Value) (a:AV) (e:MapEntry),es[j]?=some (k,a)->L[j]?=some e->e.key=k) ->
  Instr.findNow (.int kk) (c_ i) L o=some (match lW es i with|some j=>(L[j]?).map λe=>(j+o,e.val)|none=>none)
 |[],[],o,_,_,_=>rfl
 |p::es,e::L,o,d,f,h=>by
  obtain⟨n,g⟩:=d p (by simp);have b:e.key=c_ n:=by rw[h 0 p.1 p.2 e rfl rfl,g]
  simp only[Instr.findNow,b,c_,Instr.sameNow,if_true,lW,g];by_cases c:n=i
  ·grind
  ·have m:¬ i=n:=λe=>c e.symm;simp only[c,decide_false,beq_eq_false_iff_ne.2 m];have l:=Ih (kk:=kk) (i:=i) (es:=es) (L:=L) (o:=o+1) (λq s=>d q (by grind)) (by grind) (λj k a r t u=>h (j+1) k a r (by grind) (by grind));simp only[c_]at l;rw[l];congr 1;cases lW es i with
   |none=>rfl
   |some j=>simp only[aE_,cx_];congr 1;funext x;congr 1;omega
 |[],_::_,_,_,f,_=>by grind
 |_::_,[],_,_,f,_=>by grind
section
variable {P:Program}{w0:World}{n:Nat}{o:Oper}{α:AA}{S S':af}{r:AV}
theorem sI {k:Nat}{v:Value}(h:aN g w (.mp k) v):v=.map (some (g.ob k))/\g.al k:=by
 cases h with
 |mp a=>exact⟨rfl,a⟩
theorem run_checkKey (h:P.underlying kt=some (.int kk)) (b:Bool) (i:Int):(Instr.checkKey b 10000 kt (c_ i)).run P w=.ok () w:=by
 rw[show (10000:Nat)=9999+1 from rfl,Instr.checkKey];simp[run_underlying h,c_,Sem.run_bind]
theorem run_findKey {i:Int}{L:List MapEntry}{x:Option (Nat × Value)}(h:P.underlying kt=some (.int kk)) (a:Instr.findNow (.int kk) (c_ i) L 0=some x):(Instr.findKey kt (c_ i) L).run P w=.ok x w:=by
 simp only[Instr.findKey,Sem.run_bind,run_underlying h,Result.andThen_ok,a,Sem.run_pure]
theorem gV {b:Nat}{es:Array MapEntry}{clock:Nat}(h:w.heap[b]?=some (.map es clock)):(getObj b).run P w=.ok (.map es clock) w:=by
 simp[getObj,Sem.run,h]
theorem CU (c:entries.size=es.length) (d:∀(i:Nat) (k:Value) (a:AV),es[i]?=some (k,a)->∃e:MapEntry,entries[i]?=some e/\e.key=k/\aN g w a e.val) (b:oB es) (i:Int) :
  Instr.findNow (.int kk) (c_ i) entries.toList 0=some (match lW es i with|some j=>(entries[j]?).map λe=>(j,e.val)|none=>none):=by
 have h:=Ih (kk:=kk) (i:=i) (es:=es) (L:=entries.toList) (o:=0) b (by grind) (λj k a e f l=>by grind);simpa using h
theorem CT {k:Nat}{z:Value}{c:Bool}(u:o.op=.lookup t x i c) (B:P.underlying t=some (.map kt et)) (r:P.underlying kt=some (.int kk)) (f:d_ P et=some z)
  (h:α.ev x=.mp k) (N:∀(A:Nat->Prop) (g:Gh) (w:World),St w0 A g S w->g.al k->∃(entries:Array MapEntry) (clock:Nat),w.heap[g.ob k]?=some (.map entries clock)/\entries.size=es.length/\∀(i:Nat) (k:Value) (a:AV),es[i]?=some (k,a)->∃e:MapEntry,entries[i]?=some e/\e.key=k/\aN g w a e.val) (C:oB es) (hi:α.ev i=.v (c_ m)):a8 P w0 n o α S (match se es m with|some a=>(if c then .aL [a,.v (.bool true)] else a)|none=>(if c then .aL [lift z,.v (.bool false)] else lift z)) S:=by
 refine a8.quiet λA g q w O D=>?_;have E:=D.ev x;have F:=D.ev i;rw[h]at E;rw[hi]at F;obtain⟨G,Q⟩:=sI E;have H:=b_ F;obtain⟨entries,clock,I,R,J⟩:=N A g w O Q;have l:=CU R J C (kk:=kk) m;obtain⟨d,T,V⟩:∃d,P.info? et=some d/\d.zero=some z:=by
  unfold d_ at f;cases K:P.info? et with
  |none=>rw[K]at f;cases f
  |some d=>rw[K]at f;exact⟨d,rfl,f⟩
 have fin:∀(v:Value) (b:Bool) (a:AV),aN g w a v->aN g w (if c then .aL [a,.v (.bool b)] else a) (if c then .tuple #[v,.bool b] else v):=by
  intro v b a L;cases c with
  |false=>exact L
  |true =>
   refine .aL rfl λi y x p h=>?_
   match i with
   |0=>simp at p h;subst p h;exact L
   |1=>simp at p h;subst p h;exact .v
   |i+2=>simp at p
 unfold se;cases s:lW es m with
 |none =>
  rw[s]at l;refine⟨_,?_,fin z false (lift z) (wZ z)⟩;simp only[execOp,u,G,H,Instr.lookup,Sem.run_bind,run_underlying B,Result.andThen_ok,gV I,Sem.run_pure,run_checkKey r,run_findKey r l,o8 f]
 |some j =>
  obtain⟨a,M⟩:=wG C s;obtain⟨e,q1,W,U⟩:=J j _ a M;rw[s]at l;simp only[q1,aE_]at l;simp only[M,aE_];refine⟨_,?_,fin e.val true a U⟩;simp only[execOp,u,G,H,Instr.lookup,Sem.run_bind,run_underlying B,Result.andThen_ok,gV I,Sem.run_pure,run_checkKey r,run_findKey r l]
theorem WO {k:Nat}{z:Value}{c:Bool}(b:o.op=.lookup t x i c) (d:P.underlying t=some (.map kt et)) (e:P.underlying kt=some (.int kk)) (f:d_ P et=some z)
  (h:α.ev x=.mp k) (j:S.get k=some (.mp es)) (l:oB es) (hi:α.ev i=.v (c_ m)):a8 P w0 n o α S (match se es m with|some a=>(if c then .aL [a,.v (.bool true)] else a)|none=>(if c then .aL [lift z,.v (.bool false)] else lift z)) S :=
 CT b d e f h (λA g w p q=>(p.cT k _ j q).2.2) l hi
theorem St.CQ {A:Nat->Prop}{k:Nat}{es':List (Value × AV)}{entries':Array MapEntry}{clock clock':Nat}(b:St w0 A g S w) (c:S.get k=some (.mp es)) (d:g.al k) (f:w.heap[g.ob k]?=some (.map entries clock))
  (h:entries'.size=es'.length) (j:∀(i:Nat) (k:Value) (a:AV),es'[i]?=some (k,a)->∃e:MapEntry,entries'[i]?=some e/\e.key=k/\aN g w a e.val) :
  ∃w',(setObj (g.ob k) (.map entries' clock')).run P w=.ok () w'/\St w0 A g (S.set k (some (.mp es'))) w'/\Ext A g w g w':=by
 have u:=(b.cT k _ c d).2.1;have l:({ w with heap:=w.heap.setIfInBounds (g.ob k) (.map entries' clock') }:World).heap[g.ob k]?=some (.map entries' clock'):=by grind
 obtain⟨m,n⟩:=b.putObj (ob:=.mp es') c d (λJ=>⟨by simp,by simp⟩) (x':=.map entries' clock') rfl (λq=>by simp only[World.cell?,l,f]) (λo p=>⟨entries',clock',p,h,λi key a r=>by
  obtain⟨e,q1,s,t⟩:=j i key a r;exact⟨e,q1,s,t.later o⟩⟩)
 exact⟨_,by simp[setObj,Sem.run,f],n,m⟩
theorem TW (c:o.op=.makeMap t none):a8 P w0 n o α S (.mp S.nx) (S.new (.mp [])):=by
 intro A g q w d j;obtain⟨e,f⟩:=d.new (.map #[] 0) (.mp []) 0 (λJ=>by simp) (λl=>⟨#[],0,dZ,rfl,λi k a h=>by grind⟩);have b:=aN.mp (g:=g.new S.nx w.heap.size 0) (w:=w.alloc (.map #[] 0)) (k:=S.nx) (.inr rfl);rw[show (g.new S.nx w.heap.size 0).ob S.nx=w.heap.size from aJ _ _ _]at b;refine⟨_,_,_,.inl ?_,b,f,e⟩;simp[execOp,c,Instr.makeMap,newObj,Sem.run]
theorem RV (d:o.op=.makeMap t (some x)) (e:P.underlying t=some (.map kt et)) (f:α.ev x=.v (.int kk m)):a8 P w0 n o α S (.mp S.nx) (S.new (.mp [])):=by
 intro A g q w j l;have b:=l.ev x;rw[f]at b;have e0:=b_ b;obtain⟨p,r⟩:=j.new (.map #[] 0) (.mp []) 0 (λJ=>by simp) (λs=>⟨#[],0,dZ,rfl,λi k a h=>by grind⟩);have c:=aN.mp (g:=g.new S.nx w.heap.size 0) (w:=w.alloc (.map #[] 0)) (k:=S.nx) (.inr rfl);rw[show (g.new S.nx w.heap.size 0).ob S.nx=w.heap.size from aJ _ _ _]at c;refine⟨_,_,_,.inl ?_,c,r,p⟩;simp[execOp,d,Instr.makeMap,newObj,Sem.run,e0,run_underlying e,asInt,asIntOf]
theorem LD {y:Operand}{k:Nat}{b:AV}(J:o.op=.mapUpdate t x i y) (K:P.underlying t=some (.map kt et)) (l:P.underlying kt=some (.int kk))
  (T:α.ev x=.mp k) (r:S.get k=some (.mp es)) (L:oB es) (hi:α.ev i=.v (c_ m)) (U:α.ev y=b):a8 P w0 n o α S (.v undef) (S.set k (some (.mp (AJ es m b)))):=by
 intro A g q w s u;have M:=u.ev x;have N:=u.ev i;have z:=u.ev y;rw[T]at M;rw[hi]at N;rw[U]at z;obtain⟨O,B⟩:=sI M;have Q:=b_ N;obtain⟨v,C⟩:∃v,q.eval y=v:=⟨_,rfl⟩;rw[C]at z;obtain⟨_,_,entries,clock,p,V,R⟩:=s.cT k _ r B;have h:=CU V R L (kk:=kk) m;have hlen:entries.toList.length=entries.size:=bh_;unfold AJ;cases D:lW es m with
 |none =>
  rw[D]at h;obtain⟨E,q1,F,G⟩:=s.CQ (P:=P) r B p (entries':=entries.push { key:=c_ m,val:=v,born:=clock }) (clock':=clock+1) (es':=es++[(c_ m,b)]) (by grind) (λi key a hi=>by
   by_cases c:i < es.length
   ·grind
   ·rw[be_ (by omega)]at hi;have W:i=es.length:=by grind
    subst W;simp at hi;obtain⟨rfl,rfl⟩:=hi;exact⟨{ key:=c_ m,val:=v,born:=clock },by grind,rfl,z⟩)
  refine⟨undef,E,g,.inr ⟨?_,rfl⟩,.v,F,G⟩;simp only[execOp,J,O,Q,C,Instr.mapUpdate,Sem.run_bind,run_underlying K,Result.andThen_ok,gV p,run_checkKey l,run_findKey l h,q1,Sem.run_pure]
 |some j =>
  obtain⟨a,X⟩:=wG L D;obtain⟨e,I,Y,r3⟩:=R j _ a X;rw[D]at h;simp only[I,aE_]at h;have lX:j < entries.size:=(ce_.1 I).1;obtain⟨E,q1,F,G⟩:=s.CQ (P:=P) r B p (entries':=entries.modify j λe=>{ e with key:=c_ m,val:=v }) (clock':=clock) (es':=es.set j (c_ m,b)) (by grind) (λi key a' hi=>by grind);refine⟨undef,E,g,.inr ⟨?_,rfl⟩,.v,F,G⟩;have Z:(Instr.keyThatStays (((entries[j]?).map (·.key)).getD (c_ m)) (c_ m)).run P w=.ok (c_ m) w:=by
   rw[I];simp[Instr.keyThatStays,Y,Instr.sameBits,c_]
  simp only[execOp,J,O,Q,C,Instr.mapUpdate,Sem.run_bind,run_underlying K,Result.andThen_ok,gV p,run_checkKey l,run_findKey l h,Z,q1,Sem.run_pure]
end
inductive QO where
 |t (n:Nat)
 |c (a:AV)
def QO.ev (f:Nat->AV):QO->AV
 |.t n=>f n
 |.c a=>a
def qo:Operand->QO
 |.tmp t=>.t t
 |.const v=>.c (lift v)
 |.global g=>.c (.v (.pointer (some ⟨g,0,none⟩)))
 |.func f=>.c (.v (.func (.func f) #[] #[]))
theorem aW {α:AA}(x:Operand):(qo x).ev α.tm=α.ev x:=by cases x<;>rfl
inductive LK where
 |agg (n:Nat)
 |cell
inductive SK where
 |str
 |sl (n:Nat)
inductive BK where
 |b
 |s
 |o
 |f
 |p
inductive mz where
 |mv (x:QO)
 |pick (c a b:QO)
 |alloc (cs:List AV)
 |box (x:QO)
 |build (cs:List AV) (parts:List (Nat × Nat × QO))
 |rows (n:Nat) (rows:List (List AV)) (parts:List (Nat × QO))
 |load (k:LK) (x:QO)
 |store (n:Nat) (x b:QO)
 |bin (op:BinOp) (isB:BK) (x y:QO)
 |not (x:QO)
 |neg (x:QO)
 |conv (k:IntKind) (x:QO)
 |ZH (x:QO)
 |KR (off:Nat) (x:QO)
 |field (k:LK) (off:Nat) (x:QO)
 |x8 (n:Nat) (x i:QO)
 |GM (len n:Nat) (x i:QO)
 |RR (x i:QO)
 |wL (len n:Nat) (k:LK) (x i:QO)
 |slice (k:SK) (x:QO) (lo hi mx:Option QO)
 |extract (x:QO) (i:Nat)
 |pI (z:List AV) (by_:Nat) (l c:QO)
 |TO (x:QO)
 |Ea (x:QO)
 |RU (f:Fn) (first cap:List QO)
 |KS (x:QO)
 |call (f:QO) (args:List QO)
 |len (str:Bool) (x:QO)
 |append (sz by_:Nat) (a b:QO)
 |min (x y:QO)
 |max (x y:QO)
 |aov (x:QO)
 |kQ (x:Option QO)
 |look (z:AV) (c:Bool) (x i:QO)
 |oD (x i b:QO)
 |EO (x:QO)
 |LZ (t:Nat) (x:QO)
 |eqs (t:Nat) (x y:QO)
 |del (x i:QO)
 |copy (sz:Nat) (a b:QO)
 |ahq (z:List AV) (a:QO)
 |ahr (a:QO)
 |cap (a:QO)
 |Ya (z:List AV) (by_:Nat) (a m:QO)
 |lC (kt:Nat) (z:AV) (c:Bool) (x i:QO)
 |yq (kt:Nat) (x i b:QO)
 |FI (z:AV) (x i:QO)
 |FK (x i b:QO)
 |assert (t:Nat) (c:Bool) (x:QO)
def gU (T:Tables) (t:TypeId):Option TypeDesc :=
 match T.info? t with
 |some { desc:=.named _ u,.. }=>(T.info? u).map (·.desc)
 |some i=>some i.desc
 |none=>none
def agT (T:Tables) (t:TypeId):Option Bool :=
 match gU T t with
 |some (.struct _)|some (.array _ _)=>some true
 |some _=>some false
 |none=>none
def vW (T:Tables) (t:TypeId):Option Nat:=(T.info? t).map (·.size)
def byT (T:Tables) (t:TypeId):Option Nat:=(T.info? t).map (·.bytes)
def Fo (T:Tables) (t:TypeId):Option Value:=(T.info? t).bind (·.zero)
def OZ (T:Tables) (t:TypeId):Option TypeId:=match gU T t with|some (.slice e)=>some e|_=>none
def plT (T:Tables) (fs:Array Field) (i:Nat):Option (Nat × Nat) :=
 match fs[i]? with
 |some f=>match vW T f.type with|some n=>some (f.offset,n)|none=>none
 |none=>none
def O0 (T:Tables) (t:TypeId):Option LK:=match agT T t,vW T t with
 |some true,some n=>some (.agg n)
 |some false,_=>some .cell
 |_,_=>none
section
variable {P:Program}
theorem cF (t:TypeId):gU P.toTables t=P.underlying t:=rfl
theorem ahs (t:TypeId):agT P.toTables t=R9 P t:=rfl
theorem fX (t:TypeId):vW P.toTables t=ep P t:=rfl
theorem oa (t:TypeId):byT P.toTables t=ku P t:=rfl
theorem ky (t:TypeId):Fo P.toTables t=d_ P t:=rfl
theorem nc (t:TypeId):OZ P.toTables t=l9 P t:=rfl
theorem tq (fs:Array Field):plT P.toTables fs=Mb P fs:=rfl
end
def uI (k:LK) (row:List AV) (j:Nat):Option AV:=match k with
 |.agg n=>match Nat.ble (j+n) row.length with|true=>some (.agg (R_ row j n))|false=>none
 |.cell=>row[j]?
theorem CS {k:LK}(h:O0 P.toTables t=some k) (row:List AV) (j:Nat):pP P t row j=uI k row j:=by
 unfold O0 at h;simp only[ahs,fX]at h;unfold pP;split at h
 ·rename_i n a b;obtain rfl:=oJ_ h;rw[a,b];rfl
 ·rename_i a;obtain rfl:=oJ_ h;rw[a];rfl
 ·grind
def uT (k:LK) (S:af):AV->Option AV
 |.ip row=>uI k row 0
 |.pt b c i j=>match S.get b with
  |some (.arr a rows _ _)=>match Nat.beq c a with
   |true=>match rows[i]? with
    |some row=>uI k row j
    |none=>none
   |false=>none
  |_=>none
 |_=>none
theorem KJ {k:LK}(h:O0 P.toTables t=some k) (S:af) (a:AV):yh P S t a=uT k S a:=by
 unfold yh uT;simp only[CS h]
 rfl
def O1 (place:Nat->Option (Nat × Nat)):List (Nat × Operand)->Option (List (Nat × Nat × QO))
 |[]=>some []
 |(i,x)::rest=>match place i with
  |some (off,size)=>match O1 place rest with
   |some l=>some ((off,size,qo x)::l)
   |none=>none
  |none=>none
def Lg (f:Nat->AV):List AV->List (Nat × Nat × QO)->Option (List AV)
 |cells,[]=>some cells
 |cells,(off,size,x)::rest=>match Nat.beq (a7 (x.ev f)).length size && Nat.ble (off+size) cells.length && (a7 (x.ev f)).all dh with
  |true=>Lg f (qk cells off (a7 (x.ev f))) rest
  |false=>none
theorem Gy {α:AA}{place:Nat->Option (Nat × Nat)}:∀{l:List (Nat × Operand)}{a:List (Nat × Nat × QO)}{cells:List AV},O1 place l=some a ->
  AZ place cells (l.map λ(i,x)=>(i,α.ev x))=Lg α.tm cells a
 |[],a,cells,h=>by obtain rfl:=oJ_ h;rfl
 |(i,x)::rest,a,cells,h=>by
  simp only[O1]at h;split at h
  ·rename_i off size b;split at h
   ·rename_i l c;obtain rfl:=oJ_ h;simp only[aC_,AZ,b,Lg,aW];cases d:(Nat.beq (a7 (α.ev x)).length size && Nat.ble (off+size) cells.length && (a7 (α.ev x)).all dh) with
    |true=>simp only[];rw[Gy c]
    |false=>rfl
   ·grind
  ·grind
def res (T:Tables):Op->Option mz
 |.move x=>some (.mv (qo x))
 |.assign x=>some (.mv (qo x))
 |.pick c a b=>some (.pick (qo c) (qo a) (qo b))
 |.alloc e=>match Fo T e with
  |some z=>some (.alloc (z.cells.toList.map cK))
  |none=>none
 |.box _ x=>some (.box (qo x))
 |.build t parts=>match Fo T t with
  |some (.agg o)=>match gU T t with
   |some (.struct h)=>match h.toList.all λf=>(vW T f.type).isSome with
    |true=>match O1 (plT T h) parts.toList with
     |some l=>some (.build (o.toList.map cK) l)
     |none=>none
    |false=>none
   |some (.array _ e)=>match vW T e with
    |some n=>match O1 (λi=>some (i*n,n)) parts.toList with
     |some l=>some (.build (o.toList.map cK) l)
     |none=>none
    |none=>none
   |_=>none
  |_=>none
 |.buildSlice t len parts=>match OZ T t with
  |some e=>match Fo T e,vW T e with
   |some z,some n=>match Nat.ble (len*n) 16777216 && Nat.beq z.cells.size n && Nat.blt 0 n with
    |true=>some (.rows n (List.replicate len (z.cells.toList.map cK)) (parts.toList.map λ(i,x)=>(i,qo x)))
    |false=>none
   |_,_=>none
  |none=>none
 |.load t x=>match O0 T t with
  |some k=>some (.load k (qo x))
  |none=>none
 |.store t x b=>match vW T t with
  |some n=>some (.store n (qo x) (qo b))
  |none=>none
 |.binOp op t x y _=>match gU T t with
  |some .bool=>some (.bin op .b (qo x) (qo y))
  |some (.slice _)=>some (.bin op .s (qo x) (qo y))
  |some (.func ..)=>some (.bin op .f (qo x) (qo y))
  |some (.pointer _)=>some (.bin op .p (qo x) (qo y))
  |some (.struct _)=>match op with
   |.eql=>some (.eqs t (qo x) (qo y))
   |_=>none
  |_=>some (.bin op .o (qo x) (qo y))
 |.unOp op _ x=>match op with
  |.not=>some (.not (qo x))
  |.neg=>some (.neg (qo x))
  |_=>none
 |.convert src m x=>match gU T src,gU T m with
  |some (.int _),some (.int k)=>some (.conv k (qo x))
  |some .string,some .string=>some (.ZH (qo x))
  |some (.slice e),some .string=>match gU T e with
   |some (.int .u8)=>some (.aov (qo x))
   |_=>none
  |_,_=>none
 |.fieldAddr s x f=>match gU T s with
  |some (.struct h)=>match h[f]? with
   |some j=>match vW T j.type with
    |some (_+1)=>some (.KR j.offset (qo x))
    |_=>none
   |none=>none
  |_=>none
 |.field t x f=>match gU T t with
  |some (.struct h)=>match h[f]? with
   |some j=>match O0 T j.type with
    |some k=>some (.field k j.offset (qo x))
    |none=>none
   |none=>none
  |_=>none
 |.indexAddr t x i=>match gU T t with
  |some (.slice e)=>match vW T e with
   |some n=>some (.x8 n (qo x) (qo i))
   |none=>none
  |some (.array len e)=>match vW T e with
   |some n=>some (.GM len n (qo x) (qo i))
   |none=>none
  |_=>none
 |.index t x i=>match gU T t with
  |some .string=>some (.RR (qo x) (qo i))
  |some (.array len e)=>match vW T e,O0 T e with
   |some n,some k=>some (.wL len n k (qo x) (qo i))
   |_,_=>none
  |_=>none
 |.slice t x p q u=>match gU T t with
  |some .string=>some (.slice .str (qo x) (p.map qo) (q.map qo) (u.map qo))
  |some (.slice e)=>match vW T e with
   |some n=>some (.slice (.sl n) (qo x) (p.map qo) (q.map qo) (u.map qo))
   |none=>none
  |_=>none
 |.extract x i=>some (.extract (qo x) i)
 |.makeSlice t l c=>match OZ T t with
  |some e=>match Fo T e,vW T e,byT T e with
   |some z,some g,some d=>match Nat.beq z.cells.size g && Nat.blt 0 g with
    |true=>some (.pI (z.cells.toList.map cK) d (qo l) (qo c))
    |false=>none
   |_,_,_=>none
  |none=>none
 |.range t x=>match gU T t with
  |some .string=>some (.TO (qo x))
  |_=>none
 |.next x isStr=>match isStr with
  |true=>some (.Ea (qo x))
  |false=>none
 |.makeFunc f first cap=>some (.RU f (first.toList.map qo) (cap.toList.map qo))
 |.nilCheck x=>some (.KS (qo x))
 |.call c=>match c.callee with
  |.value f=>some (.call (qo f) (c.args.toList.map qo))
  |.builtin b=>match b,c.argTypes.toList,c.args.toList with
   |.len,[t],[x]=>match gU T t with
    |some (.slice _)=>some (.len false (qo x))
    |some .string=>some (.len true (qo x))
    |_=>none
   |.append,[t,t2],[a,b]=>match OZ T t,OZ T t2 with
    |some e,some _=>match Fo T e,vW T e,byT T e with
     |some z,some g,some d=>match Nat.beq z.cells.size g && Nat.blt 0 d with
      |true=>some (.append g d (qo a) (qo b))
      |false=>none
     |_,_,_=>none
    |some e,none=>match gU T t2 with
     |some (.int _)=>match Fo T e,vW T e,byT T e with
      |some z,some g,some d=>match Nat.beq z.cells.size g && Nat.blt 0 d with
       |true=>some (.Ya (z.cells.toList.map cK) d (qo a) (qo b))
       |false=>none
      |_,_,_=>none
     |_=>none
    |none,_=>none
   |.delete,[t,_],[x,i]=>match gU T t with
    |some (.map kt _)=>match gU T kt with
     |some (.int _)=>some (.del (qo x) (qo i))
     |_=>none
    |_=>none
   |.copy,[t,t2],[a,b]=>match OZ T t,OZ T t2 with
    |some e,some _=>match vW T e with
     |some g=>some (.copy g (qo a) (qo b))
     |none=>none
    |_,_=>none
   |.clear,[t],[a]=>match gU T t with
    |some (.slice e)=>match Fo T e with
     |some z=>some (.ahq (z.cells.toList.map cK) (qo a))
     |none=>none
    |some (.map _ _)=>some (.ahr (qo a))
    |_=>none
   |.cap,[t],[a]=>match gU T t with
    |some (.slice _)=>some (.cap (qo a))
    |_=>none
   |.min,_,[x,y]=>some (.min (qo x) (qo y))
   |.max,_,[x,y]=>some (.max (qo x) (qo y))
   |_,_,_=>none
  |.invoke _ _=>none
 |.makeMap t r=>match gU T t with
  |some (.map _ _)=>some (.kQ (r.map qo))
  |_=>none
 |.lookup t x i c=>match gU T t with
  |some (.map kt et)=>match gU T kt,Fo T et with
   |some (.int _),some z=>some (.look (lift z) c (qo x) (qo i))
   |some (.struct _),some z=>some (.lC kt (lift z) c (qo x) (qo i))
   |some .string,some z=>some (.lC kt (lift z) c (qo x) (qo i))
   |_,_=>none
  |_=>none
 |.mapUpdate t x i y=>match gU T t with
  |some (.map kt _)=>match gU T kt with
   |some (.int _)=>some (.oD (qo x) (qo i) (qo y))
   |some (.struct _)=>some (.yq kt (qo x) (qo i) (qo y))
   |some .string=>some (.yq kt (qo x) (qo i) (qo y))
   |_=>none
  |_=>none
 |.mapEntry t x i=>match gU T t with
  |some (.map kt et)=>match gU T kt,Fo T et with
   |some (.int _),some z=>some (.FI (lift z) (qo x) (qo i))
   |_,_=>none
  |_=>none
 |.entryStore t x i y=>match gU T t with
  |some (.map kt _)=>match gU T kt with
   |some (.int _)=>some (.FK (qo x) (qo i) (qo y))
   |_=>none
  |_=>none
 |.typeAssert x _ t c=>match gU T t with
  |some (.interface _)=>none
  |some _=>some (.assert t c (qo x))
  |none=>none
 |.panic x=>some (.EO (qo x))
 |.makeInterface t x=>some (.LZ t (qo x))
 |_=>none
def mS (q:mz) (f:Nat->AV) (S:af):Option (AV × af) :=
 match q with
 |.mv x=>some (x.ev f,S)
 |.pick c a b=>match c.ev f with
  |.v (.bool true)=>some (a.ev f,S)
  |.v (.bool false)=>some (b.ev f,S)
  |_=>none
 |.alloc h=>Ji S h
 |.box x=>match (a7 (x.ev f)).all dh with
  |true=>Ji S (a7 (x.ev f))
  |false=>none
 |.build h parts=>match Lg f h parts with
  |some l=>some (.agg l,S)
  |none=>none
 |.rows n rows parts=>match v8 n rows (parts.map λ(i,x)=>(i,x.ev f)) with
  |some rows=>some (.sl true rows,S)
  |none=>none
 |.load k x=>match uT k S (x.ev f) with
  |some a=>some (a,S)
  |none=>none
 |.store n x b=>match b.ev f,x.ev f with
  |e,.pt k d 0 j=>match S.get k with
   |some (.arr m [row] 0 ex)=>match Nat.beq d m && (a7 e).all dh && Nat.beq n (a7 e).length with
    |true=>match Nat.ble (j+(a7 e).length) row.length with
     |true=>match S with|⟨g,x⟩=>some (.v undef,⟨bE g k (some (.arr d [qk row j (a7 e)] 0 ex)),x⟩)
     |false=>none
    |false=>none
   |_=>none
  |_,_=>none
 |.not x=>match x.ev f with
  |.v (.bool true)=>some (.v (.bool false),S)
  |.v (.bool false)=>some (.v (.bool true),S)
  |_=>none
 |.KR off x=>match x.ev f with
  |.ip row=>some (.ip (row.drop off),S)
  |.pt k d i j=>some (.pt k d i (j+off),S)
  |_=>none
 |.field k off x=>match x.ev f with
  |.agg l=>match uI k l off with
   |some a=>some (a,S)
   |none=>none
  |_=>none
 |.extract x i=>match x.ev f with
  |.aL l=>match l[i]? with
   |some a=>some (a,S)
   |none=>none
  |_=>none
 |.RU g first cap=>some (.fn g (first.map (·.ev f)) (cap.map (·.ev f)),S)
 |.KS x=>match x.ev f with
  |.ip c=>some (.ip c,S)
  |.pt k d i j=>some (.pt k d i j,S)
  |_=>none
 |_=>none
def Zl (op:BinOp) (isB:BK):AV->AV->Option Bool
 |.v (.int k a),.v (.int c b)=>match decide (k=c) with
  |true=>match op with
   |.eql=>some (a == b)
   |.neq=>some (a != b)
   |.lss=>some (decide (a < b))
   |.leq=>some (decide (a<=b))
   |.gtr=>some (decide (a > b))
   |.geq=>some (decide (a>=b))
   |_=>none
  |false=>none
 |.v (.string a),.v (.string b)=>match op with
  |.eql=>some (a.toList == b.toList)
  |.neq=>some (!(a.toList == b.toList))
  |.lss=>some (Op.bytesLess a.toList b.toList)
  |.leq=>some (Op.bytesLess a.toList b.toList || a.toList == b.toList)
  |.gtr=>some (!(Op.bytesLess a.toList b.toList || a.toList == b.toList))
  |.geq=>some (!Op.bytesLess a.toList b.toList)
  |_=>none
 |.v (.bool a),.v (.bool b)=>match isB,op with
  |.b,.eql=>some (a == b)
  |.b,.neq=>some (!(a == b))
  |_,_=>none
 |_,_=>none
section
variable {P:Program}{w0:World}{n:Nat}{o:Op}{α:AA}{S S':af}{r:AV}{q:mz}{K:AV->af->Prop}
theorem vg (d:res P.toTables o=some q) (h:mS q α.tm S=some (r,S')):bu P w0 o α S (wJ r S'):=by
 have e:∀{a:AV}{T:af},some (a,T)=some (r,S')->a=r/\T=S':=λh=>by grind
 have E:∀{q:AV × af},some q=some (r,S')->q.1=r/\q.2=S':=λh=>by grind
 have key:∀{T:Program->Op->AA->af->Option (AV × af)},vV P o α S=some (r,S')->bu P w0 o α S (wJ r S'):=λh=>Wv h;cases o with
 |move x=>obtain rfl:=oJ_ d;rw[mS,aW]at h;exact e h
 |assign x=>obtain rfl:=oJ_ d;rw[mS,aW]at h;exact e h
 |pick c a b =>
  obtain rfl:=oJ_ d;simp only[mS,aW]at h;simp only[bu];split at h
  ·rename_i u;rw[u];exact e h
  ·rename_i u;rw[u];exact e h
  ·grind
 |alloc t =>
  simp only[res,cF,fX,oa,ky,nc,tq]at d;split at d
  ·rename_i z n;obtain rfl:=oJ_ d;simp only[mS]at h;simp only[bu,n];rw[AD]at h;exact E h
  ·grind
 |box t x =>
  obtain rfl:=oJ_ d;simp only[mS,aW]at h;simp only[bu];split at h
  ·rename_i g;rw[g];rw[AD]at h;exact E h
  ·grind
 |build t parts =>
  simp only[res,cF,fX,oa,ky,nc,tq]at d;split at d
  ·rename_i M n;split at d
   ·rename_i F v;split at d
    ·rename_i G;split at d
     ·rename_i l A;obtain rfl:=oJ_ d;simp only[mS]at h;simp only[bu,w5,n,v,G,Gy A];split at h
      ·rename_i H B;simp only[B,aE_];exact e h
      ·grind
     ·grind
    ·grind
   ·rename_i le el v;split at d
    ·rename_i m p;split at d
     ·rename_i l A;obtain rfl:=oJ_ d;simp only[mS]at h;simp only[bu,w5,n,v,p,Gy A];split at h
      ·rename_i H B;simp only[B,aE_];exact e h
      ·grind
     ·grind
    ·grind
   ·grind
  ·grind
 |buildSlice t len parts =>
  simp only[res,cF,fX,oa,ky,nc,tq]at d;split at d
  ·rename_i el I;split at d
   ·rename_i z m n w;split at d
    ·rename_i J;obtain rfl:=oJ_ d;have p:(parts.toList.map λ(i,x)=>(i,qo x)).map (λ(i,x)=>(i,QO.ev α.tm x))=parts.toList.map λ(i,x)=>(i,α.ev x):=by
      rw[bl_];apply aF_;rintro⟨i,x⟩ _;simp[aW]
     simp only[mS]at h;rw[p]at h;simp only[bu,I,n,w,J];split at h
     ·rename_i rows K;simp only[K];exact e h
     ·grind
    ·grind
   ·grind
  ·grind
 |load t x =>
  simp only[res,cF,fX,oa,ky,nc,tq]at d;split at d
  ·rename_i k C;obtain rfl:=oJ_ d;simp only[mS,aW]at h;simp only[bu];split at h
   ·rename_i z n;rw[<-KJ C]at n;exact bC.mk n (e h)
   ·grind
  ·grind
 |store t x b =>
  simp only[res,cF,fX,oa,ky,nc,tq]at d;split at d
  ·rename_i m p;obtain rfl:=oJ_ d;simp only[mS,aW]at h;have w:D5 P S t (α.ev b) (α.ev x)=some S'/\AV.v undef=r:=by grind[D5,vf]
   simp only[bu];exact bC.mk (D6 w.1) ⟨w.2,rfl⟩
  ·grind
 |unOp op t x =>
  simp only[res,cF,fX,oa,ky,nc,tq]at d;split at d
  ·obtain rfl:=oJ_ d;simp only[mS,aW]at h;simp only[bu];split at h
   ·rename_i u;rw[u];exact e h
   ·rename_i u;rw[u];exact e h
   ·grind
  ·obtain rfl:=oJ_ d;cases h
  ·grind
 |fieldAddr s x f =>
  simp only[res,cF,fX,oa,ky,nc,tq]at d;split at d
  ·rename_i F v;split at d
   ·rename_i L D;split at d
    ·rename_i m p;obtain rfl:=oJ_ d;simp only[mS,aW]at h;simp only[bu,v,D,p];split at h
     ·rename_i row g;simp only[g];exact e h
     ·rename_i k N i j g;simp only[g];exact e h
     ·grind
    ·grind
   ·grind
  ·grind
 |field t x f =>
  simp only[res,cF,fX,oa,ky,nc,tq]at d;split at d
  ·rename_i F v;split at d
   ·rename_i L D;split at d
    ·rename_i k C;obtain rfl:=oJ_ d;simp only[mS,aW]at h;simp only[bu,v,D];split at h
     ·rename_i l g;simp only[g];split at h
      ·rename_i a y;rw[<-CS C]at y;exact bC.mk y (e h)
      ·grind
     ·grind
    ·grind
   ·grind
  ·grind
 |extract x i =>
  obtain rfl:=oJ_ d;simp only[mS,aW]at h;simp only[bu];split at h
  ·rename_i l g;split at h
   ·rename_i a y;simp only[g,y];exact e h
   ·grind
  ·grind
 |makeFunc f first cap =>
  obtain rfl:=oJ_ d;simp only[mS,bl_]at h;have p:∀l:List Operand,l.map ((·.ev α.tm) ∘ qo)=l.map α.ev:=λl=>aF_ λx _=>aW x;rw[p,p]at h;exact e h
 |nilCheck x =>
  obtain rfl:=oJ_ d;simp only[mS,aW]at h;simp only[bu];split at h
  ·rename_i c g;rw[g];exact e h
  ·rename_i c g;rw[g];exact e h
  ·grind
 |_ =>
  simp only[res,cF,fX,oa,ky,nc,tq]at d
  repeat' split at d
  all_goals first|(obtain rfl:=oJ_ d;cases h)|cases d
end
end Go.Proofs.YtbpabjmnhggajaaGreat
