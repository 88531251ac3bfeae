import Derived.Below
import Derived.CallsIn
import Derived.Laws.Cells
import Derived.Laws.NewBlocks
import Derived.Laws.Rows
import Derived.Laws.Tables
import Derived.Laws.World
import Derived.RangeFuncCalls
import Derived.RangeFuncIn
namespace Go.Proofs.YtgjfgekaclobaaaGreat
set_option linter.unusedVariables false
set_option linter.unusedSimpArgs false
open Go.RowKit
theorem oJ_{α:Type _}{a b:α}(h:some a=some b):a=b:=Option.some.inj h
theorem oI_{α:Type _}(a b:α):(some a=some b)=(a=b):=Option.some.injEq a b
theorem pI_{α:Type _}{β:Type _}(a:α)(b:β)(c:α)(d:β):((a,b)=(c,d))=(a=c∧b=d):=Prod.mk.injEq a b c d
inductive AV where
 |u
 |v (x:Value)
 |agg (cs:List AV)
 |aE (cs:List AV)
 |sl (ex:Bool) (rows:List (List AV))
 |ip (cs:List AV)
 |ob (k sz off len:Nat) (cx:Option Nat)
 |pt (k sz i j:Nat)
 |mp (k:Nat)
 |fn (f:Fn) (first cap:List AV)
 |yl (k:Nat)
 |gr (k sz len:Nat)
inductive Ob where
 |arr (sz:Nat) (rows:List (List AV)) (fz:Nat) (ex:Bool)
 |mp (es:List (Value × AV))
 |mb (es:List (Value × AV))
 |lp (st:LoopState) (lU:Option Code) (tm:Nat->AV) (ps:Array Tmp) (assign body:Code)
 |df
 |si (s:ByteArray) (pos:Nat)
 |fo (J:Nat->(Nat->Nat->Prop)->(Nat->Prop)->World->Prop)
 |un
structure ad where
 get:Nat->Option Ob
 nx:Nat
def a8 {α:Type}(f:Nat->α) (d:Nat) (a:α):Nat->α:=fun t=>match Nat.beq t d with|true=>a|false=>f t
theorem aq {α:Type}(f:Nat->α) (d:Nat) (a:α):a8 f d a d=a:=by simp only [a8,Nat.beq_refl]
theorem aC {α:Type}(f:Nat->α) {d t:Nat}(a:α) (h:t ≠ d):a8 f d a t=f t:=by
 have e:Nat.beq t d=false:=by
  cases hb:Nat.beq t d with
  |false=>rfl
  |true=>exact absurd (Nat.eq_of_beq_eq_true hb) h
 simp only [a8,e]
def ad.set (S:ad) (k:Nat) (o:Option Ob):ad:=⟨a8 S.get k o,S.nx⟩
def ad.none_:ad:=⟨fun _=>none,0⟩
structure Gh where
 ob:Nat->Nat
 cp:Nat->Nat
 al:Nat->Prop
 fz:Nat->Nat->Prop
 fo:Nat->Nat->Prop
inductive aH (g:Gh) (w:World):AV->Value->Prop where
 |u {x:Value}:aH g w .u x
 |v {x:Value}:aH g w (.v x) x
 |agg {l:List AV}{cs:Array Value}(hs:cs.size=l.length) (h:∀ (i:Nat) (a:AV) (x:Value),l[i]?=some a->cs[i]?=some x->aH g w a x):aH g w (.agg l) (.agg cs)
 |aE {l:List AV}{cs:Array Value}(hs:cs.size=l.length) (h:∀ (i:Nat) (a:AV) (x:Value),l[i]?=some a->cs[i]?=some x->aH g w a x):aH g w (.aE l) (.tuple cs)
 |nil {ex:Bool}{A:Option Addr}{c:Nat}(hc:ex=true->c=0):aH g w (.sl ex []) (.slice A 0 c)
 |sl {ex:Bool}{rows:List (List AV)}{b o sz c:Nat}{val:Nat->Nat->Value}(hn:rows ≠ []) (hc:ex=true->c=rows.length) (hle:rows.length<=c)
   (hl:∀ (i:Nat) (row:List AV),rows[i]?=some row->row.length=sz)
   (h:∀ (i j:Nat) (row:List AV) (a:AV),rows[i]?=some row->row[j]?=some a->g.fz b (o+(i*sz+j))/\w.cell? ⟨b,o+(i*sz+j),none⟩=some (val i j))
   (hr:∀ (i j:Nat) (row:List AV) (a:AV),rows[i]?=some row->row[j]?=some a->aH g w a (val i j)):aH g w (.sl ex rows) (.slice (some ⟨b,o,none⟩) rows.length c)
 |ip {cs:List AV}{b o:Nat}{val:Nat->Value}(h:∀ (j:Nat) (a:AV),cs[j]?=some a->g.fz b (o+j)/\w.cell? ⟨b,o+j,none⟩=some (val j))
   (hr:∀ (j:Nat) (a:AV),cs[j]?=some a->aH g w a (val j)):aH g w (.ip cs) (.pointer (some ⟨b,o,none⟩))
 |ob {k sz off len c:Nat}{cx:Option Nat}(hk:g.al k) (hc:∀ n,cx=some n->c=n) (hp:off+c<=g.cp k) (hx:cx=none->off+c=g.cp k) (hle:len<=c):aH g w (.ob k sz off len cx) (.slice (some ⟨g.ob k,off*sz,none⟩) len c)
 |pt {k sz i j:Nat}(hk:g.al k):aH g w (.pt k sz i j) (.pointer (some ⟨g.ob k,i*sz+j,none⟩))
 |mp {k:Nat}(hk:g.al k):aH g w (.mp k) (.map (some (g.ob k)))
 |fn {f:Fn}{l m:List AV}{cs ds:Array Value}(h1:cs.size=l.length) (h2:ds.size=m.length) (h3:∀ (i:Nat) (a:AV) (x:Value),l[i]?=some a->cs[i]?=some x->aH g w a x)
   (h4:∀ (i:Nat) (a:AV) (x:Value),m[i]?=some a->ds[i]?=some x->aH g w a x):aH g w (.fn f l m) (.func f cs ds)
 |yl {k:Nat}(hk:g.al k):aH g w (.yl k) (.func (.yield (g.ob k)) #[] #[])
 |ja {k sz:Nat}{A:Option Addr}:aH g w (.gr k sz 0) (.slice A 0 0)
 |gr {k sz len c:Nat}(hk:g.al k) (hx:c=g.cp k) (hle:len<=c):aH g w (.gr k sz len) (.slice (some ⟨g.ob k,0,none⟩) len c)
structure Later (g:Gh) (w:World) (g':Gh) (w':World):Prop where
 al:∀ k,g.al k->g'.al k
 ob:∀ k,g.al k->g'.ob k=g.ob k
 cp:∀ k,g.al k->g'.cp k=g.cp k
 fz:∀ b o,g.fz b o->g'.fz b o
 cell:∀ b o,g.fz b o->w'.cell? ⟨b,o,none⟩=w.cell? ⟨b,o,none⟩
theorem aH.later {g g':Gh}{w w':World}(hL:Later g w g' w') {a:AV}{x:Value}(h:aH g w a x):aH g' w' a x:=by
 induction h with
 |u=>exact .u
 |v=>exact .v
 |agg hs h ih=>exact .agg hs ih
 |aE hs h ih=>exact .aE hs ih
 |nil hc=>exact .nil hc
 |sl hn hc hle hl h hr ih =>
  exact .sl hn hc hle hl (fun i j row a h1 h2=>⟨hL.fz _ _ (h i j row a h1 h2).1,(hL.cell _ _ (h i j row a h1 h2).1).trans (h i j row a h1 h2).2⟩) ih
 |ip h hr ih=>exact .ip (fun j a h1=>⟨hL.fz _ _ (h j a h1).1,(hL.cell _ _ (h j a h1).1).trans (h j a h1).2⟩) ih
 |ob hk hc hp hx hle=>rw [<-hL.ob _ hk];exact .ob (hL.al _ hk) hc (by rw [hL.cp _ hk];exact hp) (by rw [hL.cp _ hk];exact hx) hle
 |pt hk=>rw [<-hL.ob _ hk];exact .pt (hL.al _ hk)
 |mp hk=>rw [<-hL.ob _ hk];exact .mp (hL.al _ hk)
 |fn h1 h2 h3 h4 NT NU=>exact .fn h1 h2 NT NU
 |yl hk=>rw [<-hL.ob _ hk];exact .yl (hL.al _ hk)
 |ja=>exact .ja
 |gr hk hx hle=>rw [<-hL.ob _ hk];exact .gr (hL.al _ hk) (by rw [hL.cp _ hk];exact hx) hle
theorem Later.refl (g:Gh) (w:World):Later g w g w:=⟨fun _ h=>h,fun _ _=>rfl,fun _ _=>rfl,fun _ _ h=>h,fun _ _ _=>rfl⟩
theorem Later.trans {g1 g2 g3:Gh}{w1 w2 w3:World}(h:Later g1 w1 g2 w2) (k:Later g2 w2 g3 w3):Later g1 w1 g3 w3 :=
 ⟨fun j hj=>k.al j (h.al j hj),fun j hj=>(k.ob j (h.al j hj)).trans (h.ob j hj),fun j hj=>(k.cp j (h.al j hj)).trans (h.cp j hj),fun b o hf=>k.fz b o (h.fz b o hf),fun b o hf=>(k.cell b o (h.fz b o hf)).trans (h.cell b o hf)⟩
inductive Pure:AV->Prop where
 |v {x:Value}:Pure (.v x)
 |agg {l:List AV}(h:∀ a ∈ l,Pure a):Pure (.agg l)
 |aE {l:List AV}(h:∀ a ∈ l,Pure a):Pure (.aE l)
 |sl {ex:Bool}{rows:List (List AV)}(h:∀ row ∈ rows,∀ a ∈ row,Pure a):Pure (.sl ex rows)
 |ip {cs:List AV}(h:∀ a ∈ cs,Pure a):Pure (.ip cs)
 |fn {f:Fn}{l m:List AV}(h3:∀ a ∈ l,Pure a) (h4:∀ a ∈ m,Pure a):Pure (.fn f l m)
theorem aH.pure {g g':Gh}{w w':World}(hf:∀ b o,g.fz b o->g'.fz b o) (hc:∀ b o,g.fz b o->w'.cell? ⟨b,o,none⟩=w.cell? ⟨b,o,none⟩) {a:AV}{x:Value}(h:aH g w a x) (hp:Pure a) :
  aH g' w' a x:=by
 induction h with
 |u=>cases hp
 |v=>exact .v
 |agg hs h ih=>cases hp with|agg hp=>exact .agg hs fun i a x h1 h2=>ih i a x h1 h2 (hp _ (List.mem_of_getElem? h1))
 |aE hs h ih=>cases hp with|aE hp=>exact .aE hs fun i a x h1 h2=>ih i a x h1 h2 (hp _ (List.mem_of_getElem? h1))
 |nil hc=>exact .nil hc
 |sl hn oc hle hl h hr ih =>
  cases hp with
  |sl hp =>
   exact .sl hn oc hle hl (fun i j row a h1 h2=>⟨hf _ _ (h i j row a h1 h2).1,(hc _ _ (h i j row a h1 h2).1).trans (h i j row a h1 h2).2⟩)
    (fun i j row a h1 h2=>ih i j row a h1 h2 (hp _ (List.mem_of_getElem? h1) _ (List.mem_of_getElem? h2)))
 |ip h hr ih =>
  cases hp with
  |ip hp=>exact .ip (fun j a h1=>⟨hf _ _ (h j a h1).1,(hc _ _ (h j a h1).1).trans (h j a h1).2⟩) (fun j a h1=>ih j a h1 (hp _ (List.mem_of_getElem? h1)))
 |ob=>cases hp
 |pt=>cases hp
 |mp=>cases hp
 |yl=>cases hp
 |ja=>cases hp
 |gr=>cases hp
 |fn h1 h2 h3 h4 NT NU =>
  cases hp with
  |fn hp hq=>exact .fn h1 h2 (fun i a x h1 h2=>NT i a x h1 h2 (hp _ (List.mem_of_getElem? h1))) (fun i a x h1 h2=>NU i a x h1 h2 (hq _ (List.mem_of_getElem? h1)))
def JF (J:Nat->(Nat->Nat->Prop)->(Nat->Prop)->World->Prop):Prop :=
 ∀ (b:Nat) (Z Z':Nat->Nat->Prop) (B:Nat->Prop) (w w':World),J b Z B w->(∀ c q,Z c q->Z' c q)->(∀ c q,B c->Z' c q->Z c q)->(∀ c,B c->w'.heap[c]?=w.heap[c]?)->(∀ c q,Z c q->w'.cell? ⟨c,q,none⟩=w.cell? ⟨c,q,none⟩)->w.heap.size<=w'.heap.size->J b Z' B w'
def FoK (g:Gh) (w:World) (g':Gh) (w':World) (b:Nat):Prop:=g'.fo b=g.fo b/\w.heap.size<=w'.heap.size/\(∀ c,g.fo b c->w'.heap[c]?=w.heap[c]?)/\∀ c q,g.fo b c->g'.fz c q->g.fz c q
def iP (g:Gh) (w:World) (l:List AV) (cs:Array Value):Prop:=cs.size=l.length/\∀ (i:Nat) (a:AV) (x:Value),l[i]?=some a->cs[i]?=some x->aH g w a x
def dA (g:Gh) (w:World) (b cp:Nat):Ob->Prop
 |.arr sz rows fz ex=>∃ (cs:Array Value) (ty:TypeId),w.heap[b]?=some (.cells cs ty (0,0))/\cs.size=cp*sz/\rows.length<=cp/\(ex=true->cp=rows.length) /\
   (∀ (i:Nat) (row:List AV),rows[i]?=some row->row.length=sz/\∀ (j:Nat) (a:AV),row[j]?=some a->∃ x,cs[i*sz+j]?=some x/\aH g w a x)/\fz<=rows.length/\∀ q,g.fz b q ↔ q < fz*sz
 |.mp es=>∃ (entries:Array MapEntry) (clock:Nat),w.heap[b]?=some (.map entries clock)/\entries.size=es.length/\(∀ (i:Nat) (k:Value) (a:AV),es[i]?=some (k,a)->∃ e:MapEntry,entries[i]?=some e/\e.key=k/\aH g w a e.val)
 |.mb es=>∃ entries:Array MapEntry,w.heap[b]?=some (.map entries entries.size)/\entries.size=es.length/\(∀ (i:Nat) (k:Value) (a:AV),es[i]?=some (k,a)->∃ e:MapEntry,entries[i]?=some e/\e.key=k/\aH g w a e.val)/\∀ (i:Nat) (e:MapEntry),entries[i]?=some e->e.born=i
 |.lp st lU tm ps assign body=>∃ L:Loop,w.heap[b]?=some (.loop L)/\L.state=st/\L.pending=lU/\L.params=ps/\L.assign=assign/\L.body=body /\
   (∀ t,t < L.tmps.size->aH g w (tm t) (L.tmps.getD t undef))/\(∀ t,L.tmps.size<=t->tm t=.u)
 |.df=>w.heap[b]?=some (.deferred (some []))
 |.si s pos=>w.heap[b]?=some (.stringIter s pos)
 |.fo J=>J b g.fz (g.fo b) w/\JF J
 |.un=>False
structure St (w0:World) (A:Nat->Prop) (g:Gh) (S:ad) (w:World):Prop where
 base:Below w0.heap.size w0 w
 up:∀ b,w.heap.size<=b->A b
 lo:∀ b,A b->w0.heap.size<=b
 al:∀ k,g.al k->k < S.nx
 bR:∀ k o,S.get k=some o->g.al k->A (g.ob k)/\g.ob k < w.heap.size/\dA g w (g.ob k) (g.cp k) o
 inj:∀ j k o p,S.get j=some o->S.get k=some p->g.al j->g.al k->g.ob j=g.ob k->j=k
 cC:∀ b o,g.fz b o->b < w.heap.size
 nS:∀ b o,b < w0.heap.size->g.fz b o
 ic:∀ k J,S.get k=some (.fo J)->g.al k->∀ c,g.fo (g.ob k) c->A c/\c < w.heap.size
 jW:∀ k J j o,S.get k=some (.fo J)->g.al k->S.get j=some o->g.al j->j ≠ k->¬ g.fo (g.ob k) (g.ob j)
 lV:∀ j k J J',S.get j=some (.fo J)->S.get k=some (.fo J')->g.al j->g.al k->j=k
structure Ext (A:Nat->Prop) (g:Gh) (w:World) (g':Gh) (w':World):Prop extends Later g w g' w' where
 size:w.heap.size<=w'.heap.size
 a7:∀ b,b < w.heap.size->¬ A b->w'.heap[b]?=w.heap[b]?
 gF:∀ b o,g'.fz b o->g.fz b o\/A b
theorem Ext.refl (A:Nat->Prop) (g:Gh) (w:World):Ext A g w g w:={ Later.refl g w with size:=Nat.le_refl _,a7:=fun _ _ _=>rfl,gF:=fun _ _ h=>.inl h }
theorem Ext.trans {A:Nat->Prop}{g1 g2 g3:Gh}{w1 w2 w3:World}(h:Ext A g1 w1 g2 w2) (k:Ext A g2 w2 g3 w3):Ext A g1 w1 g3 w3 :=
 { h.toLater.trans k.toLater with
   size:=Nat.le_trans h.size k.size
   a7:=fun b hb hA=>(k.a7 b (Nat.lt_of_lt_of_le hb h.size) hA).trans (h.a7 b hb hA)
   gF:=fun b o hf=>(k.gF b o hf).elim (fun h'=>h.gF b o h') .inr }
theorem dA.later {g g':Gh}{w w':World}{b cp:Nat}{o:Ob}(hL:Later g w g' w') (hb:w'.heap[b]?=w.heap[b]?) (hf:∀ q,g'.fz b q->g.fz b q) (hF:∀ J,o=.fo J->FoK g w g' w' b) (h:dA g w b cp o):dA g' w' b cp o:=by
 cases o with
 |arr sz rows fz ex =>
  obtain⟨cs,ty,h1,h2,h3,h4,h5,h6,h7⟩:=h
  refine⟨cs,ty,hb.trans h1,h2,h3,h4,fun i row hr=>⟨(h5 i row hr).1,fun j a ha=>?_⟩,h6,fun q=>⟨fun hq=>(h7 q).1 (hf q hq),fun hq=>hL.fz _ _ ((h7 q).2 hq)⟩⟩
  obtain⟨x,hx,dH⟩:=(h5 i row hr).2 j a ha
  exact⟨x,hx,dH.later hL⟩
 |mp es =>
  obtain⟨entries,clock,h1,h2,h3⟩:=h
  refine⟨entries,clock,hb.trans h1,h2,fun i k a ha=>?_⟩
  obtain⟨e,he,hk,hr⟩:=h3 i k a ha
  exact⟨e,he,hk,hr.later hL⟩
 |mb es =>
  obtain⟨entries,h1,h2,h3,h4⟩:=h
  refine⟨entries,hb.trans h1,h2,fun i k a ha=>?_,h4⟩
  obtain⟨e,he,hk,hr⟩:=h3 i k a ha
  exact⟨e,he,hk,hr.later hL⟩
 |lp st lU tm ps assign body =>
  obtain⟨L,h1,h2,h3,h4,h5,h6,h7,h8⟩:=h
  exact⟨L,hb.trans h1,h2,h3,h4,h5,h6,fun t ht=>(h7 t ht).later hL,h8⟩
 |df=>exact hb.trans h
 |si s pos=>exact hb.trans h
 |fo J =>
  obtain⟨h1,h2⟩:=h
  obtain⟨f1,f2,f3,f4⟩:=hF J rfl
  refine⟨?_,h2⟩
  rw [f1]
  exact h2 _ _ _ _ _ _ h1 hL.fz f4 f3 hL.cell f2
 |un=>exact h.elim
theorem St.next {w0:World}{A:Nat->Prop}{g g':Gh}{S S':ad}{w w':World}(hS:St w0 A g S w) (hE:Ext A g w g' w') (hos:w'.os=w.os) (ht:w'.tape=w.tape) (JG:w'.output=w.output) (al:∀ k,g'.al k->k < S'.nx)
  (bR:∀ k o,S'.get k=some o->g'.al k->A (g'.ob k)/\g'.ob k < w'.heap.size/\dA g' w' (g'.ob k) (g'.cp k) o) (inj:∀ j k o p,S'.get j=some o->S'.get k=some p->g'.al j->g'.al k->g'.ob j=g'.ob k->j=k)
  (cC:∀ b o,g'.fz b o->b < w'.heap.size) (zg:g'.fo=g.fo) (Ii:∀ k J,S'.get k=some (.fo J)->g'.al k->S.get k=some (.fo J)/\g.al k)
  (obl:∀ k o,S'.get k=some o->g'.al k->w.heap.size<=g'.ob k\/∃ k0 o0,g.al k0/\S.get k0=some o0/\g'.ob k=g.ob k0/\(k0=k\/∀ J,o0 ≠ .fo J)):St w0 A g' S' w' :=
 ⟨⟨hos.trans hS.base.os,ht.trans hS.base.tape,JG.trans hS.base.output,Nat.le_trans hS.base.size hE.size,fun k hk =>
   (hE.a7 k (Nat.lt_of_lt_of_le hk hS.base.size) (fun hA=>absurd (hS.lo k hA) (by omega))).trans (hS.base.block k hk)⟩,
  fun b hb=>hS.up b (Nat.le_trans hE.size hb),hS.lo,al,bR,inj,cC,fun b o hb=>hE.fz b o (hS.nS b o hb),
  fun k J hk ha c hc=>by
   obtain⟨h1,h2⟩:=Ii k J hk ha
   rw [zg,hE.ob k h2] at hc
   obtain⟨h3,h4⟩:=hS.ic k J h1 h2 c hc
   exact⟨h3,Nat.lt_of_lt_of_le h4 hE.size⟩,
  fun k J j o hk ha hj aj a_ hc=>by
   obtain⟨h1,h2⟩:=Ii k J hk ha
   rw [zg,hE.ob k h2] at hc
   rcases obl j o hj aj with h3|⟨k0,o0,h3,h4,h5,h6⟩
   ·exact absurd (hS.ic k J h1 h2 _ hc).2 (by omega)
   ·rw [h5] at hc
    refine hS.jW k J k0 o0 h1 h2 h4 h3 (fun e=>?_) hc
    rcases h6 with h6|h6
    ·exact a_ (h6.symm.trans e)
    ·subst e;rw [h1] at h4;exact h6 J (oJ_ h4).symm,
  fun j k J J' hj hk aj ak=>hS.lV j k J J' (Ii j J hj aj).1 (Ii k J' hk ak).1 (Ii j J hj aj).2 (Ii k J' hk ak).2⟩
theorem St.forget {w0:World}{A:Nat->Prop}{g:Gh}{S S':ad}{w:World}(hS:St w0 A g S w) (hn:S.nx<=S'.nx) (h:∀ k o,S'.get k=some o->g.al k->S.get k=some o):St w0 A g S' w :=
 ⟨hS.base,hS.up,hS.lo,fun k hk=>Nat.lt_of_lt_of_le (hS.al k hk) hn,fun k o hk ha=>hS.bR k o (h k o hk ha) ha,fun j k o p hj hk aj ak=>hS.inj j k o p (h j o hj aj) (h k p hk ak) aj ak,hS.cC,hS.nS,
  fun k J hk ha=>hS.ic k J (h k _ hk ha) ha,fun k J j o hk ha hj aj=>hS.jW k J j o (h k _ hk ha) ha (h j o hj aj) aj,fun j k J J' hj hk aj ak=>hS.lV j k J J' (h j _ hj aj) (h k _ hk ak) aj ak⟩
theorem St.E_ {w0:World}{A:Nat->Prop}{g:Gh}{S S':ad}{w:World}(hS:St w0 A g S w) (hn:S.nx<=S'.nx) (h:∀ k o',S'.get k=some o'->g.al k->∃ o,S.get k=some o/\(dA g w (g.ob k) (g.cp k) o->dA g w (g.ob k) (g.cp k) o')/\∀ J,o'=.fo J->o=.fo J):St w0 A g S' w :=
 ⟨hS.base,hS.up,hS.lo,fun k hk=>Nat.lt_of_lt_of_le (hS.al k hk) hn,fun k o hk ha=>let ⟨o0,h1,h2,_⟩:=h k o hk ha;let ⟨a1,a2,a3⟩:=hS.bR k o0 h1 ha;⟨a1,a2,h2 a3⟩,
  fun j k o p hj hk aj ak=>let ⟨_,h1,_⟩:=h j o hj aj;let ⟨_,h2,_⟩:=h k p hk ak;hS.inj j k _ _ h1 h2 aj ak,hS.cC,hS.nS,
  fun k J hk ha=>let ⟨_,h1,_,h2⟩:=h k _ hk ha;hS.ic k J (by rw [<-h2 J rfl];exact h1) ha,
  fun k J j o hk ha hj aj=>let ⟨_,h1,_,h2⟩:=h k _ hk ha;let ⟨_,h3,_⟩:=h j _ hj aj;hS.jW k J j _ (by rw [<-h2 J rfl];exact h1) ha h3 aj,
  fun j k J J' hj hk aj ak=>let ⟨_,h1,_,h2⟩:=h j _ hj aj;let ⟨_,h3,_,h4⟩:=h k _ hk ak;hS.lV j k J J' (by rw [<-h2 J rfl];exact h1) (by rw [<-h4 J' rfl];exact h3) aj ak⟩
theorem fG {w:World}{o:Obj}{b:Nat}(h:b < w.heap.size):(w.alloc o).heap[b]?=w.heap[b]?:=Below.heap_alloc w o b h
theorem c_ {w:World}{o:Obj}:(w.alloc o).heap[w.heap.size]?=some o:=by
 show (w.heap.push o)[w.heap.size]?=_
 simp
theorem size_alloc {w:World}{o:Obj}:(w.alloc o).heap.size=w.heap.size+1:=by
 show (w.heap.push o).size=_
 simp
def Gh.new (g:Gh) (k b cp:Nat):Gh:=⟨a8 g.ob k b,a8 g.cp k cp,fun j=>g.al j\/j=k,g.fz,g.fo⟩
theorem St.newAt {w0:World}{A:Nat->Prop}{g:Gh}{S:ad}{w:World}(hS:St w0 A g S w) (o:Obj) {k:Nat}(wi:¬ g.al k) (aA:k < S.nx) (cp:Nat)
  (tN:∀ J,S.get k ≠ some (.fo J)) (iI:∀ ob,S.get k=some ob->Later g w (g.new k w.heap.size cp) (w.alloc o)->dA (g.new k w.heap.size cp) (w.alloc o) w.heap.size cp ob) :
  Ext A g w (g.new k w.heap.size cp) (w.alloc o)/\St w0 A (g.new k w.heap.size cp) S (w.alloc o):=by
 have a_:∀ j,g.al j->j ≠ k:=fun j hj e=>wi (e ▸ hj)
 have jO:∀ j,g.al j->(g.new k w.heap.size cp).ob j=g.ob j:=fun j hj=>aC _ _ (a_ j hj)
 have Fb:∀ j,g.al j->(g.new k w.heap.size cp).cp j=g.cp j:=fun j hj=>aC _ _ (a_ j hj)
 have e1:(g.new k w.heap.size cp).ob k=w.heap.size:=aq _ _ _
 have e2:(g.new k w.heap.size cp).cp k=cp:=aq _ _ _
 have hL:Later g w (g.new k w.heap.size cp) (w.alloc o):=⟨fun j hj=>.inl hj,jO,Fb,fun _ _ h=>h,fun b q hf=>World.cell?_of_block (fG (hS.cC b q hf))⟩
 have hE:Ext A g w (g.new k w.heap.size cp) (w.alloc o):={ hL with size:=by rw [size_alloc];omega,a7:=fun b hb _=>fG hb,gF:=fun _ _ h=>.inl h }
 refine⟨hE,hS.next hE rfl rfl rfl (fun j hj=>hj.elim (hS.al j) fun e=>by omega) (fun j p hj ha=>?_) (fun i j p q hi hj ai aj e=>?_) (fun b q hf=>?_) rfl (fun j J hj ha=>?_) (fun j p hj ha=>?_)⟩
 ·rcases ha with ha|rfl
  ·obtain⟨h2,h3,h4⟩:=hS.bR j p hj ha
   rw [jO j ha,Fb j ha]
   exact⟨h2,by rw [size_alloc];omega,h4.later hL (fG h3) (fun _ h=>h) fun J hJ=>⟨rfl,by rw [size_alloc];omega,fun c hc=>fG (hS.ic j J (by rw [<-hJ];exact hj) ha c hc).2,fun _ _ _ h=>h⟩⟩
  ·rw [e1,e2]
   exact⟨hS.up _ (Nat.le_refl _),by rw [size_alloc];omega,iI p hj hL⟩
 ·rcases ai with ai|rfl<;>rcases aj with aj|rfl
  ·rw [jO i ai,jO j aj] at e
   exact hS.inj i j p q hi hj ai aj e
  ·have:=(hS.bR i p hi ai).2.1
   rw [jO i ai,e1] at e
   omega
  ·have:=(hS.bR j q hj aj).2.1
   rw [jO j aj,e1] at e
   omega
  ·rfl
 ·have:=hS.cC b q hf
  rw [size_alloc]
  omega
 ·rcases ha with ha|rfl
  ·exact⟨hj,ha⟩
  ·exact absurd hj (tN J)
 ·rcases ha with ha|rfl
  ·exact .inr ⟨j,p,ha,hj,jO j ha,.inl rfl⟩
  ·exact .inl (by rw [e1];exact Nat.le_refl _)
theorem St.new {w0:World}{A:Nat->Prop}{g:Gh}{S:ad}{w:World}(hS:St w0 A g S w) (o:Obj) (ob:Ob) (cp:Nat) (tN:∀ J,ob ≠ .fo J)
  (iI:Later g w (g.new S.nx w.heap.size cp) (w.alloc o)->dA (g.new S.nx w.heap.size cp) (w.alloc o) w.heap.size cp ob) :
  Ext A g w (g.new S.nx w.heap.size cp) (w.alloc o)/\St w0 A (g.new S.nx w.heap.size cp) ⟨a8 S.get S.nx (some ob),S.nx+1⟩ (w.alloc o):=by
 have wi:¬ g.al S.nx:=fun h=>absurd (hS.al _ h) (Nat.lt_irrefl _)
 have h1:St w0 A g ⟨a8 S.get S.nx (some ob),S.nx+1⟩ w:=hS.forget (Nat.le_succ _) fun k p hk ha=>by
  have hk:a8 S.get S.nx (some ob) k=some p:=hk
  have a_:k ≠ S.nx:=fun e=>wi (by rw [<-e];exact ha)
  rwa [aC _ _ a_] at hk
 exact h1.newAt o wi (Nat.lt_succ_self _) cp (fun J hJ=>by
  have hJ:a8 S.get S.nx (some ob) S.nx=some (.fo J):=hJ
  rw [aq] at hJ
  exact tN J (oJ_ hJ)) fun p hp hL=>by
  have hp:a8 S.get S.nx (some ob) S.nx=some p:=hp
  rw [aq] at hp
  obtain rfl:=oJ_ hp
  exact iI hL
def Gh.Dw (g:Gh) (b:Nat):Gh:=⟨g.ob,g.cp,g.al,fun c q=>g.fz c q\/c=b,g.fo⟩
theorem St.Dw {w0:World}{A:Nat->Prop}{g:Gh}{S:ad}{w:World}(hS:St w0 A g S w) (o:Obj) :
  Ext A g w (g.Dw w.heap.size) (w.alloc o)/\St w0 A (g.Dw w.heap.size) S (w.alloc o):=by
 have hL:Later g w (g.Dw w.heap.size) (w.alloc o):=⟨fun _ h=>h,fun _ _=>rfl,fun _ _=>rfl,fun _ _ h=>.inl h,fun b q hf=>World.cell?_of_block (fG (hS.cC b q hf))⟩
 have hE:Ext A g w (g.Dw w.heap.size) (w.alloc o):={ hL with size:=by rw [size_alloc];omega,a7:=fun b hb _=>fG hb,gF:=fun b _ h=>h.elim .inl fun e=>.inr (by rw [e];exact hS.up _ (Nat.le_refl _)) }
 refine⟨hE,hS.next hE rfl rfl rfl hS.al (fun k p hk ha=>?_) hS.inj (fun b q hf=>?_) rfl (fun _ _ h1 h2=>⟨h1,h2⟩) (fun k o h1 h2=>.inr ⟨k,o,h2,h1,rfl,.inl rfl⟩)⟩
 ·obtain⟨h2,h3,h4⟩:=hS.bR k p hk ha
  exact⟨h2,by rw [size_alloc];exact Nat.lt_succ_of_lt h3,h4.later hL (fG h3) (fun q hq=>hq.elim id fun e=>absurd e (Nat.ne_of_lt h3)) fun J hJ=>⟨rfl,by rw [size_alloc];omega,
   fun c hc=>fG (hS.ic k J (by rw [<-hJ];exact hk) ha c hc).2,fun c q hc hq=>hq.elim id fun e=>absurd e (Nat.ne_of_lt (hS.ic k J (by rw [<-hJ];exact hk) ha c hc).2)⟩⟩
 ·rw [size_alloc]
  rcases hf with hf|rfl
  ·exact Nat.lt_succ_of_lt (hS.cC b q hf)
  ·exact Nat.lt_succ_self _
theorem St.row {w0:World}{A:Nat->Prop}{g:Gh}{S:ad}{w:World}(hS:St w0 A g S w) {k:Nat}{o ob:Ob}(hk:S.get k=some o) (ha:g.al k) {cs cs':Array Value}{ty:TypeId}(hc:w.heap[g.ob k]?=some (.cells cs ty (0,0)))
  (tN:∀ J,o ≠ .fo J/\ob ≠ .fo J) (hz:∀ q,g.fz (g.ob k) q->cs'[q]?=cs[q]?) (iI:Later g w g (w.setRow (g.ob k) cs')->dA g (w.setRow (g.ob k) cs') (g.ob k) (g.cp k) ob) :
  Ext A g w g (w.setRow (g.ob k) cs')/\St w0 A g (S.set k (some ob)) (w.setRow (g.ob k) cs'):=by
 obtain⟨k2,k3,k4⟩:=hS.bR k o hk ha
 have bh:(w.setRow (g.ob k) cs').heap.size=w.heap.size:=by simp [World.setRow]
 have kI:∀ b q,g.fz b q->(w.setRow (g.ob k) cs').cell? ⟨b,q,none⟩=w.cell? ⟨b,q,none⟩:=by
  intro b q hf
  by_cases e:b=g.ob k
  ·subst e
   rw [cell_of_row _ _ q cs' ty (0,0) (setRow_heap w _ cs cs' ty (0,0) hc),cell_of_row _ _ q cs ty (0,0) hc]
   exact hz q hf
  ·exact World.cell?_of_block (setRow_other w _ b cs' e)
 have hL:Later g w g (w.setRow (g.ob k) cs'):=⟨fun _ h=>h,fun _ _=>rfl,fun _ _=>rfl,fun _ _ h=>h,kI⟩
 have hE:Ext A g w g (w.setRow (g.ob k) cs'):={ hL with size:=by rw [bh];exact Nat.le_refl _,a7:=fun b hb hA=>setRow_other w _ b cs' (fun e=>hA (by rw [e];exact k2)),gF:=fun _ _ h=>.inl h }
 have key:∀ l r,(S.set k (some ob)).get l=some r->∃ r',S.get l=some r':=by
  intro l r hl
  by_cases e:l=k
  ·exact⟨o,by rw [e];exact hk⟩
  ·have hl:a8 S.get k (some ob) l=some r:=hl
   rw [aC _ _ e] at hl
   exact⟨r,hl⟩
 refine⟨hE,hS.next hE rfl rfl rfl hS.al (fun j p hj aj=>?_) (fun i j p q hi hj ai aj e=>?_) (fun b q hf=>by rw [bh];exact hS.cC b q hf) rfl (fun j J hj aj=>?_) (fun j p hj aj=>.inr ⟨j,(key j p hj).choose,aj,(key j p hj).choose_spec,rfl,.inl rfl⟩)⟩
 ·by_cases e:j=k
  ·subst e
   have hj:a8 S.get j (some ob) j=some p:=hj
   rw [aq] at hj
   obtain rfl:=oJ_ hj
   exact⟨k2,by rw [bh];exact k3,iI hL⟩
  ·have hj:a8 S.get k (some ob) j=some p:=hj
   rw [aC _ _ e] at hj
   obtain⟨h2,h3,h4⟩:=hS.bR j p hj aj
   exact⟨h2,by rw [bh];exact h3,h4.later hL (setRow_other w _ _ cs' (fun e'=>e (hS.inj j k p o hj hk aj ha e'))) (fun _ h=>h) fun J hJ=>⟨rfl,by rw [bh];exact Nat.le_refl _,
    fun c hc=>setRow_other w _ _ cs' (fun e'=>hS.jW j J k o (by rw [<-hJ];exact hj) aj hk ha (fun e''=>e e''.symm) (by rw [<-e'];exact hc)),fun _ _ _ h=>h⟩⟩
 ·obtain⟨p',hp⟩:=key i p hi
  obtain⟨q',hq⟩:=key j q hj
  exact hS.inj i j p' q' hp hq ai aj e
 ·by_cases e:j=k
  ·subst e
   have hj:a8 S.get j (some ob) j=some (.fo J):=hj
   rw [aq] at hj
   exact absurd (oJ_ hj) (tN J).2
  ·have hj:a8 S.get k (some ob) j=some (.fo J):=hj
   rw [aC _ _ e] at hj
   exact⟨hj,aj⟩
def Gh.NV (g:Gh) (b l:Nat):Gh:=⟨g.ob,g.cp,g.al,fun c q=>g.fz c q\/(c=b/\q < l),g.fo⟩
theorem St.freeze {w0:World}{A:Nat->Prop}{g:Gh}{S:ad}{w:World}(hS:St w0 A g S w) {k sz fz m:Nat}{rows:List (List AV)}{ex:Bool}(hk:S.get k=some (.arr sz rows fz ex)) (ha:g.al k) (hm:fz<=m) (hle:m<=rows.length) :
  Ext A g w (g.NV (g.ob k) (m*sz)) w/\St w0 A (g.NV (g.ob k) (m*sz)) (S.set k (some (.arr sz rows m ex))) w:=by
 obtain⟨k2,k3,k4⟩:=hS.bR k _ hk ha
 have hL:Later g w (g.NV (g.ob k) (m*sz)) w:=⟨fun _ h=>h,fun _ _=>rfl,fun _ _=>rfl,fun _ _ h=>.inl h,fun _ _ _=>rfl⟩
 have hE:Ext A g w (g.NV (g.ob k) (m*sz)) w:={ hL with size:=Nat.le_refl _,a7:=fun _ _ _=>rfl,gF:=fun b _ h=>h.elim .inl fun e=>.inr (by rw [e.1];exact k2) }
 have key:∀ l r,(S.set k (some (.arr sz rows m ex))).get l=some r->(l=k/\r=.arr sz rows m ex)\/(l ≠ k/\S.get l=some r):=by
  intro l r hl
  have hl:a8 S.get k (some (.arr sz rows m ex)) l=some r:=hl
  by_cases e:l=k
  ·subst e
   rw [aq] at hl
   exact .inl ⟨rfl,(oJ_ hl).symm⟩
  ·rw [aC _ _ e] at hl
   exact .inr ⟨e,hl⟩
 refine⟨hE,hS.next hE rfl rfl rfl hS.al (fun j p hj aj=>?_) (fun i j p q hi hj ai aj e=>?_) (fun b q hf=>hf.elim (hS.cC b q) fun e=>by rw [e.1];exact k3) rfl (fun j J hj aj=>(key j _ hj).elim (fun e=>by cases e.2) fun e=>⟨e.2,aj⟩) (fun j p hj aj=>.inr ((key j p hj).elim (fun e=>⟨j,.arr sz rows fz ex,aj,e.1.symm ▸ hk,rfl,.inl rfl⟩) fun e=>⟨j,p,aj,e.2,rfl,.inl rfl⟩))⟩
 ·rcases key j p hj with ⟨rfl,rfl⟩|⟨a_,hj⟩
  ·refine⟨k2,k3,?_⟩
   obtain⟨cs,ty,h1,h2,h3,h4,h5,h6,h7⟩:=k4
   refine⟨cs,ty,h1,h2,h3,h4,fun i row hr=>⟨(h5 i row hr).1,fun q a hq=>let ⟨x,hx,hr⟩:=(h5 i row hr).2 q a hq;⟨x,hx,hr.later hL⟩⟩,hle,fun q=>⟨fun hq=>?_,fun hq=>.inr ⟨rfl,hq⟩⟩⟩
   rcases hq with hq|hq
   ·exact Nat.lt_of_lt_of_le ((h7 q).1 hq) (Nat.mul_le_mul_right sz hm)
   ·exact hq.2
  ·obtain⟨h2,h3,h4⟩:=hS.bR j p hj aj
   exact⟨h2,h3,h4.later hL rfl (fun q hq=>hq.elim id fun e=>absurd (hS.inj j k p _ hj hk aj ha e.1) a_) fun J hJ=>⟨rfl,Nat.le_refl _,fun _ _=>rfl,fun c q hc hq=>hq.elim id fun e=>absurd (by rw [<-e.1];exact hc) (hS.jW j J k _ (by rw [<-hJ];exact hj) aj hk ha (fun e=>a_ e.symm))⟩⟩
 ·rcases key i p hi with ⟨rfl,_⟩|⟨h1,kW⟩<;>rcases key j q hj with ⟨rfl,_⟩|⟨h2,eN⟩
  ·rfl
  ·exact hS.inj i j _ q hk eN ai aj e
  ·exact hS.inj i j p _ kW hk ai aj e
  ·exact hS.inj i j p q kW eN ai aj e
theorem St.drew {w0:World}{A:Nat->Prop}{g:Gh}{S:ad}{w:World}(hS:St w0 A g S w):Ext A g w g w.drew/\St w0 A g S w.drew:=by
 have hL:Later g w g w.drew:=⟨fun _ h=>h,fun _ _=>rfl,fun _ _=>rfl,fun _ _ h=>h,fun _ _ _=>rfl⟩
 have hE:Ext A g w g w.drew:={ hL with size:=Nat.le_refl _,a7:=fun _ _ _=>rfl,gF:=fun _ _ h=>.inl h }
 exact⟨hE,hS.next hE rfl rfl rfl hS.al (fun k p hk ha=>let ⟨h2,h3,h4⟩:=hS.bR k p hk ha;⟨h2,h3,h4.later hL rfl (fun _ h=>h) fun _ _=>⟨rfl,Nat.le_refl _,fun _ _=>rfl,fun _ _ _ h=>h⟩⟩) hS.inj hS.cC rfl (fun _ _ h1 h2=>⟨h1,h2⟩) (fun k o h1 h2=>.inr ⟨k,o,h2,h1,rfl,.inl rfl⟩)⟩
end Go.Proofs.YtgjfgekaclobaaaGreat
