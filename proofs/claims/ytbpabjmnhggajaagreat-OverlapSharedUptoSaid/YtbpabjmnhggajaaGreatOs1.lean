import Derived.Below
import Derived.CallsIn
import Derived.Laws.Cells
import Derived.Laws.NewBlocks
import Derived.Laws.Rows
import Derived.Laws.Tables
import Derived.Laws.World
import Derived.RangeFuncCalls
import Derived.RangeFuncIn
namespace Go.Proofs.YtbpabjmnhggajaaGreat
set_option linter.unusedVariables false
set_option linter.unusedSimpArgs false
open Go.RowKit
theorem oJ_{α:Type _}{a b:α}(h:some a=some b):a=b:=Option.some.inj h
theorem oI_{α:Type _}(a b:α):(some a=some b)=(a=b):=Option.some.injEq a b
theorem pI_{α:Type _}{β:Type _}(a:α)(b:β)(c:α)(d:β):((a,b)=(c,d))=(a=c∧b=d):=Prod.mk.injEq a b c d
inductive AV where
 |u
 |v (x:Value)
 |agg (cs:List AV)
 |aG (cs:List AV)
 |sl (ex:Bool) (rows:List (List AV))
 |ip (cs:List AV)
 |ob (k sz off len:Nat) (cx:Option Nat)
 |pt (k sz i j:Nat)
 |mp (k:Nat)
 |fn (f:Fn) (first cap:List AV)
 |yl (k:Nat)
 |gr (k sz len:Nat)
inductive Ob where
 |arr (sz:Nat) (rows:List (List AV)) (fz:Nat) (ex:Bool)
 |mp (es:List (Value × AV))
 |mb (es:List (Value × AV))
 |lp (st:LoopState) (mP:Option Code) (tm:Nat->AV) (ps:Array Tmp) (assign body:Code)
 |df
 |si (s:ByteArray) (pos:Nat)
 |fo (J:Nat->(Nat->Nat->Prop)->(Nat->Prop)->World->Prop)
 |un
structure ae where
 get:Nat->Option Ob
 nx:Nat
def a7 {α:Type}(f:Nat->α) (d:Nat) (a:α):Nat->α:=fun t=>match Nat.beq t d with|true=>a|false=>f t
theorem az {α:Type}(f:Nat->α) (d:Nat) (a:α):a7 f d a d=a:=by simp only[a7,Nat.beq_refl]
theorem aD {α:Type}(f:Nat->α) {d t:Nat}(a:α) (h:t ≠ d):a7 f d a t=f t:=by
 have e:Nat.beq t d=false:=by
  cases hb:Nat.beq t d with
  |false=>rfl
  |true=>exact absurd (Nat.eq_of_beq_eq_true hb) h
 simp only[a7,e]
def ae.set (S:ae) (k:Nat) (o:Option Ob):ae:=⟨a7 S.get k o,S.nx⟩
def ae.none_:ae:=⟨fun _=>none,0⟩
structure Gh where
 ob:Nat->Nat
 cp:Nat->Nat
 al:Nat->Prop
 fz:Nat->Nat->Prop
 fo:Nat->Nat->Prop
inductive aF (g:Gh) (w:World):AV->Value->Prop where
 |u {x:Value}:aF g w .u x
 |v {x:Value}:aF g w (.v x) x
 |agg {l:List AV}{cs:Array Value}(hs:cs.size=l.length) (h:∀ (i:Nat) (a:AV) (x:Value),l[i]?=some a->cs[i]?=some x->aF g w a x):aF g w (.agg l) (.agg cs)
 |aG {l:List AV}{cs:Array Value}(hs:cs.size=l.length) (h:∀ (i:Nat) (a:AV) (x:Value),l[i]?=some a->cs[i]?=some x->aF g w a x):aF g w (.aG l) (.tuple cs)
 |nil {ex:Bool}{A:Option Addr}{c:Nat}(hc:ex=true->c=0):aF g w (.sl ex []) (.slice A 0 c)
 |sl {ex:Bool}{rows:List (List AV)}{b o sz c:Nat}{val:Nat->Nat->Value}(hn:rows ≠ []) (hc:ex=true->c=rows.length) (hle:rows.length<=c)
   (hl:∀ (i:Nat) (row:List AV),rows[i]?=some row->row.length=sz)
   (h:∀ (i j:Nat) (row:List AV) (a:AV),rows[i]?=some row->row[j]?=some a->g.fz b (o+(i*sz+j))/\w.cell? ⟨b,o+(i*sz+j),none⟩=some (val i j))
   (hr:∀ (i j:Nat) (row:List AV) (a:AV),rows[i]?=some row->row[j]?=some a->aF g w a (val i j)):aF g w (.sl ex rows) (.slice (some ⟨b,o,none⟩) rows.length c)
 |ip {cs:List AV}{b o:Nat}{val:Nat->Value}(h:∀ (j:Nat) (a:AV),cs[j]?=some a->g.fz b (o+j)/\w.cell? ⟨b,o+j,none⟩=some (val j))
   (hr:∀ (j:Nat) (a:AV),cs[j]?=some a->aF g w a (val j)):aF g w (.ip cs) (.pointer (some ⟨b,o,none⟩))
 |ob {k sz off len c:Nat}{cx:Option Nat}(hk:g.al k) (hc:∀ n,cx=some n->c=n) (hp:off+c<=g.cp k) (hx:cx=none->off+c=g.cp k) (hle:len<=c):aF g w (.ob k sz off len cx) (.slice (some ⟨g.ob k,off*sz,none⟩) len c)
 |pt {k sz i j:Nat}(hk:g.al k):aF g w (.pt k sz i j) (.pointer (some ⟨g.ob k,i*sz+j,none⟩))
 |mp {k:Nat}(hk:g.al k):aF g w (.mp k) (.map (some (g.ob k)))
 |fn {f:Fn}{l m:List AV}{cs ds:Array Value}(h1:cs.size=l.length) (h2:ds.size=m.length) (h3:∀ (i:Nat) (a:AV) (x:Value),l[i]?=some a->cs[i]?=some x->aF g w a x)
   (h4:∀ (i:Nat) (a:AV) (x:Value),m[i]?=some a->ds[i]?=some x->aF g w a x):aF g w (.fn f l m) (.func f cs ds)
 |yl {k:Nat}(hk:g.al k):aF g w (.yl k) (.func (.yield (g.ob k)) #[] #[])
 |jw {k sz:Nat}{A:Option Addr}:aF g w (.gr k sz 0) (.slice A 0 0)
 |gr {k sz len c:Nat}(hk:g.al k) (hx:c=g.cp k) (hle:len<=c):aF g w (.gr k sz len) (.slice (some ⟨g.ob k,0,none⟩) len c)
structure Later (g:Gh) (w:World) (g':Gh) (w':World):Prop where
 al:∀ k,g.al k->g'.al k
 ob:∀ k,g.al k->g'.ob k=g.ob k
 cp:∀ k,g.al k->g'.cp k=g.cp k
 fz:∀ b o,g.fz b o->g'.fz b o
 cell:∀ b o,g.fz b o->w'.cell? ⟨b,o,none⟩=w.cell? ⟨b,o,none⟩
theorem aF.later {g g':Gh}{w w':World}(hL:Later g w g' w') {a:AV}{x:Value}(h:aF g w a x):aF g' w' a x:=by
 induction h with
 |u=>exact .u
 |v=>exact .v
 |agg hs h ih=>exact .agg hs ih
 |aG hs h ih=>exact .aG hs ih
 |nil hc=>exact .nil hc
 |sl hn hc hle hl h hr ih =>
  exact .sl hn hc hle hl (fun i j row a h1 h2=>⟨hL.fz _ _ (h i j row a h1 h2).1,(hL.cell _ _ (h i j row a h1 h2).1).trans (h i j row a h1 h2).2⟩) ih
 |ip h hr ih=>exact .ip (fun j a h1=>⟨hL.fz _ _ (h j a h1).1,(hL.cell _ _ (h j a h1).1).trans (h j a h1).2⟩) ih
 |ob hk hc hp hx hle=>rw[<-hL.ob _ hk];exact .ob (hL.al _ hk) hc (by rw[hL.cp _ hk];exact hp) (by rw[hL.cp _ hk];exact hx) hle
 |pt hk=>rw[<-hL.ob _ hk];exact .pt (hL.al _ hk)
 |mp hk=>rw[<-hL.ob _ hk];exact .mp (hL.al _ hk)
 |fn h1 h2 h3 h4 OO OP=>exact .fn h1 h2 OO OP
 |yl hk=>rw[<-hL.ob _ hk];exact .yl (hL.al _ hk)
 |jw=>exact .jw
 |gr hk hx hle=>rw[<-hL.ob _ hk];exact .gr (hL.al _ hk) (by rw[hL.cp _ hk];exact hx) hle
theorem Later.refl (g:Gh) (w:World):Later g w g w:=⟨fun _ h=>h,fun _ _=>rfl,fun _ _=>rfl,fun _ _ h=>h,fun _ _ _=>rfl⟩
theorem Later.trans {g1 g2 g3:Gh}{w1 w2 w3:World}(h:Later g1 w1 g2 w2) (k:Later g2 w2 g3 w3):Later g1 w1 g3 w3 :=
 ⟨fun j hj=>k.al j (h.al j hj),fun j hj=>(k.ob j (h.al j hj)).trans (h.ob j hj),fun j hj=>(k.cp j (h.al j hj)).trans (h.cp j hj),fun b o hf=>k.fz b o (h.fz b o hf),fun b o hf=>(k.cell b o (h.fz b o hf)).trans (h.cell b o hf)⟩
inductive Pure:AV->Prop where
 |v {x:Value}:Pure (.v x)
 |agg {l:List AV}(h:∀ a ∈ l,Pure a):Pure (.agg l)
 |aG {l:List AV}(h:∀ a ∈ l,Pure a):Pure (.aG l)
 |sl {ex:Bool}{rows:List (List AV)}(h:∀ row ∈ rows,∀ a ∈ row,Pure a):Pure (.sl ex rows)
 |ip {cs:List AV}(h:∀ a ∈ cs,Pure a):Pure (.ip cs)
 |fn {f:Fn}{l m:List AV}(h3:∀ a ∈ l,Pure a) (h4:∀ a ∈ m,Pure a):Pure (.fn f l m)
theorem aF.pure {g g':Gh}{w w':World}(hf:∀ b o,g.fz b o->g'.fz b o) (hc:∀ b o,g.fz b o->w'.cell? ⟨b,o,none⟩=w.cell? ⟨b,o,none⟩) {a:AV}{x:Value}(h:aF g w a x) (hp:Pure a) :
  aF g' w' a x:=by
 induction h with
 |u=>cases hp
 |v=>exact .v
 |agg hs h ih=>cases hp with|agg hp=>exact .agg hs fun i a x h1 h2=>ih i a x h1 h2 (hp _ (List.mem_of_getElem? h1))
 |aG hs h ih=>cases hp with|aG hp=>exact .aG hs fun i a x h1 h2=>ih i a x h1 h2 (hp _ (List.mem_of_getElem? h1))
 |nil hc=>exact .nil hc
 |sl hn nH hle hl h hr ih =>
  cases hp with
  |sl hp =>
   exact .sl hn nH hle hl (fun i j row a h1 h2=>⟨hf _ _ (h i j row a h1 h2).1,(hc _ _ (h i j row a h1 h2).1).trans (h i j row a h1 h2).2⟩)
    (fun i j row a h1 h2=>ih i j row a h1 h2 (hp _ (List.mem_of_getElem? h1) _ (List.mem_of_getElem? h2)))
 |ip h hr ih =>
  cases hp with
  |ip hp=>exact .ip (fun j a h1=>⟨hf _ _ (h j a h1).1,(hc _ _ (h j a h1).1).trans (h j a h1).2⟩) (fun j a h1=>ih j a h1 (hp _ (List.mem_of_getElem? h1)))
 |ob=>cases hp
 |pt=>cases hp
 |mp=>cases hp
 |yl=>cases hp
 |jw=>cases hp
 |gr=>cases hp
 |fn h1 h2 h3 h4 OO OP =>
  cases hp with
  |fn hp hq=>exact .fn h1 h2 (fun i a x h1 h2=>OO i a x h1 h2 (hp _ (List.mem_of_getElem? h1))) (fun i a x h1 h2=>OP i a x h1 h2 (hq _ (List.mem_of_getElem? h1)))
def MA (J:Nat->(Nat->Nat->Prop)->(Nat->Prop)->World->Prop):Prop :=
 ∀ (b:Nat) (Z Z':Nat->Nat->Prop) (B:Nat->Prop) (w w':World),J b Z B w->(∀ c q,Z c q->Z' c q)->(∀ c q,B c->Z' c q->Z c q)->(∀ c,B c->w'.heap[c]?=w.heap[c]?)->(∀ c q,Z c q->w'.cell? ⟨c,q,none⟩=w.cell? ⟨c,q,none⟩)->w.heap.size<=w'.heap.size->J b Z' B w'
def FoK (g:Gh) (w:World) (g':Gh) (w':World) (b:Nat):Prop:=g'.fo b=g.fo b/\w.heap.size<=w'.heap.size/\(∀ c,g.fo b c->w'.heap[c]?=w.heap[c]?)/\∀ c q,g.fo b c->g'.fz c q->g.fz c q
def jc (g:Gh) (w:World) (l:List AV) (cs:Array Value):Prop:=cs.size=l.length/\∀ (i:Nat) (a:AV) (x:Value),l[i]?=some a->cs[i]?=some x->aF g w a x
def dJ (g:Gh) (w:World) (b cp:Nat):Ob->Prop
 |.arr sz rows fz ex=>∃ (cs:Array Value) (ty:TypeId),w.heap[b]?=some (.cells cs ty (0,0))/\cs.size=cp*sz/\rows.length<=cp/\(ex=true->cp=rows.length) /\
   (∀ (i:Nat) (row:List AV),rows[i]?=some row->row.length=sz/\∀ (j:Nat) (a:AV),row[j]?=some a->∃ x,cs[i*sz+j]?=some x/\aF g w a x)/\fz<=rows.length/\∀ q,g.fz b q ↔ q < fz*sz
 |.mp es=>∃ (entries:Array MapEntry) (clock:Nat),w.heap[b]?=some (.map entries clock)/\entries.size=es.length/\(∀ (i:Nat) (k:Value) (a:AV),es[i]?=some (k,a)->∃ e:MapEntry,entries[i]?=some e/\e.key=k/\aF g w a e.val)
 |.mb es=>∃ entries:Array MapEntry,w.heap[b]?=some (.map entries entries.size)/\entries.size=es.length/\(∀ (i:Nat) (k:Value) (a:AV),es[i]?=some (k,a)->∃ e:MapEntry,entries[i]?=some e/\e.key=k/\aF g w a e.val)/\∀ (i:Nat) (e:MapEntry),entries[i]?=some e->e.born=i
 |.lp st mP tm ps assign body=>∃ L:Loop,w.heap[b]?=some (.loop L)/\L.state=st/\L.pending=mP/\L.params=ps/\L.assign=assign/\L.body=body /\
   (∀ t,t < L.tmps.size->aF g w (tm t) (L.tmps.getD t undef))/\(∀ t,L.tmps.size<=t->tm t=.u)
 |.df=>w.heap[b]?=some (.deferred (some []))
 |.si s pos=>w.heap[b]?=some (.stringIter s pos)
 |.fo J=>J b g.fz (g.fo b) w/\MA J
 |.un=>False
structure St (w0:World) (A:Nat->Prop) (g:Gh) (S:ae) (w:World):Prop where
 base:Below w0.heap.size w0 w
 up:∀ b,w.heap.size<=b->A b
 lo:∀ b,A b->w0.heap.size<=b
 al:∀ k,g.al k->k < S.nx
 bT:∀ k o,S.get k=some o->g.al k->A (g.ob k)/\g.ob k < w.heap.size/\dJ g w (g.ob k) (g.cp k) o
 inj:∀ j k o p,S.get j=some o->S.get k=some p->g.al j->g.al k->g.ob j=g.ob k->j=k
 cK:∀ b o,g.fz b o->b < w.heap.size
 oT:∀ b o,b < w0.heap.size->g.fz b o
 iE:∀ k J,S.get k=some (.fo J)->g.al k->∀ c,g.fo (g.ob k) c->A c/\c < w.heap.size
 kL:∀ k J j o,S.get k=some (.fo J)->g.al k->S.get j=some o->g.al j->j ≠ k->¬ g.fo (g.ob k) (g.ob j)
 mQ:∀ j k J J',S.get j=some (.fo J)->S.get k=some (.fo J')->g.al j->g.al k->j=k
structure Ext (A:Nat->Prop) (g:Gh) (w:World) (g':Gh) (w':World):Prop extends Later g w g' w' where
 size:w.heap.size<=w'.heap.size
 aU:∀ b,b < w.heap.size->¬ A b->w'.heap[b]?=w.heap[b]?
 h_:∀ b o,g'.fz b o->g.fz b o\/A b
theorem Ext.refl (A:Nat->Prop) (g:Gh) (w:World):Ext A g w g w:={ Later.refl g w with size:=Nat.le_refl _,aU:=fun _ _ _=>rfl,h_:=fun _ _ h=>.inl h }
theorem Ext.trans {A:Nat->Prop}{g1 g2 g3:Gh}{w1 w2 w3:World}(h:Ext A g1 w1 g2 w2) (k:Ext A g2 w2 g3 w3):Ext A g1 w1 g3 w3 :=
 { h.toLater.trans k.toLater with
   size:=Nat.le_trans h.size k.size
   aU:=fun b hb hA=>(k.aU b (Nat.lt_of_lt_of_le hb h.size) hA).trans (h.aU b hb hA)
   h_:=fun b o hf=>(k.h_ b o hf).elim (fun h'=>h.h_ b o h') .inr }
theorem dJ.later {g g':Gh}{w w':World}{b cp:Nat}{o:Ob}(hL:Later g w g' w') (hb:w'.heap[b]?=w.heap[b]?) (hf:∀ q,g'.fz b q->g.fz b q) (hF:∀ J,o=.fo J->FoK g w g' w' b) (h:dJ g w b cp o):dJ g' w' b cp o:=by
 cases o with
 |arr sz rows fz ex =>
  obtain⟨cs,ty,h1,h2,h3,h4,h5,h6,h7⟩:=h;refine⟨cs,ty,hb.trans h1,h2,h3,h4,fun i row hr=>⟨(h5 i row hr).1,fun j a ha=>?_⟩,h6,fun q=>⟨fun hq=>(h7 q).1 (hf q hq),fun hq=>hL.fz _ _ ((h7 q).2 hq)⟩⟩;obtain⟨x,hx,dR⟩:=(h5 i row hr).2 j a ha;exact⟨x,hx,dR.later hL⟩
 |mp es =>
  obtain⟨entries,clock,h1,h2,h3⟩:=h;refine⟨entries,clock,hb.trans h1,h2,fun i k a ha=>?_⟩;obtain⟨e,he,hk,hr⟩:=h3 i k a ha;exact⟨e,he,hk,hr.later hL⟩
 |mb es =>
  obtain⟨entries,h1,h2,h3,h4⟩:=h;refine⟨entries,hb.trans h1,h2,fun i k a ha=>?_,h4⟩;obtain⟨e,he,hk,hr⟩:=h3 i k a ha;exact⟨e,he,hk,hr.later hL⟩
 |lp st mP tm ps assign body =>
  obtain⟨L,h1,h2,h3,h4,h5,h6,h7,h8⟩:=h;exact⟨L,hb.trans h1,h2,h3,h4,h5,h6,fun t ht=>(h7 t ht).later hL,h8⟩
 |df=>exact hb.trans h
 |si s pos=>exact hb.trans h
 |fo J =>
  obtain⟨h1,h2⟩:=h;obtain⟨f1,f2,f3,f4⟩:=hF J rfl;refine⟨?_,h2⟩;rw[f1];exact h2 _ _ _ _ _ _ h1 hL.fz f4 f3 hL.cell f2
 |un=>exact h.elim
theorem St.next {w0:World}{A:Nat->Prop}{g g':Gh}{S S':ae}{w w':World}(hS:St w0 A g S w) (hE:Ext A g w g' w') (hos:w'.os=w.os) (ht:w'.tape=w.tape) (RN:w'.output=w.output) (al:∀ k,g'.al k->k < S'.nx)
  (bT:∀ k o,S'.get k=some o->g'.al k->A (g'.ob k)/\g'.ob k < w'.heap.size/\dJ g' w' (g'.ob k) (g'.cp k) o) (inj:∀ j k o p,S'.get j=some o->S'.get k=some p->g'.al j->g'.al k->g'.ob j=g'.ob k->j=k)
  (cK:∀ b o,g'.fz b o->b < w'.heap.size) (Ht:g'.fo=g.fo) (K0:∀ k J,S'.get k=some (.fo J)->g'.al k->S.get k=some (.fo J)/\g.al k)
  (obl:∀ k o,S'.get k=some o->g'.al k->w.heap.size<=g'.ob k\/∃ k0 o0,g.al k0/\S.get k0=some o0/\g'.ob k=g.ob k0/\(k0=k\/∀ J,o0 ≠ .fo J)):St w0 A g' S' w' :=
 ⟨⟨hos.trans hS.base.os,ht.trans hS.base.tape,RN.trans hS.base.output,Nat.le_trans hS.base.size hE.size,fun k hk =>
   (hE.aU k (Nat.lt_of_lt_of_le hk hS.base.size) (fun hA=>absurd (hS.lo k hA) (by omega))).trans (hS.base.block k hk)⟩,
  fun b hb=>hS.up b (Nat.le_trans hE.size hb),hS.lo,al,bT,inj,cK,fun b o hb=>hE.fz b o (hS.oT b o hb),
  fun k J hk ha c hc=>by
   obtain⟨h1,h2⟩:=K0 k J hk ha;rw[Ht,hE.ob k h2] at hc;obtain⟨h3,h4⟩:=hS.iE k J h1 h2 c hc;exact⟨h3,Nat.lt_of_lt_of_le h4 hE.size⟩,
  fun k J j o hk ha hj aj bU hc=>by
   obtain⟨h1,h2⟩:=K0 k J hk ha;rw[Ht,hE.ob k h2] at hc;rcases obl j o hj aj with h3|⟨k0,o0,h3,h4,h5,h6⟩
   ·exact absurd (hS.iE k J h1 h2 _ hc).2 (by omega)
   ·rw[h5] at hc;refine hS.kL k J k0 o0 h1 h2 h4 h3 (fun e=>?_) hc;rcases h6 with h6|h6
    ·grind
    ·subst e;rw[h1] at h4;exact h6 J (oJ_ h4).symm,
  fun j k J J' hj hk aj ak=>hS.mQ j k J J' (K0 j J hj aj).1 (K0 k J' hk ak).1 (K0 j J hj aj).2 (K0 k J' hk ak).2⟩
theorem St.forget {w0:World}{A:Nat->Prop}{g:Gh}{S S':ae}{w:World}(hS:St w0 A g S w) (hn:S.nx<=S'.nx) (h:∀ k o,S'.get k=some o->g.al k->S.get k=some o):St w0 A g S' w :=
 ⟨hS.base,hS.up,hS.lo,fun k hk=>Nat.lt_of_lt_of_le (hS.al k hk) hn,fun k o hk ha=>hS.bT k o (h k o hk ha) ha,fun j k o p hj hk aj ak=>hS.inj j k o p (h j o hj aj) (h k p hk ak) aj ak,hS.cK,hS.oT,
  fun k J hk ha=>hS.iE k J (h k _ hk ha) ha,fun k J j o hk ha hj aj=>hS.kL k J j o (h k _ hk ha) ha (h j o hj aj) aj,fun j k J J' hj hk aj ak=>hS.mQ j k J J' (h j _ hj aj) (h k _ hk ak) aj ak⟩
theorem St.Eo {w0:World}{A:Nat->Prop}{g:Gh}{S S':ae}{w:World}(hS:St w0 A g S w) (hn:S.nx<=S'.nx) (h:∀ k o',S'.get k=some o'->g.al k->∃ o,S.get k=some o/\(dJ g w (g.ob k) (g.cp k) o->dJ g w (g.ob k) (g.cp k) o')/\∀ J,o'=.fo J->o=.fo J):St w0 A g S' w :=
 ⟨hS.base,hS.up,hS.lo,fun k hk=>Nat.lt_of_lt_of_le (hS.al k hk) hn,fun k o hk ha=>let ⟨o0,h1,h2,_⟩:=h k o hk ha;let ⟨a1,a2,a3⟩:=hS.bT k o0 h1 ha;⟨a1,a2,h2 a3⟩,
  fun j k o p hj hk aj ak=>let ⟨_,h1,_⟩:=h j o hj aj;let ⟨_,h2,_⟩:=h k p hk ak;hS.inj j k _ _ h1 h2 aj ak,hS.cK,hS.oT,
  fun k J hk ha=>let ⟨_,h1,_,h2⟩:=h k _ hk ha;hS.iE k J (by grind) ha,
  fun k J j o hk ha hj aj=>let ⟨_,h1,_,h2⟩:=h k _ hk ha;let ⟨_,h3,_⟩:=h j _ hj aj;hS.kL k J j _ (by grind) ha h3 aj,
  fun j k J J' hj hk aj ak=>let ⟨_,h1,_,h2⟩:=h j _ hj aj;let ⟨_,h3,_,h4⟩:=h k _ hk ak;hS.mQ j k J J' (by grind) (by grind) aj ak⟩
theorem fW {w:World}{o:Obj}{b:Nat}(h:b < w.heap.size):(w.alloc o).heap[b]?=w.heap[b]?:=Below.heap_alloc w o b h
theorem dw {w:World}{o:Obj}:(w.alloc o).heap[w.heap.size]?=some o:=by
 show (w.heap.push o)[w.heap.size]?=_;simp
theorem size_alloc {w:World}{o:Obj}:(w.alloc o).heap.size=w.heap.size+1:=by
 show (w.heap.push o).size=_;simp
def Gh.new (g:Gh) (k b cp:Nat):Gh:=⟨a7 g.ob k b,a7 g.cp k cp,fun j=>g.al j\/j=k,g.fz,g.fo⟩
theorem St.newAt {w0:World}{A:Nat->Prop}{g:Gh}{S:ae}{w:World}(hS:St w0 A g S w) (o:Obj) {k:Nat}(uq:¬ g.al k) (aA:k < S.nx) (cp:Nat)
  (yu:∀ J,S.get k ≠ some (.fo J)) (jm:∀ ob,S.get k=some ob->Later g w (g.new k w.heap.size cp) (w.alloc o)->dJ (g.new k w.heap.size cp) (w.alloc o) w.heap.size cp ob) :
  Ext A g w (g.new k w.heap.size cp) (w.alloc o)/\St w0 A (g.new k w.heap.size cp) S (w.alloc o):=by
 have bU:∀ j,g.al j->j ≠ k:=fun j hj e=>uq (e ▸ hj);have lf:∀ j,g.al j->(g.new k w.heap.size cp).ob j=g.ob j:=fun j hj=>aD _ _ (bU j hj);have Hu:∀ j,g.al j->(g.new k w.heap.size cp).cp j=g.cp j:=fun j hj=>aD _ _ (bU j hj);have e1:(g.new k w.heap.size cp).ob k=w.heap.size:=az _ _ _;have e2:(g.new k w.heap.size cp).cp k=cp:=az _ _ _;have hL:Later g w (g.new k w.heap.size cp) (w.alloc o):=⟨fun j hj=>.inl hj,lf,Hu,fun _ _ h=>h,fun b q hf=>World.cell?_of_block (fW (hS.cK b q hf))⟩;have hE:Ext A g w (g.new k w.heap.size cp) (w.alloc o):={ hL with size:=by rw[size_alloc];omega,aU:=fun b hb _=>fW hb,h_:=fun _ _ h=>.inl h };refine⟨hE,hS.next hE rfl rfl rfl (fun j hj=>hj.elim (hS.al j) fun e=>by omega) (fun j p hj ha=>?_) (fun i j p q hi hj ai aj e=>?_) (fun b q hf=>?_) rfl (fun j J hj ha=>?_) (fun j p hj ha=>?_)⟩
 ·rcases ha with ha|rfl
  ·obtain⟨h2,h3,h4⟩:=hS.bT j p hj ha;rw[lf j ha,Hu j ha];exact⟨h2,by rw[size_alloc];omega,h4.later hL (fW h3) (fun _ h=>h) fun J hJ=>⟨rfl,by rw[size_alloc];omega,fun c hc=>fW (hS.iE j J (by grind) ha c hc).2,fun _ _ _ h=>h⟩⟩
  ·rw[e1,e2];exact⟨hS.up _ (Nat.le_refl _),by rw[size_alloc];omega,jm p hj hL⟩
 ·rcases ai with ai|rfl<;>rcases aj with aj|rfl
  ·rw[lf i ai,lf j aj] at e;exact hS.inj i j p q hi hj ai aj e
  ·have:=(hS.bT i p hi ai).2.1;rw[lf i ai,e1] at e;omega
  ·have:=(hS.bT j q hj aj).2.1;rw[lf j aj,e1] at e;omega
  ·rfl
 ·have:=hS.cK b q hf;rw[size_alloc];omega
 ·rcases ha with ha|rfl
  ·grind
  ·grind
 ·rcases ha with ha|rfl
  ·grind
  ·grind
theorem St.new {w0:World}{A:Nat->Prop}{g:Gh}{S:ae}{w:World}(hS:St w0 A g S w) (o:Obj) (ob:Ob) (cp:Nat) (yu:∀ J,ob ≠ .fo J)
  (jm:Later g w (g.new S.nx w.heap.size cp) (w.alloc o)->dJ (g.new S.nx w.heap.size cp) (w.alloc o) w.heap.size cp ob) :
  Ext A g w (g.new S.nx w.heap.size cp) (w.alloc o)/\St w0 A (g.new S.nx w.heap.size cp) ⟨a7 S.get S.nx (some ob),S.nx+1⟩ (w.alloc o):=by
 have uq:¬ g.al S.nx:=fun h=>absurd (hS.al _ h) (Nat.lt_irrefl _);have h1:St w0 A g ⟨a7 S.get S.nx (some ob),S.nx+1⟩ w:=hS.forget (Nat.le_succ _) fun k p hk ha=>by grind[a7,aD]
 exact h1.newAt o uq (Nat.lt_succ_self _) cp (fun J hJ=>by grind[a7,az]) fun p hp hL=>by
  have hp:a7 S.get S.nx (some ob) S.nx=some p:=hp;rw[az] at hp;obtain rfl:=oJ_ hp;exact jm hL
def Gh.Fq (g:Gh) (b:Nat):Gh:=⟨g.ob,g.cp,g.al,fun c q=>g.fz c q\/c=b,g.fo⟩
theorem St.Fq {w0:World}{A:Nat->Prop}{g:Gh}{S:ae}{w:World}(hS:St w0 A g S w) (o:Obj) :
  Ext A g w (g.Fq w.heap.size) (w.alloc o)/\St w0 A (g.Fq w.heap.size) S (w.alloc o):=by
 have hL:Later g w (g.Fq w.heap.size) (w.alloc o):=⟨fun _ h=>h,fun _ _=>rfl,fun _ _=>rfl,fun _ _ h=>.inl h,fun b q hf=>World.cell?_of_block (fW (hS.cK b q hf))⟩;have hE:Ext A g w (g.Fq w.heap.size) (w.alloc o):={ hL with size:=by rw[size_alloc];omega,aU:=fun b hb _=>fW hb,h_:=fun b _ h=>h.elim .inl fun e=>.inr (by rw[e];exact hS.up _ (Nat.le_refl _)) };refine⟨hE,hS.next hE rfl rfl rfl hS.al (fun k p hk ha=>?_) hS.inj (fun b q hf=>?_) rfl (fun _ _ h1 h2=>⟨h1,h2⟩) (fun k o h1 h2=>.inr ⟨k,o,h2,h1,rfl,.inl rfl⟩)⟩
 ·obtain⟨h2,h3,h4⟩:=hS.bT k p hk ha
  exact⟨h2,by rw[size_alloc];exact Nat.lt_succ_of_lt h3,h4.later hL (fW h3) (fun q hq=>hq.elim id fun e=>absurd e (Nat.ne_of_lt h3)) fun J hJ=>⟨rfl,by rw[size_alloc];omega,
   fun c hc=>fW (hS.iE k J (by grind) ha c hc).2,fun c q hc hq=>hq.elim id fun e=>absurd e (Nat.ne_of_lt (hS.iE k J (by grind) ha c hc).2)⟩⟩
 ·rw[size_alloc];rcases hf with hf|rfl
  ·exact Nat.lt_succ_of_lt (hS.cK b q hf)
  ·grind
theorem St.row {w0:World}{A:Nat->Prop}{g:Gh}{S:ae}{w:World}(hS:St w0 A g S w) {k:Nat}{o ob:Ob}(hk:S.get k=some o) (ha:g.al k) {cs cs':Array Value}{ty:TypeId}(hc:w.heap[g.ob k]?=some (.cells cs ty (0,0)))
  (yu:∀ J,o ≠ .fo J/\ob ≠ .fo J) (hz:∀ q,g.fz (g.ob k) q->cs'[q]?=cs[q]?) (jm:Later g w g (w.setRow (g.ob k) cs')->dJ g (w.setRow (g.ob k) cs') (g.ob k) (g.cp k) ob) :
  Ext A g w g (w.setRow (g.ob k) cs')/\St w0 A g (S.set k (some ob)) (w.setRow (g.ob k) cs'):=by
 obtain⟨k2,k3,k4⟩:=hS.bT k o hk ha;have bS:(w.setRow (g.ob k) cs').heap.size=w.heap.size:=by simp[World.setRow]
 have lS:∀ b q,g.fz b q->(w.setRow (g.ob k) cs').cell? ⟨b,q,none⟩=w.cell? ⟨b,q,none⟩:=by
  intro b q hf;by_cases e:b=g.ob k
  ·subst e;rw[cell_of_row _ _ q cs' ty (0,0) (setRow_heap w _ cs cs' ty (0,0) hc),cell_of_row _ _ q cs ty (0,0) hc];exact hz q hf
  ·exact World.cell?_of_block (setRow_other w _ b cs' e)
 have hL:Later g w g (w.setRow (g.ob k) cs'):=⟨fun _ h=>h,fun _ _=>rfl,fun _ _=>rfl,fun _ _ h=>h,lS⟩;have hE:Ext A g w g (w.setRow (g.ob k) cs'):={ hL with size:=by grind,aU:=fun b hb hA=>setRow_other w _ b cs' (fun e=>hA (by grind)),h_:=fun _ _ h=>.inl h };have key:∀ l r,(S.set k (some ob)).get l=some r->∃ r',S.get l=some r':=by
  intro l r hl;by_cases e:l=k
  ·grind
  ·have hl:a7 S.get k (some ob) l=some r:=hl;rw[aD _ _ e] at hl;exact⟨r,hl⟩
 refine⟨hE,hS.next hE rfl rfl rfl hS.al (fun j p hj aj=>?_) (fun i j p q hi hj ai aj e=>?_) (fun b q hf=>by rw[bS];exact hS.cK b q hf) rfl (fun j J hj aj=>?_) (fun j p hj aj=>.inr ⟨j,(key j p hj).choose,aj,(key j p hj).choose_spec,rfl,.inl rfl⟩)⟩
 ·by_cases e:j=k
  ·subst e;have hj:a7 S.get j (some ob) j=some p:=hj;rw[az] at hj;obtain rfl:=oJ_ hj;exact⟨k2,by grind,jm hL⟩
  ·have hj:a7 S.get k (some ob) j=some p:=hj;rw[aD _ _ e] at hj;obtain⟨h2,h3,h4⟩:=hS.bT j p hj aj
   exact⟨h2,by grind,h4.later hL (setRow_other w _ _ cs' (fun e'=>e (hS.inj j k p o hj hk aj ha e'))) (fun _ h=>h) fun J hJ=>⟨rfl,by grind,
    fun c hc=>setRow_other w _ _ cs' (fun e'=>hS.kL j J k o (by grind) aj hk ha (fun e''=>e e''.symm) (by grind)),fun _ _ _ h=>h⟩⟩
 ·obtain⟨p',hp⟩:=key i p hi;obtain⟨q',hq⟩:=key j q hj;exact hS.inj i j p' q' hp hq ai aj e
 ·by_cases e:j=k
  ·subst e;have hj:a7 S.get j (some ob) j=some (.fo J):=hj;rw[az] at hj;exact absurd (oJ_ hj) (yu J).2
  ·have hj:a7 S.get k (some ob) j=some (.fo J):=hj;rw[aD _ _ e] at hj;exact⟨hj,aj⟩
def Gh.OQ (g:Gh) (b l:Nat):Gh:=⟨g.ob,g.cp,g.al,fun c q=>g.fz c q\/(c=b/\q < l),g.fo⟩
theorem St.freeze {w0:World}{A:Nat->Prop}{g:Gh}{S:ae}{w:World}(hS:St w0 A g S w) {k sz fz m:Nat}{rows:List (List AV)}{ex:Bool}(hk:S.get k=some (.arr sz rows fz ex)) (ha:g.al k) (hm:fz<=m) (hle:m<=rows.length) :
  Ext A g w (g.OQ (g.ob k) (m*sz)) w/\St w0 A (g.OQ (g.ob k) (m*sz)) (S.set k (some (.arr sz rows m ex))) w:=by
 obtain⟨k2,k3,k4⟩:=hS.bT k _ hk ha;have hL:Later g w (g.OQ (g.ob k) (m*sz)) w:=⟨fun _ h=>h,fun _ _=>rfl,fun _ _=>rfl,fun _ _ h=>.inl h,fun _ _ _=>rfl⟩;have hE:Ext A g w (g.OQ (g.ob k) (m*sz)) w:={ hL with size:=Nat.le_refl _,aU:=fun _ _ _=>rfl,h_:=fun b _ h=>h.elim .inl fun e=>.inr (by grind) };have key:∀ l r,(S.set k (some (.arr sz rows m ex))).get l=some r->(l=k/\r=.arr sz rows m ex)\/(l ≠ k/\S.get l=some r):=by
  intro l r hl;have hl:a7 S.get k (some (.arr sz rows m ex)) l=some r:=hl;by_cases e:l=k
  ·grind[az]
  ·grind[aD]
 refine⟨hE,hS.next hE rfl rfl rfl hS.al (fun j p hj aj=>?_) (fun i j p q hi hj ai aj e=>?_) (fun b q hf=>hf.elim (hS.cK b q) fun e=>by grind) rfl (fun j J hj aj=>(key j _ hj).elim (fun e=>by grind) fun e=>⟨e.2,aj⟩) (fun j p hj aj=>.inr ((key j p hj).elim (fun e=>⟨j,.arr sz rows fz ex,aj,e.1.symm ▸ hk,rfl,.inl rfl⟩) fun e=>⟨j,p,aj,e.2,rfl,.inl rfl⟩))⟩
 ·rcases key j p hj with ⟨rfl,rfl⟩|⟨bU,hj⟩
  ·refine⟨k2,k3,?_⟩;obtain⟨cs,ty,h1,h2,h3,h4,h5,h6,h7⟩:=k4;refine⟨cs,ty,h1,h2,h3,h4,fun i row hr=>⟨(h5 i row hr).1,fun q a hq=>let ⟨x,hx,hr⟩:=(h5 i row hr).2 q a hq;⟨x,hx,hr.later hL⟩⟩,hle,fun q=>⟨fun hq=>?_,fun hq=>.inr ⟨rfl,hq⟩⟩⟩;rcases hq with hq|hq
   ·exact Nat.lt_of_lt_of_le ((h7 q).1 hq) (Nat.mul_le_mul_right sz hm)
   ·grind
  ·obtain⟨h2,h3,h4⟩:=hS.bT j p hj aj;exact⟨h2,h3,h4.later hL rfl (fun q hq=>hq.elim id fun e=>absurd (hS.inj j k p _ hj hk aj ha e.1) bU) fun J hJ=>⟨rfl,Nat.le_refl _,fun _ _=>rfl,fun c q hc hq=>hq.elim id fun e=>absurd (by rw[<-e.1];exact hc) (hS.kL j J k _ (by grind) aj hk ha (fun e=>bU e.symm))⟩⟩
 ·rcases key i p hi with ⟨rfl,_⟩|⟨h1,kM⟩<;>rcases key j q hj with ⟨rfl,_⟩|⟨h2,fc⟩
  ·rfl
  ·exact hS.inj i j _ q hk fc ai aj e
  ·exact hS.inj i j p _ kM hk ai aj e
  ·exact hS.inj i j p q kM fc ai aj e
theorem St.drew {w0:World}{A:Nat->Prop}{g:Gh}{S:ae}{w:World}(hS:St w0 A g S w):Ext A g w g w.drew/\St w0 A g S w.drew:=by
 have hL:Later g w g w.drew:=⟨fun _ h=>h,fun _ _=>rfl,fun _ _=>rfl,fun _ _ h=>h,fun _ _ _=>rfl⟩;have hE:Ext A g w g w.drew:={ hL with size:=Nat.le_refl _,aU:=fun _ _ _=>rfl,h_:=fun _ _ h=>.inl h };exact⟨hE,hS.next hE rfl rfl rfl hS.al (fun k p hk ha=>let ⟨h2,h3,h4⟩:=hS.bT k p hk ha;⟨h2,h3,h4.later hL rfl (fun _ h=>h) fun _ _=>⟨rfl,Nat.le_refl _,fun _ _=>rfl,fun _ _ _ h=>h⟩⟩) hS.inj hS.cK rfl (fun _ _ h1 h2=>⟨h1,h2⟩) (fun k o h1 h2=>.inr ⟨k,o,h2,h1,rfl,.inl rfl⟩)⟩
end Go.Proofs.YtbpabjmnhggajaaGreat
