/-
  Values without addresses, stores of objects, and what they stand for in a world. Nothing here names a function of the program.
-/
import Derived.Below
import Derived.CallsIn
import Derived.RangeFuncIn
import Derived.RangeFuncCalls
import Derived.Laws.Cells
import Derived.Laws.Rows
import Derived.Laws.World
import Derived.Laws.NewBlocks
import Derived.Laws.Tables
namespace Go.Proofs.YtahhaiomdjlckaaDoor
set_option linter.unusedVariables false
set_option linter.unusedSimpArgs false
open Go.RowKit

/-- a value: u: unknown; v: this very value; sl: a slice whose elements never change (ex: its capacity is its length); ip: a pointer to cells that never change; ob, pt, mp, yl: into an object of the store. -/
inductive AV where
  | u
  | v (x : Value)
  | agg (cs : List AV)
  | tup (cs : List AV)
  | sl (ex : Bool) (rows : List (List AV))
  | ip (cs : List AV)
  | ob (k sz off len : Nat) (cx : Option Nat)
  | pt (k sz i j : Nat)
  | mp (k : Nat)
  | fn (f : Fn) (first cap : List AV)
  | yl (k : Nat)
/-- an object: a row of elements of sz cells each (the first fz elements are known to others, and do not change; ex: no room behind them), a map, the record of a range over a function, the block of its deferred calls, the place in a string that is ranged over. -/
inductive Ob where
  | arr (sz : Nat) (rows : List (List AV)) (fz : Nat) (ex : Bool)
  | mp (es : List (Value × AV))
  | lp (st : LoopState) (pend : Option Code) (tm : Nat → AV) (ps : Array Tmp) (assign body : Code)
  | df
  | si (s : ByteArray) (pos : Nat)
structure Store where
  get : Nat → Option Ob
  nx : Nat
def upd {α : Type} (f : Nat → α) (d : Nat) (a : α) : Nat → α := fun t => match Nat.beq t d with | true => a | false => f t
theorem upd_same {α : Type} (f : Nat → α) (d : Nat) (a : α) : upd f d a d = a := by simp only [upd, Nat.beq_refl]
theorem upd_other {α : Type} (f : Nat → α) {d t : Nat} (a : α) (h : t ≠ d) : upd f d a t = f t := by
  have e : Nat.beq t d = false := by
    cases hb : Nat.beq t d with
    | false => rfl
    | true => exact absurd (Nat.eq_of_beq_eq_true hb) h
  simp only [upd, e]
theorem upd_self {α : Type} {f : Nat → α} {d : Nat} {a : α} (h : f d = a) : f = upd f d a := by
  funext t
  by_cases e : t = d
  · subst e; rw [upd_same, h]
  · rw [upd_other _ _ e]
def Store.set (S : Store) (k : Nat) (o : Option Ob) : Store := ⟨upd S.get k o, S.nx⟩
def Store.none_ : Store := ⟨fun _ => none, 0⟩

/-- al: the objects that have been made; ob: where an object lies; cp: how many elements its block has room for; fz: cells that do not change any more. -/
structure Gh where
  ob : Nat → Nat
  cp : Nat → Nat
  al : Nat → Prop
  fz : Nat → Nat → Prop
inductive Rep (g : Gh) (w : World) : AV → Value → Prop where
  | u {x : Value} : Rep g w .u x
  | v {x : Value} : Rep g w (.v x) x
  | agg {l : List AV} {cs : Array Value} (hs : cs.size = l.length) (h : ∀ (i : Nat) (a : AV) (x : Value), l[i]? = some a → cs[i]? = some x → Rep g w a x) : Rep g w (.agg l) (.agg cs)
  | tup {l : List AV} {cs : Array Value} (hs : cs.size = l.length) (h : ∀ (i : Nat) (a : AV) (x : Value), l[i]? = some a → cs[i]? = some x → Rep g w a x) : Rep g w (.tup l) (.tuple cs)
  | nil {ex : Bool} {A : Option Addr} {c : Nat} (hc : ex = true → c = 0) : Rep g w (.sl ex []) (.slice A 0 c)
  | sl {ex : Bool} {rows : List (List AV)} {b o sz c : Nat} {val : Nat → Nat → Value} (hn : rows ≠ []) (hc : ex = true → c = rows.length) (hle : rows.length ≤ c)
      (hl : ∀ (i : Nat) (row : List AV), rows[i]? = some row → row.length = sz)
      (h : ∀ (i j : Nat) (row : List AV) (a : AV), rows[i]? = some row → row[j]? = some a → g.fz b (o + (i * sz + j)) ∧ w.cell? ⟨b, o + (i * sz + j), none⟩ = some (val i j))
      (hr : ∀ (i j : Nat) (row : List AV) (a : AV), rows[i]? = some row → row[j]? = some a → Rep g w a (val i j)) : Rep g w (.sl ex rows) (.slice (some ⟨b, o, none⟩) rows.length c)
  | ip {cs : List AV} {b o : Nat} {val : Nat → Value} (h : ∀ (j : Nat) (a : AV), cs[j]? = some a → g.fz b (o + j) ∧ w.cell? ⟨b, o + j, none⟩ = some (val j))
      (hr : ∀ (j : Nat) (a : AV), cs[j]? = some a → Rep g w a (val j)) : Rep g w (.ip cs) (.pointer (some ⟨b, o, none⟩))
  | ob {k sz off len c : Nat} {cx : Option Nat} (hk : g.al k) (hc : ∀ n, cx = some n → c = n) (hp : off + c ≤ g.cp k) (hx : cx = none → off + c = g.cp k) (hle : len ≤ c) : Rep g w (.ob k sz off len cx) (.slice (some ⟨g.ob k, off * sz, none⟩) len c)
  | pt {k sz i j : Nat} (hk : g.al k) : Rep g w (.pt k sz i j) (.pointer (some ⟨g.ob k, i * sz + j, none⟩))
  | mp {k : Nat} (hk : g.al k) : Rep g w (.mp k) (.map (some (g.ob k)))
  | fn {f : Fn} {l m : List AV} {cs ds : Array Value} (h1 : cs.size = l.length) (h2 : ds.size = m.length) (h3 : ∀ (i : Nat) (a : AV) (x : Value), l[i]? = some a → cs[i]? = some x → Rep g w a x)
      (h4 : ∀ (i : Nat) (a : AV) (x : Value), m[i]? = some a → ds[i]? = some x → Rep g w a x) : Rep g w (.fn f l m) (.func f cs ds)
  | yl {k : Nat} (hk : g.al k) : Rep g w (.yl k) (.func (.yield (g.ob k)) #[] #[])

/-- what stays when the world goes on: cells that do not change, objects' places. -/
structure Later (g : Gh) (w : World) (g' : Gh) (w' : World) : Prop where
  al : ∀ k, g.al k → g'.al k
  ob : ∀ k, g.al k → g'.ob k = g.ob k
  cp : ∀ k, g.al k → g'.cp k = g.cp k
  fz : ∀ b o, g.fz b o → g'.fz b o
  cell : ∀ b o, g.fz b o → w'.cell? ⟨b, o, none⟩ = w.cell? ⟨b, o, none⟩
theorem Rep.later {g g' : Gh} {w w' : World} (hL : Later g w g' w') {a : AV} {x : Value} (h : Rep g w a x) : Rep g' w' a x := by
  induction h with
  | u => exact .u
  | v => exact .v
  | agg hs h ih => exact .agg hs ih
  | tup hs h ih => exact .tup hs ih
  | nil hc => exact .nil hc
  | sl hn hc hle hl h hr ih =>
    exact .sl hn hc hle hl (fun i j row a h1 h2 => ⟨hL.fz _ _ (h i j row a h1 h2).1, (hL.cell _ _ (h i j row a h1 h2).1).trans (h i j row a h1 h2).2⟩) ih
  | ip h hr ih => exact .ip (fun j a h1 => ⟨hL.fz _ _ (h j a h1).1, (hL.cell _ _ (h j a h1).1).trans (h j a h1).2⟩) ih
  | ob hk hc hp hx hle => rw [← hL.ob _ hk]; exact .ob (hL.al _ hk) hc (by rw [hL.cp _ hk]; exact hp) (by rw [hL.cp _ hk]; exact hx) hle
  | pt hk => rw [← hL.ob _ hk]; exact .pt (hL.al _ hk)
  | mp hk => rw [← hL.ob _ hk]; exact .mp (hL.al _ hk)
  | fn h1 h2 h3 h4 ih3 ih4 => exact .fn h1 h2 ih3 ih4
  | yl hk => rw [← hL.ob _ hk]; exact .yl (hL.al _ hk)
theorem Later.refl (g : Gh) (w : World) : Later g w g w := ⟨fun _ h => h, fun _ _ => rfl, fun _ _ => rfl, fun _ _ h => h, fun _ _ _ => rfl⟩
theorem Later.trans {g1 g2 g3 : Gh} {w1 w2 w3 : World} (h : Later g1 w1 g2 w2) (k : Later g2 w2 g3 w3) : Later g1 w1 g3 w3 :=
  ⟨fun j hj => k.al j (h.al j hj), fun j hj => (k.ob j (h.al j hj)).trans (h.ob j hj), fun j hj => (k.cp j (h.al j hj)).trans (h.cp j hj), fun b o hf => k.fz b o (h.fz b o hf), fun b o hf => (k.cell b o (h.fz b o hf)).trans (h.cell b o hf)⟩

/-- a value without any object of the store. -/
inductive Pure : AV → Prop where
  | v {x : Value} : Pure (.v x)
  | agg {l : List AV} (h : ∀ a ∈ l, Pure a) : Pure (.agg l)
  | tup {l : List AV} (h : ∀ a ∈ l, Pure a) : Pure (.tup l)
  | sl {ex : Bool} {rows : List (List AV)} (h : ∀ row ∈ rows, ∀ a ∈ row, Pure a) : Pure (.sl ex rows)
  | ip {cs : List AV} (h : ∀ a ∈ cs, Pure a) : Pure (.ip cs)
  | fn {f : Fn} {l m : List AV} (h3 : ∀ a ∈ l, Pure a) (h4 : ∀ a ∈ m, Pure a) : Pure (.fn f l m)
theorem Rep.pure {g g' : Gh} {w w' : World} (hf : ∀ b o, g.fz b o → g'.fz b o) (hc : ∀ b o, g.fz b o → w'.cell? ⟨b, o, none⟩ = w.cell? ⟨b, o, none⟩) {a : AV} {x : Value} (h : Rep g w a x) (hp : Pure a) :
    Rep g' w' a x := by
  induction h with
  | u => cases hp
  | v => exact .v
  | agg hs h ih => cases hp with | agg hp => exact .agg hs fun i a x h1 h2 => ih i a x h1 h2 (hp _ (List.mem_of_getElem? h1))
  | tup hs h ih => cases hp with | tup hp => exact .tup hs fun i a x h1 h2 => ih i a x h1 h2 (hp _ (List.mem_of_getElem? h1))
  | nil hc => exact .nil hc
  | sl hn hc' hle hl h hr ih =>
    cases hp with
    | sl hp =>
      exact .sl hn hc' hle hl (fun i j row a h1 h2 => ⟨hf _ _ (h i j row a h1 h2).1, (hc _ _ (h i j row a h1 h2).1).trans (h i j row a h1 h2).2⟩)
        (fun i j row a h1 h2 => ih i j row a h1 h2 (hp _ (List.mem_of_getElem? h1) _ (List.mem_of_getElem? h2)))
  | ip h hr ih =>
    cases hp with
    | ip hp => exact .ip (fun j a h1 => ⟨hf _ _ (h j a h1).1, (hc _ _ (h j a h1).1).trans (h j a h1).2⟩) (fun j a h1 => ih j a h1 (hp _ (List.mem_of_getElem? h1)))
  | ob => cases hp
  | pt => cases hp
  | mp => cases hp
  | yl => cases hp
  | fn h1 h2 h3 h4 ih3 ih4 =>
    cases hp with
    | fn hp hq => exact .fn h1 h2 (fun i a x h1 h2 => ih3 i a x h1 h2 (hp _ (List.mem_of_getElem? h1))) (fun i a x h1 h2 => ih4 i a x h1 h2 (hq _ (List.mem_of_getElem? h1)))

/-- lists of values. -/
def Reps (g : Gh) (w : World) (l : List AV) (cs : Array Value) : Prop := cs.size = l.length ∧ ∀ (i : Nat) (a : AV) (x : Value), l[i]? = some a → cs[i]? = some x → Rep g w a x
/-- an object lies in a block. -/
def ObRep (g : Gh) (w : World) (b cp : Nat) : Ob → Prop
  | .arr sz rows fz ex => ∃ (cs : Array Value) (ty : TypeId), w.heap[b]? = some (.cells cs ty (0, 0)) ∧ cs.size = cp * sz ∧ rows.length ≤ cp ∧ (ex = true → cp = rows.length) ∧
      (∀ (i : Nat) (row : List AV), rows[i]? = some row → row.length = sz ∧ ∀ (j : Nat) (a : AV), row[j]? = some a → ∃ x, cs[i * sz + j]? = some x ∧ Rep g w a x) ∧ fz ≤ rows.length ∧ ∀ q, g.fz b q ↔ q < fz * sz
  | .mp es => ∃ (entries : Array MapEntry) (clock : Nat), w.heap[b]? = some (.map entries clock) ∧ entries.size = es.length ∧ (∀ (i : Nat) (k : Value) (a : AV), es[i]? = some (k, a) → ∃ e : MapEntry, entries[i]? = some e ∧ e.key = k ∧ Rep g w a e.val)
  | .lp st pend tm ps assign body => ∃ L : Loop, w.heap[b]? = some (.loop L) ∧ L.state = st ∧ L.pending = pend ∧ L.params = ps ∧ L.assign = assign ∧ L.body = body ∧
      (∀ t, t < L.tmps.size → Rep g w (tm t) (L.tmps.getD t undef)) ∧ (∀ t, L.tmps.size ≤ t → tm t = .u)
  | .df => w.heap[b]? = some (.deferred (some []))
  | .si s pos => w.heap[b]? = some (.stringIter s pos)
/-- the world holds the objects; A: the blocks that may be written; w0: the world in which the call of the statement began. -/
structure St (w0 : World) (A : Nat → Prop) (g : Gh) (S : Store) (w : World) : Prop where
  base : Below w0.heap.size w0 w
  up : ∀ b, w.heap.size ≤ b → A b
  lo : ∀ b, A b → w0.heap.size ≤ b
  al : ∀ k, g.al k → k < S.nx
  obs : ∀ k o, S.get k = some o → g.al k → A (g.ob k) ∧ g.ob k < w.heap.size ∧ ObRep g w (g.ob k) (g.cp k) o
  inj : ∀ j k o p, S.get j = some o → S.get k = some p → g.al j → g.al k → g.ob j = g.ob k → j = k
  fzlt : ∀ b o, g.fz b o → b < w.heap.size
  fz0 : ∀ b o, b < w0.heap.size → g.fz b o
/-- what a piece of the run keeps. -/
structure Ext (A : Nat → Prop) (g : Gh) (w : World) (g' : Gh) (w' : World) : Prop extends Later g w g' w' where
  size : w.heap.size ≤ w'.heap.size
  keep : ∀ b, b < w.heap.size → ¬ A b → w'.heap[b]? = w.heap[b]?
  nfz : ∀ b o, g'.fz b o → g.fz b o ∨ A b
theorem Ext.refl (A : Nat → Prop) (g : Gh) (w : World) : Ext A g w g w := { Later.refl g w with size := Nat.le_refl _, keep := fun _ _ _ => rfl, nfz := fun _ _ h => .inl h }
theorem Ext.trans {A : Nat → Prop} {g1 g2 g3 : Gh} {w1 w2 w3 : World} (h : Ext A g1 w1 g2 w2) (k : Ext A g2 w2 g3 w3) : Ext A g1 w1 g3 w3 :=
  { h.toLater.trans k.toLater with
    size := Nat.le_trans h.size k.size
    keep := fun b hb hA => (k.keep b (Nat.lt_of_lt_of_le hb h.size) hA).trans (h.keep b hb hA)
    nfz := fun b o hf => (k.nfz b o hf).elim (fun h' => h.nfz b o h') .inr }
theorem ObRep.later {g g' : Gh} {w w' : World} {b cp : Nat} {o : Ob} (hL : Later g w g' w') (hb : w'.heap[b]? = w.heap[b]?) (hf : ∀ q, g'.fz b q → g.fz b q) (h : ObRep g w b cp o) : ObRep g' w' b cp o := by
  cases o with
  | arr sz rows fz ex =>
    obtain ⟨cs, ty, h1, h2, h3, h4, h5, h6, h7⟩ := h
    refine ⟨cs, ty, hb.trans h1, h2, h3, h4, fun i row hr => ⟨(h5 i row hr).1, fun j a ha => ?_⟩, h6, fun q => ⟨fun hq => (h7 q).1 (hf q hq), fun hq => hL.fz _ _ ((h7 q).2 hq)⟩⟩
    obtain ⟨x, hx, hrx⟩ := (h5 i row hr).2 j a ha
    exact ⟨x, hx, hrx.later hL⟩
  | mp es =>
    obtain ⟨entries, clock, h1, h2, h3⟩ := h
    refine ⟨entries, clock, hb.trans h1, h2, fun i k a ha => ?_⟩
    obtain ⟨e, he, hk, hr⟩ := h3 i k a ha
    exact ⟨e, he, hk, hr.later hL⟩
  | lp st pend tm ps assign body =>
    obtain ⟨L, h1, h2, h3, h4, h5, h6, h7, h8⟩ := h
    exact ⟨L, hb.trans h1, h2, h3, h4, h5, h6, fun t ht => (h7 t ht).later hL, h8⟩
  | df => exact hb.trans h
  | si s pos => exact hb.trans h
/-- the world after a step: what is owed. -/
theorem St.next {w0 : World} {A : Nat → Prop} {g g' : Gh} {S S' : Store} {w w' : World} (hS : St w0 A g S w) (hE : Ext A g w g' w') (hos : w'.os = w.os) (ht : w'.tape = w.tape) (hout : w'.output = w.output) (al : ∀ k, g'.al k → k < S'.nx)
    (obs : ∀ k o, S'.get k = some o → g'.al k → A (g'.ob k) ∧ g'.ob k < w'.heap.size ∧ ObRep g' w' (g'.ob k) (g'.cp k) o) (inj : ∀ j k o p, S'.get j = some o → S'.get k = some p → g'.al j → g'.al k → g'.ob j = g'.ob k → j = k)
    (fzlt : ∀ b o, g'.fz b o → b < w'.heap.size) : St w0 A g' S' w' :=
  ⟨⟨hos.trans hS.base.os, ht.trans hS.base.tape, hout.trans hS.base.output, Nat.le_trans hS.base.size hE.size, fun k hk =>
      (hE.keep k (Nat.lt_of_lt_of_le hk hS.base.size) (fun hA => absurd (hS.lo k hA) (by omega))).trans (hS.base.block k hk)⟩,
    fun b hb => hS.up b (Nat.le_trans hE.size hb), hS.lo, al, obs, inj, fzlt, fun b o hb => hE.fz b o (hS.fz0 b o hb)⟩
/-- forgetting objects, and objects that have not been made yet. -/
theorem St.forget {w0 : World} {A : Nat → Prop} {g : Gh} {S S' : Store} {w : World} (hS : St w0 A g S w) (hn : S.nx ≤ S'.nx) (h : ∀ k o, S'.get k = some o → g.al k → S.get k = some o) : St w0 A g S' w :=
  ⟨hS.base, hS.up, hS.lo, fun k hk => Nat.lt_of_lt_of_le (hS.al k hk) hn, fun k o hk ha => hS.obs k o (h k o hk ha) ha, fun j k o p hj hk aj ak => hS.inj j k o p (h j o hj aj) (h k p hk ak) aj ak, hS.fzlt, hS.fz0⟩
theorem St.weak {w0 : World} {A : Nat → Prop} {g : Gh} {S S' : Store} {w : World} (hS : St w0 A g S w) (hn : S.nx ≤ S'.nx) (h : ∀ k o', S'.get k = some o' → g.al k → ∃ o, S.get k = some o ∧ (ObRep g w (g.ob k) (g.cp k) o → ObRep g w (g.ob k) (g.cp k) o')) : St w0 A g S' w :=
  ⟨hS.base, hS.up, hS.lo, fun k hk => Nat.lt_of_lt_of_le (hS.al k hk) hn, fun k o hk ha => let ⟨o0, h1, h2⟩ := h k o hk ha; let ⟨a1, a2, a3⟩ := hS.obs k o0 h1 ha; ⟨a1, a2, h2 a3⟩,
    fun j k o p hj hk aj ak => let ⟨_, h1, _⟩ := h j o hj aj; let ⟨_, h2, _⟩ := h k p hk ak; hS.inj j k _ _ h1 h2 aj ak, hS.fzlt, hS.fz0⟩
theorem heap_push_lt {w : World} {o : Obj} {b : Nat} (h : b < w.heap.size) : (w.alloc o).heap[b]? = w.heap[b]? := Below.heap_alloc w o b h
theorem heap_push_new {w : World} {o : Obj} : (w.alloc o).heap[w.heap.size]? = some o := by
  show (w.heap.push o)[w.heap.size]? = _
  simp
theorem size_alloc {w : World} {o : Obj} : (w.alloc o).heap.size = w.heap.size + 1 := by
  show (w.heap.push o).size = _
  simp
def Gh.new (g : Gh) (k b cp : Nat) : Gh := ⟨upd g.ob k b, upd g.cp k cp, fun j => g.al j ∨ j = k, g.fz⟩
/-- a new block that is the object k. -/
theorem St.newAt {w0 : World} {A : Nat → Prop} {g : Gh} {S : Store} {w : World} (hS : St w0 A g S w) (o : Obj) {k : Nat} (hna : ¬ g.al k) (hlt : k < S.nx) (cp : Nat)
    (hob : ∀ ob, S.get k = some ob → Later g w (g.new k w.heap.size cp) (w.alloc o) → ObRep (g.new k w.heap.size cp) (w.alloc o) w.heap.size cp ob) :
    Ext A g w (g.new k w.heap.size cp) (w.alloc o) ∧ St w0 A (g.new k w.heap.size cp) S (w.alloc o) := by
  have hne : ∀ j, g.al j → j ≠ k := fun j hj e => hna (e ▸ hj)
  have hob1 : ∀ j, g.al j → (g.new k w.heap.size cp).ob j = g.ob j := fun j hj => upd_other _ _ (hne j hj)
  have hcp1 : ∀ j, g.al j → (g.new k w.heap.size cp).cp j = g.cp j := fun j hj => upd_other _ _ (hne j hj)
  have e1 : (g.new k w.heap.size cp).ob k = w.heap.size := upd_same _ _ _
  have e2 : (g.new k w.heap.size cp).cp k = cp := upd_same _ _ _
  have hL : Later g w (g.new k w.heap.size cp) (w.alloc o) := ⟨fun j hj => .inl hj, hob1, hcp1, fun _ _ h => h, fun b q hf => World.cell?_of_block (heap_push_lt (hS.fzlt b q hf))⟩
  have hE : Ext A g w (g.new k w.heap.size cp) (w.alloc o) := { hL with size := by rw [size_alloc]; omega, keep := fun b hb _ => heap_push_lt hb, nfz := fun _ _ h => .inl h }
  refine ⟨hE, hS.next hE rfl rfl rfl (fun j hj => hj.elim (hS.al j) fun e => by omega) (fun j p hj ha => ?_) (fun i j p q hi hj ai aj e => ?_) (fun b q hf => ?_)⟩
  · rcases ha with ha | rfl
    · obtain ⟨h2, h3, h4⟩ := hS.obs j p hj ha
      rw [hob1 j ha, hcp1 j ha]
      exact ⟨h2, by rw [size_alloc]; omega, h4.later hL (heap_push_lt h3) (fun _ h => h)⟩
    · rw [e1, e2]
      exact ⟨hS.up _ (Nat.le_refl _), by rw [size_alloc]; omega, hob p hj hL⟩
  · rcases ai with ai | rfl <;> rcases aj with aj | rfl
    · rw [hob1 i ai, hob1 j aj] at e
      exact hS.inj i j p q hi hj ai aj e
    · have := (hS.obs i p hi ai).2.1
      rw [hob1 i ai, e1] at e
      omega
    · have := (hS.obs j q hj aj).2.1
      rw [hob1 j aj, e1] at e
      omega
    · rfl
  · have := hS.fzlt b q hf
    rw [size_alloc]
    omega
/-- a new object. -/
theorem St.new {w0 : World} {A : Nat → Prop} {g : Gh} {S : Store} {w : World} (hS : St w0 A g S w) (o : Obj) (ob : Ob) (cp : Nat)
    (hob : Later g w (g.new S.nx w.heap.size cp) (w.alloc o) → ObRep (g.new S.nx w.heap.size cp) (w.alloc o) w.heap.size cp ob) :
    Ext A g w (g.new S.nx w.heap.size cp) (w.alloc o) ∧ St w0 A (g.new S.nx w.heap.size cp) ⟨upd S.get S.nx (some ob), S.nx + 1⟩ (w.alloc o) := by
  have hna : ¬ g.al S.nx := fun h => absurd (hS.al _ h) (Nat.lt_irrefl _)
  have h1 : St w0 A g ⟨upd S.get S.nx (some ob), S.nx + 1⟩ w := hS.forget (Nat.le_succ _) fun k p hk ha => by
    have hk : upd S.get S.nx (some ob) k = some p := hk
    have hne : k ≠ S.nx := fun e => hna (by rw [← e]; exact ha)
    rwa [upd_other _ _ hne] at hk
  exact h1.newAt o hna (Nat.lt_succ_self _) cp fun p hp hL => by
    have hp : upd S.get S.nx (some ob) S.nx = some p := hp
    rw [upd_same] at hp
    obtain rfl := Option.some.inj hp
    exact hob hL
def Gh.ice (g : Gh) (b : Nat) : Gh := ⟨g.ob, g.cp, g.al, fun c q => g.fz c q ∨ c = b⟩
/-- a new block that never changes. -/
theorem St.ice {w0 : World} {A : Nat → Prop} {g : Gh} {S : Store} {w : World} (hS : St w0 A g S w) (o : Obj) :
    Ext A g w (g.ice w.heap.size) (w.alloc o) ∧ St w0 A (g.ice w.heap.size) S (w.alloc o) := by
  have hL : Later g w (g.ice w.heap.size) (w.alloc o) := ⟨fun _ h => h, fun _ _ => rfl, fun _ _ => rfl, fun _ _ h => .inl h, fun b q hf => World.cell?_of_block (heap_push_lt (hS.fzlt b q hf))⟩
  have hE : Ext A g w (g.ice w.heap.size) (w.alloc o) := { hL with size := by rw [size_alloc]; omega, keep := fun b hb _ => heap_push_lt hb, nfz := fun b _ h => h.elim .inl fun e => .inr (by rw [e]; exact hS.up _ (Nat.le_refl _)) }
  refine ⟨hE, hS.next hE rfl rfl rfl hS.al (fun k p hk ha => ?_) hS.inj (fun b q hf => ?_)⟩
  · obtain ⟨h2, h3, h4⟩ := hS.obs k p hk ha
    exact ⟨h2, by rw [size_alloc]; exact Nat.lt_succ_of_lt h3, h4.later hL (heap_push_lt h3) (fun q hq => hq.elim id fun e => absurd e (Nat.ne_of_lt h3))⟩
  · rw [size_alloc]
    rcases hf with hf | rfl
    · exact Nat.lt_succ_of_lt (hS.fzlt b q hf)
    · exact Nat.lt_succ_self _
/-- the cells of an object are written. -/
theorem St.row {w0 : World} {A : Nat → Prop} {g : Gh} {S : Store} {w : World} (hS : St w0 A g S w) {k : Nat} {o ob : Ob} (hk : S.get k = some o) (ha : g.al k) {cs cs' : Array Value} {ty : TypeId} (hc : w.heap[g.ob k]? = some (.cells cs ty (0, 0)))
    (hz : ∀ q, g.fz (g.ob k) q → cs'[q]? = cs[q]?) (hob : Later g w g (w.setRow (g.ob k) cs') → ObRep g (w.setRow (g.ob k) cs') (g.ob k) (g.cp k) ob) :
    Ext A g w g (w.setRow (g.ob k) cs') ∧ St w0 A g (S.set k (some ob)) (w.setRow (g.ob k) cs') := by
  obtain ⟨k2, k3, k4⟩ := hS.obs k o hk ha
  have hsz : (w.setRow (g.ob k) cs').heap.size = w.heap.size := by simp [World.setRow]
  have hcell : ∀ b q, g.fz b q → (w.setRow (g.ob k) cs').cell? ⟨b, q, none⟩ = w.cell? ⟨b, q, none⟩ := by
    intro b q hf
    by_cases e : b = g.ob k
    · subst e
      rw [cell_of_row _ _ q cs' ty (0, 0) (setRow_heap w _ cs cs' ty (0, 0) hc), cell_of_row _ _ q cs ty (0, 0) hc]
      exact hz q hf
    · exact World.cell?_of_block (setRow_other w _ b cs' e)
  have hL : Later g w g (w.setRow (g.ob k) cs') := ⟨fun _ h => h, fun _ _ => rfl, fun _ _ => rfl, fun _ _ h => h, hcell⟩
  have hE : Ext A g w g (w.setRow (g.ob k) cs') := { hL with size := by rw [hsz]; exact Nat.le_refl _, keep := fun b hb hA => setRow_other w _ b cs' (fun e => hA (by rw [e]; exact k2)), nfz := fun _ _ h => .inl h }
  have key : ∀ l r, (S.set k (some ob)).get l = some r → ∃ r', S.get l = some r' := by
    intro l r hl
    by_cases e : l = k
    · exact ⟨o, by rw [e]; exact hk⟩
    · have hl : upd S.get k (some ob) l = some r := hl
      rw [upd_other _ _ e] at hl
      exact ⟨r, hl⟩
  refine ⟨hE, hS.next hE rfl rfl rfl hS.al (fun j p hj aj => ?_) (fun i j p q hi hj ai aj e => ?_) (fun b q hf => by rw [hsz]; exact hS.fzlt b q hf)⟩
  · by_cases e : j = k
    · subst e
      have hj : upd S.get j (some ob) j = some p := hj
      rw [upd_same] at hj
      obtain rfl := Option.some.inj hj
      exact ⟨k2, by rw [hsz]; exact k3, hob hL⟩
    · have hj : upd S.get k (some ob) j = some p := hj
      rw [upd_other _ _ e] at hj
      obtain ⟨h2, h3, h4⟩ := hS.obs j p hj aj
      exact ⟨h2, by rw [hsz]; exact h3, h4.later hL (setRow_other w _ _ cs' (fun e' => e (hS.inj j k p o hj hk aj ha e'))) (fun _ h => h)⟩
  · obtain ⟨p', hp⟩ := key i p hi
    obtain ⟨q', hq⟩ := key j q hj
    exact hS.inj i j p' q' hp hq ai aj e
def Gh.fre (g : Gh) (b l : Nat) : Gh := ⟨g.ob, g.cp, g.al, fun c q => g.fz c q ∨ (c = b ∧ q < l)⟩
/-- the first m elements of an object do not change any more. -/
theorem St.freeze {w0 : World} {A : Nat → Prop} {g : Gh} {S : Store} {w : World} (hS : St w0 A g S w) {k sz fz m : Nat} {rows : List (List AV)} {ex : Bool} (hk : S.get k = some (.arr sz rows fz ex)) (ha : g.al k) (hm : fz ≤ m) (hle : m ≤ rows.length) :
    Ext A g w (g.fre (g.ob k) (m * sz)) w ∧ St w0 A (g.fre (g.ob k) (m * sz)) (S.set k (some (.arr sz rows m ex))) w := by
  obtain ⟨k2, k3, k4⟩ := hS.obs k _ hk ha
  have hL : Later g w (g.fre (g.ob k) (m * sz)) w := ⟨fun _ h => h, fun _ _ => rfl, fun _ _ => rfl, fun _ _ h => .inl h, fun _ _ _ => rfl⟩
  have hE : Ext A g w (g.fre (g.ob k) (m * sz)) w := { hL with size := Nat.le_refl _, keep := fun _ _ _ => rfl, nfz := fun b _ h => h.elim .inl fun e => .inr (by rw [e.1]; exact k2) }
  have key : ∀ l r, (S.set k (some (.arr sz rows m ex))).get l = some r → (l = k ∧ r = .arr sz rows m ex) ∨ (l ≠ k ∧ S.get l = some r) := by
    intro l r hl
    have hl : upd S.get k (some (.arr sz rows m ex)) l = some r := hl
    by_cases e : l = k
    · subst e
      rw [upd_same] at hl
      exact .inl ⟨rfl, (Option.some.inj hl).symm⟩
    · rw [upd_other _ _ e] at hl
      exact .inr ⟨e, hl⟩
  refine ⟨hE, hS.next hE rfl rfl rfl hS.al (fun j p hj aj => ?_) (fun i j p q hi hj ai aj e => ?_) (fun b q hf => hf.elim (hS.fzlt b q) fun e => by rw [e.1]; exact k3)⟩
  · rcases key j p hj with ⟨rfl, rfl⟩ | ⟨hne, hj⟩
    · refine ⟨k2, k3, ?_⟩
      obtain ⟨cs, ty, h1, h2, h3, h4, h5, h6, h7⟩ := k4
      refine ⟨cs, ty, h1, h2, h3, h4, fun i row hr => ⟨(h5 i row hr).1, fun q a hq => let ⟨x, hx, hr⟩ := (h5 i row hr).2 q a hq; ⟨x, hx, hr.later hL⟩⟩, hle, fun q => ⟨fun hq => ?_, fun hq => .inr ⟨rfl, hq⟩⟩⟩
      rcases hq with hq | hq
      · exact Nat.lt_of_lt_of_le ((h7 q).1 hq) (Nat.mul_le_mul_right sz hm)
      · exact hq.2
    · obtain ⟨h2, h3, h4⟩ := hS.obs j p hj aj
      exact ⟨h2, h3, h4.later hL rfl (fun q hq => hq.elim id fun e => absurd (hS.inj j k p _ hj hk aj ha e.1) hne)⟩
  · rcases key i p hi with ⟨rfl, _⟩ | ⟨h1, hi2⟩ <;> rcases key j q hj with ⟨rfl, _⟩ | ⟨h2, hj2⟩
    · rfl
    · exact hS.inj i j _ q hk hj2 ai aj e
    · exact hS.inj i j p _ hi2 hk ai aj e
    · exact hS.inj i j p q hi2 hj2 ai aj e
/-- a draw changes nothing. -/
theorem St.drew {w0 : World} {A : Nat → Prop} {g : Gh} {S : Store} {w : World} (hS : St w0 A g S w) : Ext A g w g w.drew ∧ St w0 A g S w.drew := by
  have hL : Later g w g w.drew := ⟨fun _ h => h, fun _ _ => rfl, fun _ _ => rfl, fun _ _ h => h, fun _ _ _ => rfl⟩
  have hE : Ext A g w g w.drew := { hL with size := Nat.le_refl _, keep := fun _ _ _ => rfl, nfz := fun _ _ h => .inl h }
  exact ⟨hE, hS.next hE rfl rfl rfl hS.al (fun k p hk ha => let ⟨h2, h3, h4⟩ := hS.obs k p hk ha; ⟨h2, h3, h4.later hL rfl (fun _ h => h)⟩) hS.inj hS.fzlt⟩
end Go.Proofs.YtahhaiomdjlckaaDoor
