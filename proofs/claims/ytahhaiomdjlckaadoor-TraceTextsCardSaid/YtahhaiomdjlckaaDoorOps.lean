/-
  The operations over values without addresses: what each gives, and what is owed for it.
-/
import Derived.Test.YtahhaiomdjlckaaDoorBig
namespace Go.Proofs.YtahhaiomdjlckaaDoor
set_option linter.unusedVariables false
set_option linter.unusedSimpArgs false
open Go.RowKit

/-- a part that may or may not be there. -/
def gotA {α : Type} (o : Option α) (K : α → Prop) : Prop := match o with | some a => K a | none => False
theorem gotA.out {α : Type} {o : Option α} {K : α → Prop} (h : gotA o K) : ∃ a, o = some a ∧ K a := by
  cases o with
  | none => exact h.elim
  | some a => exact ⟨a, rfl, h⟩
theorem gotA.mk {α : Type} {o : Option α} {K : α → Prop} {a : α} (h : o = some a) (k : K a) : gotA o K := by subst h; exact k
def aggT (P : Program) (t : TypeId) : Option Bool :=
  match P.underlying t with
  | some (.struct _) | some (.array _ _) => some true
  | some _ => some false
  | none => none
def szT (P : Program) (t : TypeId) : Option Nat := (P.info? t).map (·.size)
def bytesT (P : Program) (t : TypeId) : Option Nat := (P.info? t).map (·.bytes)
def zeroT (P : Program) (t : TypeId) : Option Value := (P.info? t).bind (·.zero)
/-- n cells from j on. -/
def cutL (row : List AV) (j n : Nat) : List AV := match j, Nat.beq n row.length with | 0, true => row | _, _ => (row.drop j).take n
def loadR (P : Program) (t : TypeId) (row : List AV) (j : Nat) : Option AV :=
  match aggT P t, szT P t with
  | some true, some n => match Nat.ble (j + n) row.length with | true => some (.agg (cutL row j n)) | false => none
  | some false, _ => row[j]?
  | _, _ => none
def loadA (P : Program) (S : Store) (t : TypeId) : AV → Option AV
  | .ip row => loadR P t row 0
  | .pt k sz i j => match S.get k with
    | some (.arr sz' rows _ _) => match Nat.beq sz sz' with
      | true => match rows[i]? with
        | some row => loadR P t row j
        | none => none
      | false => none
    | _ => none
  | _ => none
def cellsA : AV → List AV
  | .agg l => l
  | a => [a]
def isCell : AV → Bool
  | .v x => x.oneCell'
  | .agg _ | .tup _ | .u => false
  | _ => true
/-- cells laid over a row from j on. -/
def layL (row : List AV) (j : Nat) (cs : List AV) : List AV := match j, Nat.beq cs.length row.length with | 0, true => cs | _, _ => row.take j ++ cs ++ row.drop (j + cs.length)
def storeA (P : Program) (S : Store) (t : TypeId) (b : AV) : AV → Option Store
  | .pt k sz i j => match S.get k with
    | some (.arr sz' rows 0 ex) => match Nat.beq sz sz' && (cellsA b).all isCell && (match szT P t with | some n => Nat.beq n (cellsA b).length | none => false) with
      | true => match rows[i]? with
        | some row => match Nat.ble (j + (cellsA b).length) row.length with
          | true => some (S.set k (some (.arr sz (rows.set i (layL row j (cellsA b))) 0 ex)))
          | false => none
        | none => none
      | false => none
    | _ => none
  | _ => none
def Store.new (S : Store) (o : Ob) : Store := ⟨upd S.get S.nx (some o), S.nx + 1⟩
def boxA (S : Store) (cs : List AV) : AV × Store := (.pt S.nx cs.length 0 0, S.new (Ob.arr cs.length [cs] 0 true))
/-- a struct or an array out of parts. -/
def fillA (place : Nat → Option (Nat × Nat)) : List AV → List (Nat × AV) → Option (List AV)
  | cells, [] => some cells
  | cells, (i, a) :: rest => match place i with
    | some (off, size) => match Nat.beq (cellsA a).length size && Nat.ble (off + size) cells.length && (cellsA a).all isCell with
      | true => fillA place (layL cells off (cellsA a)) rest
      | false => none
    | none => none
def placeS (P : Program) (fs : Array Field) (i : Nat) : Option (Nat × Nat) :=
  match fs[i]? with
  | some f => match szT P f.type with | some n => some (f.offset, n) | none => none
  | none => none
def buildA (P : Program) (t : TypeId) (parts : List (Nat × AV)) : Option AV :=
  match zeroT P t with
  | some (.agg cs) => match P.underlying t with
    | some (.struct fs) => match fs.toList.all fun f => (szT P f.type).isSome with
      | true => (fillA (placeS P fs) (cs.toList.map lift1) parts).map .agg
      | false => none
    | some (.array _ e) => match szT P e with
      | some n => (fillA (fun i => some (i * n, n)) (cs.toList.map lift1) parts).map .agg
      | none => none
    | _ => none
  | _ => none
/-- the elements of a slice literal. -/
def rowsF (size : Nat) : List (List AV) → List (Nat × AV) → Option (List (List AV))
  | rows, [] => some rows
  | rows, (i, a) :: rest => match Nat.beq (cellsA a).length size && Nat.blt i rows.length && (cellsA a).all isCell with
    | true => rowsF size (rows.set i (cellsA a)) rest
    | false => none
def idx {α : Type} (rows : List α) (i : Int) : Option α := if 0 ≤ i then rows[i.toNat]? else none
theorem idx_nat {α : Type} {rows : List α} {k : Nat} {x : α} (h : rows[k]? = some x) : idx rows (k : Int) = some x := by
  unfold idx
  rw [if_pos (by omega)]
  simpa using h
/-- the elements that a slice has. -/
def rowsOf (S : Store) : AV → Option (List (List AV))
  | .sl _ rows => some rows
  | .ob k sz off len _ => match S.get k with
    | some (.arr sz' rows _ _) => match Nat.beq sz sz' with
      | true => some ((rows.drop off).take len)
      | false => none
    | _ => none
  | _ => none
def lenA : AV → Option Nat
  | .sl _ rows => some rows.length
  | .ob _ _ _ len _ => some len
  | .v (.string s) => some s.size
  | _ => none
def isStr : AV → Bool
  | .v (.string _) => true
  | _ => false
/-- two values of one kind under an operator that owes nothing. -/
def binV (P : Program) (op : BinOp) (t : TypeId) : Value → Value → Option Value
  | .int k a, .int k' b => match decide (k = k') with
    | true => match op with
      | .eql => some (.bool (a == b))
      | .neq => some (.bool (a != b))
      | .lss => some (.bool (decide (a < b)))
      | .leq => some (.bool (decide (a ≤ b)))
      | .gtr => some (.bool (decide (a > b)))
      | .geq => some (.bool (decide (a ≥ b)))
      | _ => none
    | false => none
  | .string a, .string b => match op with
    | .eql => some (.bool (a.toList == b.toList))
    | .neq => some (.bool (!(a.toList == b.toList)))
    | .lss => some (.bool (Op.bytesLess a.toList b.toList))
    | .leq => some (.bool (Op.bytesLess a.toList b.toList || a.toList == b.toList))
    | .gtr => some (.bool (!(Op.bytesLess a.toList b.toList || a.toList == b.toList)))
    | .geq => some (.bool (!Op.bytesLess a.toList b.toList))
    | _ => none
  | .bool a, .bool b => match P.underlying t with
    | some .bool => match op with
      | .eql => some (.bool (a == b))
      | .neq => some (.bool (!(a == b)))
      | _ => none
    | _ => none
  | _, _ => none
/-- sums, differences, products: the result is named, and owed to be in its range. -/
def arith : BinOp → Int → Int → Option Int
  | .add, a, b => some (a + b)
  | .sub, a, b => some (a - b)
  | .mul, a, b => some (a * b)
  | _, _, _ => none
/-- the length that is asked for a type. -/
def lenOf (P : Program) (t : TypeId) (a : AV) : Option Nat := match P.underlying t, isStr a, lenA a with
  | some (.slice _), false, some m => some m
  | some .string, true, some m => some m
  | _, _, _ => none
def arrOf (S : Store) (k : Nat) : Option (Nat × List (List AV) × Nat × Bool) := match S.get k with
  | some (.arr sz rows fz ex) => some (sz, rows, fz, ex)
  | _ => none
theorem arrOf_some {S : Store} {k sz fz : Nat} {rows : List (List AV)} {ex : Bool} (h : arrOf S k = some (sz, rows, fz, ex)) : S.get k = some (.arr sz rows fz ex) := by
  unfold arrOf at h
  split at h
  · rename_i e
    rw [e]
    injection h with h
    injection h with h1 h
    injection h with h2 h
    injection h with h3 h4
    subst h1 h2 h3 h4
    rfl
  · cases h
theorem arrOf_of {S : Store} {k sz fz : Nat} {rows : List (List AV)} {ex : Bool} (h : S.get k = some (.arr sz rows fz ex)) : arrOf S k = some (sz, rows, fz, ex) := by
  unfold arrOf
  rw [h]
def callK (P : Program) (w0 : World) (K : AV → Store → Prop) (S : Store) (args : List AV) : AV → Prop
  | .v (.func (.func g) first cap) => match first.toList, cap.toList with
    | [], [] => ∃ r S', Cal P w0 g args S r S' ∧ K r S'
    | _, _ => False
  | .fn (.func g) first cap => ∃ r S', Cal P w0 g (first ++ args ++ cap) S r S' ∧ K r S'
  | .yl k => ∃ r S', Rnd P w0 k args S r S' ∧ K r S'
  | _ => False
def appendK (P : Program) (e : TypeId) (K : AV → Store → Prop) (S : Store) (more : List (List AV)) : AV → Prop
  | .sl true rows => match more with
    | [] => K (.sl true rows) S
    | x :: more => match szT P e, bytesT P e with
      | some sz, some by_ => match Nat.blt 0 by_ with
        | true => (∀ row ∈ rows, row.length = sz) ∧ (∀ row ∈ x :: more, row.length = sz) ∧ (rows.length + (x :: more).length) * by_ ≤ 35184372088832 ∧
          K (.ob S.nx sz 0 (rows.length + (x :: more).length) none) (S.new (.arr sz (rows ++ x :: more) 0 false))
        | false => False
      | _, _ => False
  | .ob k sz 0 len none => gotA (arrOf S k) fun o => match o with
    | (sz', rows, fz, ex) => match more with
      | [] => K (.ob k sz 0 len none) S
      | x :: more => match szT P e, bytesT P e with
        | some sz2, some by_ => match Nat.beq sz' sz && Nat.beq sz2 sz && Nat.blt 0 by_ with
          | true => fz ≤ len ∧ len ≤ rows.length ∧ (∀ row ∈ x :: more, row.length = sz ∧ row.all isCell = true) ∧ (len + (x :: more).length) * by_ ≤ 35184372088832 ∧
            K (.ob S.nx sz 0 (len + (x :: more).length) none) ((S.set k none).new (.arr sz (rows.take len ++ x :: more) fz false))
          | false => False
        | _, _ => False
  | .ob k sz off len (some c) => gotA (arrOf S k) fun o => match o with
    | (sz', rows, fz, ex) => match more with
      | [] => K (.ob k sz off len (some c)) S
      | x :: more => match szT P e, bytesT P e with
        | some sz2, some by_ => match Nat.beq sz' sz && Nat.beq sz2 sz && Nat.blt 0 by_ with
          | true => c = len ∧ off + len ≤ rows.length ∧ (∀ row ∈ x :: more, row.length = sz) ∧ (len + (x :: more).length) * by_ ≤ 35184372088832 ∧
            K (.ob S.nx sz 0 (len + (x :: more).length) none) (S.new (.arr sz ((rows.drop off).take len ++ x :: more) 0 false))
          | false => False
        | _, _ => False
  | _ => False
def elemT (P : Program) (t : TypeId) : Option TypeId := match P.underlying t with | some (.slice e) => some e | _ => none
def builtinK (P : Program) (K : AV → Store → Prop) (S : Store) (argTypes : List TypeId) (args : List AV) : Builtin → Prop
  | .len => match argTypes, args with
    | [t], [a] => gotA (lenOf P t a) fun m => K (.v (.int .i64 (m : Int))) S
    | _, _ => False
  | .append => match argTypes, args with
    | [t, t2], [a, b] => match elemT P t, elemT P t2 with
      | some e, some _ => match (match zeroT P e, szT P e with | some z, some sz => Nat.beq z.cells.size sz | _, _ => false) with
        | true => gotA (rowsOf S b) fun more => lenA b = some more.length ∧ appendK P e K S more a
        | false => False
      | _, _ => False
    | _, _ => False
  | .min => match args with
    | [.v (.int k a), .v (.int k' b)] => match decide (k = k') with | true => K (.v (.int k (min a b))) S | false => False
    | _ => False
  | .max => match args with
    | [.v (.int k a), .v (.int k' b)] => match decide (k = k') with | true => K (.v (.int k (max a b))) S | false => False
    | _ => False
  | _ => False
def intA : Option AV → Int → Option Int
  | none, d => some d
  | some (.v (.int _ i)), _ => some i
  | _, _ => none
def sliceK (P : Program) (t : TypeId) (K : AV → Store → Prop) (S : Store) (x : AV) (lo hi mx : Option AV) : Prop :=
  match x, mx with
  | .v (.string s), none => match P.underlying t, intA lo 0, intA hi s.size with
    | some .string, some l, some h => 0 ≤ l ∧ l ≤ h ∧ h ≤ s.size ∧ K (.v (.string (s.extract l.toNat h.toNat))) S
    | _, _, _ => False
  | .sl ex rows, none => match P.underlying t, intA lo 0, intA hi rows.length with
    | some (.slice e), some l, some h => (∀ row ∈ rows, szT P e = some row.length) ∧ (szT P e).isSome ∧ 0 ≤ l ∧ l ≤ h ∧ h ≤ rows.length ∧ K (.sl false ((rows.take h.toNat).drop l.toNat)) S
    | _, _, _ => False
  | .sl ex rows, some (.v (.int _ m)) => match P.underlying t, intA lo 0, hi with
    | some (.slice e), some l, some (.v (.int _ h)) => (∀ row ∈ rows, szT P e = some row.length) ∧ (szT P e).isSome ∧ 0 ≤ l ∧ l ≤ h ∧ h = m ∧ h ≤ rows.length ∧ K (.sl true ((rows.take h.toNat).drop l.toNat)) S
    | _, _, _ => False
  | .ob k sz off len cx, none => match P.underlying t, lo, intA hi len with
    | some (.slice e), none, some h => szT P e = some sz ∧ 0 ≤ h ∧ h ≤ len ∧ K (.ob k sz off h.toNat cx) S
    | some (.slice e), some (.v (.int _ l)), some h => szT P e = some sz ∧ 0 ≤ l ∧ l ≤ h ∧ h ≤ len ∧ (l = h → K (.sl false []) S) ∧ (l < h → K (.ob k sz (off + l.toNat) (h.toNat - l.toNat) (cx.map (· - l.toNat))) S)
    | _, _, _ => False
  | .ob k sz off len cx, some (.v (.int _ m)) => match P.underlying t, intA lo 0, hi with
    | some (.slice e), some l, some (.v (.int _ h)) => szT P e = some sz ∧ l = 0 ∧ h = m ∧ h ≤ len ∧ 0 ≤ h ∧ K (.ob k sz off h.toNat (some h.toNat)) S
    | _, _, _ => False
  | _, _ => False
/-- a choice: with a known bit it is one of both. -/
def br (t : Bool) (X Y : Prop) : Prop := match t with | true => X | false => Y
theorem br.mk {t : Bool} {X Y : Prop} (h : t = true → X) (k : t = false → Y) : br t X Y := by cases t; exact k rfl; exact h rfl
theorem br.t {t : Bool} {X Y : Prop} (e : t = true) (h : X) : br t X Y := by subst e; exact h
theorem br.f {t : Bool} {X Y : Prop} (e : t = false) (h : Y) : br t X Y := by subst e; exact h
def gd (want t : Bool) (X Y : Prop) : Prop := match want with | true => br t X Y | false => br t Y X
def siOf (S : Store) (k : Nat) : Option (ByteArray × Nat) := match S.get k with
  | some (.si s pos) => some (s, pos)
  | _ => none
theorem siOf_some {S : Store} {k pos : Nat} {s : ByteArray} (h : siOf S k = some (s, pos)) : S.get k = some (.si s pos) := by
  unfold siOf at h
  split at h
  · rename_i e
    rw [e]
    injection h with h
    injection h with h1 h2
    subst h1 h2
    rfl
  · cases h
/-- the bit of a comparison is named. -/
def boK (v : Value) (K : Value → Prop) : Prop := match v with | .bool b => ∃ d, b = d ∧ K (.bool d) | v => K v
theorem boK.out {v : Value} {K : Value → Prop} (h : boK v K) : K v := by
  unfold boK at h
  split at h
  · obtain ⟨d, rfl, h⟩ := h; exact h
  · exact h
theorem boK.mk {v : Value} {K : Value → Prop} (h : K v) : boK v K := by
  unfold boK
  split
  · exact ⟨_, rfl, h⟩
  · exact h
/-- one operation, and what comes behind it. -/
def opK (P : Program) (w0 : World) (o : Op) (α : AA) (S : Store) (K : AV → Store → Prop) : Prop :=
  match o with
  | .move x | .assign x => K (α.ev x) S
  | .pick c a b => match α.ev c with
    | .v (.bool t) => br t (K (α.ev a) S) (K (α.ev b) S)
    | _ => False
  | .alloc e => match zeroT P e with
    | some z => K (boxA S (z.cells.toList.map lift1)).1 (boxA S (z.cells.toList.map lift1)).2
    | none => False
  | .box _ x => match (cellsA (α.ev x)).all isCell with
    | true => K (boxA S (cellsA (α.ev x))).1 (boxA S (cellsA (α.ev x))).2
    | false => False
  | .build t parts => match buildA P t (parts.toList.map fun (i, x) => (i, α.ev x)) with
    | some a => K a S
    | none => False
  | .buildSlice t len parts => match elemT P t with
    | some e => match zeroT P e, szT P e with
      | some z, some n => match Nat.ble (len * n) 16777216 && Nat.beq z.cells.size n && Nat.blt 0 n with
        | true => match rowsF n (List.replicate len (z.cells.toList.map lift1)) (parts.toList.map fun (i, x) => (i, α.ev x)) with
          | some rows => K (.sl true rows) S
          | none => False
        | false => False
      | _, _ => False
    | none => False
  | .load t x => gotA (loadA P S t (α.ev x)) fun a => K a S
  | .store t x b => gotA (storeA P S t (α.ev b) (α.ev x)) fun S' => K (.v undef) S'
  | .binOp op t x y _ => match α.ev x, α.ev y with
    | .v (.int k a), .v (.int k' b) => match arith op a b with
      | some c => match decide (k = k') with | true => ∃ d, k.wrap c = d ∧ K (.v (.int k d)) S | false => False
      | none => match binV P op t (.int k a) (.int k' b) with
        | some v => boK v fun v => K (.v v) S
        | none => False
    | .v (.string a), .v (.string b) => match op with
      | .add => a.size + b.size ≤ 9223372036854775807 ∧ K (.v (.string (a ++ b))) S
      | _ => match binV P op t (.string a) (.string b) with
        | some v => boK v fun v => K (.v v) S
        | none => False
    | .v a, .v b => match binV P op t a b with
      | some v => boK v fun v => K (.v v) S
      | none => False
    | _, _ => False
  | .unOp op _ x => match op, α.ev x with
    | .not, .v (.bool b) => K (.v (.bool (!b))) S
    | .neg, .v (.int k a) => ∃ d, k.wrap (0 - a) = d ∧ K (.v (.int k d)) S
    | _, _ => False
  | .convert src dst x => match P.underlying src, P.underlying dst, α.ev x with
    | some (.int _), some (.int k), .v (.int _ a) => ∃ d, k.wrap a = d ∧ K (.v (.int k d)) S
    | some .string, some .string, .v (.string s) => K (.v (.string s)) S
    | _, _, _ => False
  | .fieldAddr s x f => match P.underlying s with
    | some (.struct fs) => match fs[f]? with
      | some fd => match szT P fd.type with
        | some (_ + 1) => match α.ev x with
          | .ip row => K (.ip (row.drop fd.offset)) S
          | .pt k sz i j => K (.pt k sz i (j + fd.offset)) S
          | _ => False
        | _ => False
      | none => False
    | _ => False
  | .field t x f => match P.underlying t with
    | some (.struct fs) => match fs[f]? with
      | some fd => match α.ev x with
        | .agg l => gotA (loadR P fd.type l fd.offset) fun a => K a S
        | _ => False
      | none => False
    | _ => False
  | .indexAddr t x i => match P.underlying t, α.ev x, α.ev i with
    | some (.slice e), .sl _ rows, .v (.int _ k) => match szT P e with
      | some n => gotA (idx rows k) fun row => (∀ r ∈ rows, r.length = n) ∧ K (.ip row) S
      | none => False
    | some (.slice e), .ob k sz off len _, .v (.int _ i) => szT P e = some sz ∧ 0 ≤ i ∧ i < len ∧ K (.pt k sz (off + i.toNat) 0) S
    | some (.array len e), .pt k sz i j, .v (.int _ q) => match szT P e with
      | some n => 0 ≤ q ∧ q < len ∧ K (.pt k sz i (j + q.toNat * n)) S
      | none => False
    | some (.array len e), .ip row, .v (.int _ q) => match szT P e with
      | some n => 0 ≤ q ∧ q < len ∧ K (.ip (row.drop (q.toNat * n))) S
      | none => False
    | _, _, _ => False
  | .index t x i => match P.underlying t, α.ev x, α.ev i with
    | some .string, .v (.string s), .v (.int _ k) => gotA (idx s.data.toList k) fun b => K (.v (.int .u8 b.toNat)) S
    | some (.array len e), .agg l, .v (.int _ q) => match szT P e with
      | some n => gotA (loadR P e l (q.toNat * n)) fun a => 0 ≤ q ∧ q < len ∧ K a S
      | none => False
    | _, _, _ => False
  | .slice t x lo hi mx => sliceK P t K S (α.ev x) (lo.map α.ev) (hi.map α.ev) (mx.map α.ev)
  | .extract x i => match α.ev x with
    | .tup l => match l[i]? with
      | some a => K a S
      | none => False
    | _ => False
  | .makeSlice t l c => match elemT P t, α.ev l, α.ev c with
    | some e, .v (.int _ a), .v (.int _ b) => match zeroT P e, szT P e, bytesT P e with
      | some z, some sz, some by_ => match Nat.beq z.cells.size sz && Nat.blt 0 sz with
        | true => 0 ≤ a ∧ a = b ∧ a * by_ ≤ 35184372088832 ∧ a ≤ 9223372036854775807 ∧ K (.ob S.nx sz 0 a.toNat none) (S.new (.arr sz (List.replicate a.toNat (z.cells.toList.map lift1)) 0 true))
        | false => False
      | _, _, _ => False
    | _, _, _ => False
  | .range t x => match P.underlying t, α.ev x with
    | some .string, .v (.string s) => K (.pt S.nx 0 0 0) (S.new (.si s 0))
    | _, _ => False
  | .next x isStr => match isStr, α.ev x with
    | true, .pt k _ 0 0 => gotA (siOf S k) fun o => match o with
      | (s, pos) => ∃ d, decide (pos < s.size) = d ∧ br d (K (.tup [.v (.bool true), .v (.int .i64 pos), .v (.int .i32 (Utf8.decode s pos).1)]) (S.set k (some (.si s (pos + (Utf8.decode s pos).2))))) (K (.tup [.v (.bool false)]) S)
    | _, _ => False
  | .makeFunc f first cap => K (.fn f (first.toList.map α.ev) (cap.toList.map α.ev)) S
  | .nilCheck x => match α.ev x with
    | .ip c => K (.ip c) S
    | .pt k sz i j => K (.pt k sz i j) S
    | _ => False
  | .call c => match c.callee with
    | .value f => callK P w0 K S (c.args.toList.map α.ev) (α.ev f)
    | .builtin b => builtinK P K S c.argTypes.toList (c.args.toList.map α.ev) b
    | .invoke _ _ => False
  | _ => False

def ydA (ops : Array Oper) (α : AA) (j : Nat) : Option (Option Bool) :=
  match (ops[j]?).bind (·.dst) with
  | some t => match α.tm t with | .v (.bool b) => some (some b) | .v (.tuple _) => some none | _ => none
  | none => none
/-- a region's operations, in the order given; n: the number of slots. -/
def opsK (P : Program) (w0 : World) (n : Nat) (ops : Array Oper) : List Nat → (AA → Store → Prop) → AA → Store → Prop
  | [], Q, α, S => Q α S
  | i :: rest, Q, α, S => match ops[i]? with
    | none => opsK P w0 n ops rest Q α S
    | some o => match (match o.dst with | some d => Nat.blt d n | none => true) with
      | true => match o.guard with
        | none => opK P w0 o.op α S fun r S' => opsK P w0 n ops rest Q (α.put o.dst r) S'
        | some (j, want) => match ydA ops α j with
          | some (some b) => gd want b (opK P w0 o.op α S fun r S' => opsK P w0 n ops rest Q (α.put o.dst r) S') (opsK P w0 n ops rest Q (α.put o.dst (.v undef)) S)
          | some none => opsK P w0 n ops rest Q (α.put o.dst (.v undef)) S
          | none => False
      | false => False
/- THE SAME, IN A FORM THAT IS QUICK TO RECKON. -/
def dstAt : List Oper → Nat → Option Tmp
  | [], _ => none
  | o :: _, 0 => o.dst
  | _ :: l, j + 1 => dstAt l j
theorem dstAt_eq : ∀ (l : List Oper) (j : Nat), dstAt l j = (l[j]?).bind (·.dst)
  | [], j => by simp [dstAt]
  | o :: l, 0 => by simp [dstAt]
  | o :: l, j + 1 => by simp [dstAt, dstAt_eq l j]
def ydL (ops : List Oper) (α : AA) (j : Nat) : Option (Option Bool) :=
  match dstAt ops j with
  | some t => match α.tm t with | .v (.bool b) => some (some b) | .v (.tuple _) => some none | _ => none
  | none => none
theorem ydL_eq {ops : Array Oper} {α : AA} {j : Nat} : ydL ops.toList α j = ydA ops α j := by
  unfold ydL ydA
  rw [dstAt_eq, Array.getElem?_toList]
/-- a slot is written, if it is a slot. -/
def putK (n : Nat) (d : Option Tmp) (α : AA) (r : AV) (k : AA → Prop) : Prop := match d with | some d => k ⟨upd α.tm d r, α.df⟩ | none => k α
theorem putK_eq {n : Nat} {d : Option Tmp} {α : AA} {r : AV} {k : AA → Prop} : putK n d α r k = k (α.put d r) := by cases d <;> rfl
def dstOk (n : Nat) (d : Option Tmp) : Bool := match d with | some d => Nat.blt d n | none => true
def runK (P : Program) (w0 : World) (n : Nat) (ops : List Oper) : List Oper → (AA → Store → Prop) → AA → Store → Prop
  | [], Q, α, S => Q α S
  | o :: rest, Q, α, S => match dstOk n o.dst with
    | true => match o.guard with
      | none => opK P w0 o.op α S fun r S' => putK n o.dst α r fun α' => runK P w0 n ops rest Q α' S'
      | some (j, want) => match ydL ops α j with
        | some (some b) => gd want b (opK P w0 o.op α S fun r S' => putK n o.dst α r fun α' => runK P w0 n ops rest Q α' S') (putK n o.dst α (.v undef) fun α' => runK P w0 n ops rest Q α' S)
        | some none => putK n o.dst α (.v undef) fun α' => runK P w0 n ops rest Q α' S
        | none => False
    | false => False
theorem runK_ops {P : Program} {w0 : World} {n : Nat} {ops : Array Oper} {Q : AA → Store → Prop} : ∀ {l : List Nat} {α : AA} {S : Store}, runK P w0 n ops.toList (l.filterMap (ops[·]?)) Q α S = opsK P w0 n ops l Q α S
  | [], α, S => rfl
  | i :: rest, α, S => by
    have ih : ∀ (α' : AA) (S' : Store), runK P w0 n ops.toList (rest.filterMap (ops[·]?)) Q α' S' = opsK P w0 n ops rest Q α' S' := fun α' S' => runK_ops
    simp only [opsK]
    cases hi : ops[i]? with
    | none =>
      rw [List.filterMap_cons, hi]
      exact ih α S
    | some o =>
      rw [List.filterMap_cons, hi]
      simp only [runK, ydL_eq, putK_eq, ih]
      rfl
theorem toList_filterMap {β : Type} {ops : Array β} : (List.range ops.size).filterMap (ops[·]?) = ops.toList := by
  apply List.ext_getElem?
  intro i
  have : ∀ (m : Nat), m ≤ ops.size → (List.range m).filterMap (ops[·]?) = ops.toList.take m := by
    intro m
    induction m with
    | zero => intro _; simp
    | succ m ih =>
      intro hm
      have hlt : m < ops.size := hm
      rw [List.range_succ, List.filterMap_append, ih (by omega), List.take_add_one]
      simp [hlt]
  rw [this _ (Nat.le_refl _)]
  rw [List.take_of_length_le (by simp)]
theorem runK_all {P : Program} {w0 : World} {n : Nat} {ops : Array Oper} {Q : AA → Store → Prop} {α : AA} {S : Store} (h : runK P w0 n ops.toList ops.toList Q α S) : opsK P w0 n ops (List.range ops.size) Q α S := by
  rw [← runK_ops, toList_filterMap]
  exact h
end Go.Proofs.YtahhaiomdjlckaaDoor
