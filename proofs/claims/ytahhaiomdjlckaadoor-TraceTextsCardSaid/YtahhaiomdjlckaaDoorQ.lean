/-
  Operations with what they need of the table of types at hand.
-/
import Derived.Test.YtahhaiomdjlckaaDoorMach
namespace Go.Proofs.YtahhaiomdjlckaaDoor
set_option linter.unusedVariables false
set_option linter.unusedSimpArgs false
open Go.RowKit

inductive QO where
  | t (n : Nat)
  | c (a : AV)
def QO.ev (f : Nat → AV) : QO → AV
  | .t n => f n
  | .c a => a
def qo : Operand → QO
  | .tmp t => .t t
  | .const v => .c (lift v)
  | .global g => .c (.v (.pointer (some ⟨g, 0, none⟩)))
  | .func f => .c (.v (.func (.func f) #[] #[]))
theorem qo_ev {α : AA} (x : Operand) : (qo x).ev α.tm = α.ev x := by cases x <;> rfl
inductive LK where
  | agg (n : Nat)
  | cell
inductive SK where
  | str
  | sl (n : Nat)
inductive QOp where
  | mv (x : QO)
  | pick (c a b : QO)
  | alloc (cs : List AV)
  | box (x : QO)
  | build (cs : List AV) (parts : List (Nat × Nat × QO))
  | rows (n : Nat) (rows : List (List AV)) (parts : List (Nat × QO))
  | load (k : LK) (x : QO)
  | store (n : Nat) (x b : QO)
  | bin (op : BinOp) (isB : Bool) (x y : QO)
  | not (x : QO)
  | neg (x : QO)
  | conv (k : IntKind) (x : QO)
  | convS (x : QO)
  | faddr (off : Nat) (x : QO)
  | field (k : LK) (off : Nat) (x : QO)
  | iaddr (n : Nat) (x i : QO)
  | iaddrA (len n : Nat) (x i : QO)
  | idxS (x i : QO)
  | idxA (len n : Nat) (k : LK) (x i : QO)
  | slice (k : SK) (x : QO) (lo hi mx : Option QO)
  | extract (x : QO) (i : Nat)
  | mkslice (z : List AV) (by_ : Nat) (l c : QO)
  | rangeS (x : QO)
  | nextS (x : QO)
  | mkfn (f : Fn) (first cap : List QO)
  | nilck (x : QO)
  | call (f : QO) (args : List QO)
  | len (str : Bool) (x : QO)
  | append (sz by_ : Nat) (a b : QO)
  | min (x y : QO)
  | max (x y : QO)
  | bstr (x : QO)
def undT (T : Tables) (t : TypeId) : Option TypeDesc :=
  match T.info? t with
  | some { desc := .named _ u, .. } => (T.info? u).map (·.desc)
  | some i => some i.desc
  | none => none
def agT (T : Tables) (t : TypeId) : Option Bool :=
  match undT T t with
  | some (.struct _) | some (.array _ _) => some true
  | some _ => some false
  | none => none
def siT (T : Tables) (t : TypeId) : Option Nat := (T.info? t).map (·.size)
def byT (T : Tables) (t : TypeId) : Option Nat := (T.info? t).map (·.bytes)
def zeT (T : Tables) (t : TypeId) : Option Value := (T.info? t).bind (·.zero)
def elT (T : Tables) (t : TypeId) : Option TypeId := match undT T t with | some (.slice e) => some e | _ => none
def plT (T : Tables) (fs : Array Field) (i : Nat) : Option (Nat × Nat) :=
  match fs[i]? with
  | some f => match siT T f.type with | some n => some (f.offset, n) | none => none
  | none => none
def lkT (T : Tables) (t : TypeId) : Option LK := match agT T t, siT T t with
  | some true, some n => some (.agg n)
  | some false, _ => some .cell
  | _, _ => none
section
variable {P : Program}
theorem undT_eq (t : TypeId) : undT P.toTables t = P.underlying t := rfl
theorem agT_eq (t : TypeId) : agT P.toTables t = aggT P t := rfl
theorem siT_eq (t : TypeId) : siT P.toTables t = szT P t := rfl
theorem byT_eq (t : TypeId) : byT P.toTables t = bytesT P t := rfl
theorem zeT_eq (t : TypeId) : zeT P.toTables t = zeroT P t := rfl
theorem elT_eq (t : TypeId) : elT P.toTables t = elemT P t := rfl
theorem plT_eq (fs : Array Field) : plT P.toTables fs = placeS P fs := rfl
end
def loadRk (k : LK) (row : List AV) (j : Nat) : Option AV := match k with
  | .agg n => match Nat.ble (j + n) row.length with | true => some (.agg (cutL row j n)) | false => none
  | .cell => row[j]?
theorem loadRk_eq {P : Program} {t : TypeId} {k : LK} (h : lkT P.toTables t = some k) (row : List AV) (j : Nat) : loadR P t row j = loadRk k row j := by
  unfold lkT at h
  simp only [agT_eq, siT_eq] at h
  unfold loadR
  split at h
  · rename_i n h1 h2; obtain rfl := Option.some.inj h; rw [h1, h2]; rfl
  · rename_i h1; obtain rfl := Option.some.inj h; rw [h1]; rfl
  · cases h
def loadAk (k : LK) (S : Store) : AV → Option AV
  | .ip row => loadRk k row 0
  | .pt b sz i j => match S.get b with
    | some (.arr sz' rows _ _) => match Nat.beq sz sz' with
      | true => match rows[i]? with
        | some row => loadRk k row j
        | none => none
      | false => none
    | _ => none
  | _ => none
theorem loadAk_eq {P : Program} {t : TypeId} {k : LK} (h : lkT P.toTables t = some k) (S : Store) (a : AV) : loadA P S t a = loadAk k S a := by
  unfold loadA loadAk
  simp only [loadRk_eq h]
  rfl
/-- placed parts. -/
def plcQ (place : Nat → Option (Nat × Nat)) : List (Nat × Operand) → Option (List (Nat × Nat × QO))
  | [] => some []
  | (i, x) :: rest => match place i with
    | some (off, size) => match plcQ place rest with
      | some l => some ((off, size, qo x) :: l)
      | none => none
    | none => none
def fillQ (f : Nat → AV) : List AV → List (Nat × Nat × QO) → Option (List AV)
  | cells, [] => some cells
  | cells, (off, size, x) :: rest => match Nat.beq (cellsA (x.ev f)).length size && Nat.ble (off + size) cells.length && (cellsA (x.ev f)).all isCell with
    | true => fillQ f (layL cells off (cellsA (x.ev f))) rest
    | false => none
theorem fillQ_eq {α : AA} {place : Nat → Option (Nat × Nat)} : ∀ {l : List (Nat × Operand)} {l' : List (Nat × Nat × QO)} {cells : List AV}, plcQ place l = some l' →
    fillA place cells (l.map fun (i, x) => (i, α.ev x)) = fillQ α.tm cells l'
  | [], l', cells, h => by obtain rfl := Option.some.inj h; rfl
  | (i, x) :: rest, l', cells, h => by
    simp only [plcQ] at h
    split at h
    · rename_i off size hp
      split at h
      · rename_i l hl
        obtain rfl := Option.some.inj h
        simp only [List.map_cons, fillA, hp, fillQ, qo_ev]
        cases hc : (Nat.beq (cellsA (α.ev x)).length size && Nat.ble (off + size) cells.length && (cellsA (α.ev x)).all isCell) with
        | true => simp only []; rw [fillQ_eq hl]
        | false => rfl
      · cases h
    · cases h
/-- an operation, with its types looked up. -/
def res (T : Tables) : Op → Option QOp
  | .move x => some (.mv (qo x))
  | .assign x => some (.mv (qo x))
  | .pick c a b => some (.pick (qo c) (qo a) (qo b))
  | .alloc e => match zeT T e with
    | some z => some (.alloc (z.cells.toList.map lift1))
    | none => none
  | .box _ x => some (.box (qo x))
  | .build t parts => match zeT T t with
    | some (.agg cs) => match undT T t with
      | some (.struct fs) => match fs.toList.all fun f => (siT T f.type).isSome with
        | true => match plcQ (plT T fs) parts.toList with
          | some l => some (.build (cs.toList.map lift1) l)
          | none => none
        | false => none
      | some (.array _ e) => match siT T e with
        | some n => match plcQ (fun i => some (i * n, n)) parts.toList with
          | some l => some (.build (cs.toList.map lift1) l)
          | none => none
        | none => none
      | _ => none
    | _ => none
  | .buildSlice t len parts => match elT T t with
    | some e => match zeT T e, siT T e with
      | some z, some n => match Nat.ble (len * n) 16777216 && Nat.beq z.cells.size n && Nat.blt 0 n with
        | true => some (.rows n (List.replicate len (z.cells.toList.map lift1)) (parts.toList.map fun (i, x) => (i, qo x)))
        | false => none
      | _, _ => none
    | none => none
  | .load t x => match lkT T t with
    | some k => some (.load k (qo x))
    | none => none
  | .store t x b => match siT T t with
    | some n => some (.store n (qo x) (qo b))
    | none => none
  | .binOp op t x y _ => match undT T t with
    | some .bool => some (.bin op true (qo x) (qo y))
    | _ => some (.bin op false (qo x) (qo y))
  | .unOp op _ x => match op with
    | .not => some (.not (qo x))
    | .neg => some (.neg (qo x))
    | _ => none
  | .convert src dst x => match undT T src, undT T dst with
    | some (.int _), some (.int k) => some (.conv k (qo x))
    | some .string, some .string => some (.convS (qo x))
    | some (.slice e), some .string => match undT T e with
      | some (.int .u8) => some (.bstr (qo x))
      | _ => none
    | _, _ => none
  | .fieldAddr s x f => match undT T s with
    | some (.struct fs) => match fs[f]? with
      | some fd => match siT T fd.type with
        | some (_ + 1) => some (.faddr fd.offset (qo x))
        | _ => none
      | none => none
    | _ => none
  | .field t x f => match undT T t with
    | some (.struct fs) => match fs[f]? with
      | some fd => match lkT T fd.type with
        | some k => some (.field k fd.offset (qo x))
        | none => none
      | none => none
    | _ => none
  | .indexAddr t x i => match undT T t with
    | some (.slice e) => match siT T e with
      | some n => some (.iaddr n (qo x) (qo i))
      | none => none
    | some (.array len e) => match siT T e with
      | some n => some (.iaddrA len n (qo x) (qo i))
      | none => none
    | _ => none
  | .index t x i => match undT T t with
    | some .string => some (.idxS (qo x) (qo i))
    | some (.array len e) => match siT T e, lkT T e with
      | some n, some k => some (.idxA len n k (qo x) (qo i))
      | _, _ => none
    | _ => none
  | .slice t x lo hi mx => match undT T t with
    | some .string => some (.slice .str (qo x) (lo.map qo) (hi.map qo) (mx.map qo))
    | some (.slice e) => match siT T e with
      | some n => some (.slice (.sl n) (qo x) (lo.map qo) (hi.map qo) (mx.map qo))
      | none => none
    | _ => none
  | .extract x i => some (.extract (qo x) i)
  | .makeSlice t l c => match elT T t with
    | some e => match zeT T e, siT T e, byT T e with
      | some z, some sz, some by_ => match Nat.beq z.cells.size sz && Nat.blt 0 sz with
        | true => some (.mkslice (z.cells.toList.map lift1) by_ (qo l) (qo c))
        | false => none
      | _, _, _ => none
    | none => none
  | .range t x => match undT T t with
    | some .string => some (.rangeS (qo x))
    | _ => none
  | .next x isStr => match isStr with
    | true => some (.nextS (qo x))
    | false => none
  | .makeFunc f first cap => some (.mkfn f (first.toList.map qo) (cap.toList.map qo))
  | .nilCheck x => some (.nilck (qo x))
  | .call c => match c.callee with
    | .value f => some (.call (qo f) (c.args.toList.map qo))
    | .builtin b => match b, c.argTypes.toList, c.args.toList with
      | .len, [t], [x] => match undT T t with
        | some (.slice _) => some (.len false (qo x))
        | some .string => some (.len true (qo x))
        | _ => none
      | .append, [t, t2], [a, b] => match elT T t, elT T t2 with
        | some e, some _ => match zeT T e, siT T e, byT T e with
          | some z, some sz, some by_ => match Nat.beq z.cells.size sz && Nat.blt 0 by_ with
            | true => some (.append sz by_ (qo a) (qo b))
            | false => none
          | _, _, _ => none
        | _, _ => none
      | .min, _, [x, y] => some (.min (qo x) (qo y))
      | .max, _, [x, y] => some (.max (qo x) (qo y))
      | _, _, _ => none
    | .invoke _ _ => none
  | _ => none
/-- an operation that owes nothing. -/
def opq (q : QOp) (f : Nat → AV) (S : Store) : Option (AV × Store) :=
  match q with
  | .mv x => some (x.ev f, S)
  | .pick c a b => match c.ev f with
    | .v (.bool true) => some (a.ev f, S)
    | .v (.bool false) => some (b.ev f, S)
    | _ => none
  | .alloc cs => boxQ S cs
  | .box x => match (cellsA (x.ev f)).all isCell with
    | true => boxQ S (cellsA (x.ev f))
    | false => none
  | .build cs parts => match fillQ f cs parts with
    | some l => some (.agg l, S)
    | none => none
  | .rows n rows parts => match rowsF n rows (parts.map fun (i, x) => (i, x.ev f)) with
    | some rows => some (.sl true rows, S)
    | none => none
  | .load k x => match loadAk k S (x.ev f) with
    | some a => some (a, S)
    | none => none
  | .store n x b => match b.ev f, x.ev f with
    | bv, .pt k sz 0 j => match S.get k with
      | some (.arr sz' [row] 0 ex) => match Nat.beq sz sz' && (cellsA bv).all isCell && Nat.beq n (cellsA bv).length with
        | true => match Nat.ble (j + (cellsA bv).length) row.length with
          | true => match S with | ⟨g, x⟩ => some (.v undef, ⟨upd g k (some (.arr sz [layL row j (cellsA bv)] 0 ex)), x⟩)
          | false => none
        | false => none
      | _ => none
    | _, _ => none
  | .not x => match x.ev f with
    | .v (.bool true) => some (.v (.bool false), S)
    | .v (.bool false) => some (.v (.bool true), S)
    | _ => none
  | .faddr off x => match x.ev f with
    | .ip row => some (.ip (row.drop off), S)
    | .pt k sz i j => some (.pt k sz i (j + off), S)
    | _ => none
  | .field k off x => match x.ev f with
    | .agg l => match loadRk k l off with
      | some a => some (a, S)
      | none => none
    | _ => none
  | .extract x i => match x.ev f with
    | .tup l => match l[i]? with
      | some a => some (a, S)
      | none => none
    | _ => none
  | .mkfn g first cap => some (.fn g (first.map (·.ev f)) (cap.map (·.ev f)), S)
  | .nilck x => match x.ev f with
    | .ip c => some (.ip c, S)
    | .pt k sz i j => some (.pt k sz i j, S)
    | _ => none
  | _ => none
/-- the value of a comparison. -/
def bitQ (op : BinOp) (isB : Bool) : AV → AV → Option Bool
  | .v (.int k a), .v (.int k' b) => match decide (k = k') with
    | true => match op with
      | .eql => some (a == b)
      | .neq => some (a != b)
      | .lss => some (decide (a < b))
      | .leq => some (decide (a ≤ b))
      | .gtr => some (decide (a > b))
      | .geq => some (decide (a ≥ b))
      | _ => none
    | false => none
  | .v (.string a), .v (.string b) => match op with
    | .eql => some (a.toList == b.toList)
    | .neq => some (!(a.toList == b.toList))
    | .lss => some (Op.bytesLess a.toList b.toList)
    | .leq => some (Op.bytesLess a.toList b.toList || a.toList == b.toList)
    | .gtr => some (!(Op.bytesLess a.toList b.toList || a.toList == b.toList))
    | .geq => some (!Op.bytesLess a.toList b.toList)
    | _ => none
  | .v (.bool a), .v (.bool b) => match isB, op with
    | true, .eql => some (a == b)
    | true, .neq => some (!(a == b))
    | _, _ => none
  | _, _ => none
section
variable {P : Program} {w0 : World} {n : Nat} {o : Op} {α : AA} {S S' : Store} {r : AV} {q : QOp} {K : AV → Store → Prop}
theorem opq_sound (hr : res P.toTables o = some q) (h : opq q α.tm S = some (r, S')) : opK P w0 o α S (IsO r S') := by
  have e : ∀ {a : AV} {T : Store}, some (a, T) = some (r, S') → a = r ∧ T = S' := fun h => by injection h with h; injection h with h1 h2; exact ⟨h1, h2⟩
  have e2 : ∀ {q : AV × Store}, some q = some (r, S') → q.1 = r ∧ q.2 = S' := fun h => by injection h with h; subst h; exact ⟨rfl, rfl⟩
  have key : ∀ {T : Program → Op → AA → Store → Option (AV × Store)}, opQ P o α S = some (r, S') → opK P w0 o α S (IsO r S') := fun h => opQ_sound h
  cases o with
  | move x => obtain rfl := Option.some.inj hr; rw [opq, qo_ev] at h; exact e h
  | assign x => obtain rfl := Option.some.inj hr; rw [opq, qo_ev] at h; exact e h
  | pick c a b =>
    obtain rfl := Option.some.inj hr
    simp only [opq, qo_ev] at h
    simp only [opK]
    split at h
    · rename_i hc; rw [hc]; exact e h
    · rename_i hc; rw [hc]; exact e h
    · cases h
  | alloc t =>
    simp only [res, undT_eq, siT_eq, byT_eq, zeT_eq, elT_eq, plT_eq] at hr
    split at hr
    · rename_i z hz
      obtain rfl := Option.some.inj hr
      simp only [opq] at h
      simp only [opK, hz]; rw [boxQ_eq] at h; exact e2 h
    · cases hr
  | box t x =>
    obtain rfl := Option.some.inj hr
    simp only [opq, qo_ev] at h
    simp only [opK]
    split at h
    · rename_i hx; rw [hx]; rw [boxQ_eq] at h; exact e2 h
    · cases h
  | build t parts =>
    simp only [res, undT_eq, siT_eq, byT_eq, zeT_eq, elT_eq, plT_eq] at hr
    split at hr
    · rename_i cs hz
      split at hr
      · rename_i fs hu
        split at hr
        · rename_i hall
          split at hr
          · rename_i l hl
            obtain rfl := Option.some.inj hr
            simp only [opq] at h
            simp only [opK, buildA, hz, hu, hall, fillQ_eq hl]
            split at h
            · rename_i l' hl'; simp only [hl', Option.map_some]; exact e h
            · cases h
          · cases hr
        · cases hr
      · rename_i le el hu
        split at hr
        · rename_i m hm
          split at hr
          · rename_i l hl
            obtain rfl := Option.some.inj hr
            simp only [opq] at h
            simp only [opK, buildA, hz, hu, hm, fillQ_eq hl]
            split at h
            · rename_i l' hl'; simp only [hl', Option.map_some]; exact e h
            · cases h
          · cases hr
        · cases hr
      · cases hr
    · cases hr
  | buildSlice t len parts =>
    simp only [res, undT_eq, siT_eq, byT_eq, zeT_eq, elT_eq, plT_eq] at hr
    split at hr
    · rename_i el he
      split at hr
      · rename_i z m hz hs
        split at hr
        · rename_i hb
          obtain rfl := Option.some.inj hr
          have hm : (parts.toList.map fun (i, x) => (i, qo x)).map (fun (i, x) => (i, QO.ev α.tm x)) = parts.toList.map fun (i, x) => (i, α.ev x) := by
            rw [List.map_map]
            apply List.map_congr_left
            rintro ⟨i, x⟩ _
            simp [qo_ev]
          simp only [opq] at h
          rw [hm] at h
          simp only [opK, he, hz, hs, hb]
          split at h
          · rename_i rows hrw
            simp only [hrw]
            exact e h
          · cases h
        · cases hr
      · cases hr
    · cases hr
  | load t x =>
    simp only [res, undT_eq, siT_eq, byT_eq, zeT_eq, elT_eq, plT_eq] at hr
    split at hr
    · rename_i k hk
      obtain rfl := Option.some.inj hr
      simp only [opq, qo_ev] at h
      simp only [opK]
      split at h
      · rename_i z hz; rw [← loadAk_eq hk] at hz; exact gotA.mk hz (e h)
      · cases h
    · cases hr
  | store t x b =>
    simp only [res, undT_eq, siT_eq, byT_eq, zeT_eq, elT_eq, plT_eq] at hr
    split at hr
    · rename_i m hm
      obtain rfl := Option.some.inj hr
      simp only [opq, qo_ev] at h
      have hs : storeQ P S t (α.ev b) (α.ev x) = some S' ∧ AV.v undef = r := by
        split at h
        · rename_i k sz j hb
          unfold storeQ
          rw [hb]
          split at h
          · rename_i sz' row ex hk
            split at h
            · rename_i hc
              split at h
              · rename_i hl
                simp only [hk, hm, hc, hl, forceL_eq]
                obtain ⟨h1, h2⟩ := e h
                exact ⟨by rw [← h2], h1⟩
              · cases h
            · cases h
          · cases h
        · cases h
      simp only [opK]
      exact gotA.mk (storeQ_sound hs.1) ⟨hs.2, rfl⟩
    · cases hr
  | unOp op t x =>
    simp only [res, undT_eq, siT_eq, byT_eq, zeT_eq, elT_eq, plT_eq] at hr
    split at hr
    · obtain rfl := Option.some.inj hr
      simp only [opq, qo_ev] at h
      simp only [opK]
      split at h
      · rename_i hc; rw [hc]; exact e h
      · rename_i hc; rw [hc]; exact e h
      · cases h
    · obtain rfl := Option.some.inj hr
      cases h
    · cases hr
  | fieldAddr s x f =>
    simp only [res, undT_eq, siT_eq, byT_eq, zeT_eq, elT_eq, plT_eq] at hr
    split at hr
    · rename_i fs hu
      split at hr
      · rename_i fd hf
        split at hr
        · rename_i m hm
          obtain rfl := Option.some.inj hr
          simp only [opq, qo_ev] at h
          simp only [opK, hu, hf, hm]
          split at h
          · rename_i row hx; simp only [hx]; exact e h
          · rename_i k sz i j hx; simp only [hx]; exact e h
          · cases h
        · cases hr
      · cases hr
    · cases hr
  | field t x f =>
    simp only [res, undT_eq, siT_eq, byT_eq, zeT_eq, elT_eq, plT_eq] at hr
    split at hr
    · rename_i fs hu
      split at hr
      · rename_i fd hf
        split at hr
        · rename_i k hk
          obtain rfl := Option.some.inj hr
          simp only [opq, qo_ev] at h
          simp only [opK, hu, hf]
          split at h
          · rename_i l hx
            simp only [hx]
            split at h
            · rename_i a ha; rw [← loadRk_eq hk] at ha; exact gotA.mk ha (e h)
            · cases h
          · cases h
        · cases hr
      · cases hr
    · cases hr
  | extract x i =>
    obtain rfl := Option.some.inj hr
    simp only [opq, qo_ev] at h
    simp only [opK]
    split at h
    · rename_i l hx
      split at h
      · rename_i a ha; simp only [hx, ha]; exact e h
      · cases h
    · cases h
  | makeFunc f first cap =>
    obtain rfl := Option.some.inj hr
    simp only [opq, List.map_map] at h
    have hm : ∀ l : List Operand, l.map ((·.ev α.tm) ∘ qo) = l.map α.ev := fun l => List.map_congr_left fun x _ => qo_ev x
    rw [hm, hm] at h
    exact e h
  | nilCheck x =>
    obtain rfl := Option.some.inj hr
    simp only [opq, qo_ev] at h
    simp only [opK]
    split at h
    · rename_i c hx; rw [hx]; exact e h
    · rename_i c hx; rw [hx]; exact e h
    · cases h
  | call c =>
    simp only [res, undT_eq, siT_eq, byT_eq, zeT_eq, elT_eq, plT_eq] at hr
    split at hr
    · obtain rfl := Option.some.inj hr; cases h
    · split at hr
      · split at hr
        · obtain rfl := Option.some.inj hr; cases h
        · obtain rfl := Option.some.inj hr; cases h
        · cases hr
      · split at hr
        · split at hr
          · split at hr
            · obtain rfl := Option.some.inj hr; cases h
            · cases hr
          · cases hr
        · cases hr
      · obtain rfl := Option.some.inj hr; cases h
      · obtain rfl := Option.some.inj hr; cases h
      · cases hr
    · cases hr
  | _ =>
    simp only [res, undT_eq, siT_eq, byT_eq, zeT_eq, elT_eq, plT_eq] at hr
    repeat' split at hr
    all_goals first | (obtain rfl := Option.some.inj hr; cases h) | cases hr
end
end Go.Proofs.YtahhaiomdjlckaaDoor
