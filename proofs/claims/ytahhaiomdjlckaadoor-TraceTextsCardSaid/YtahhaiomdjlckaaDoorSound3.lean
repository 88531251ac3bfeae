/-
  Slices: literals, elements, parts, lengths, append.
-/
import Derived.Test.YtahhaiomdjlckaaDoorSound2
namespace Go.Proofs.YtahhaiomdjlckaaDoor
set_option linter.unusedVariables false
set_option linter.unusedSimpArgs false
open Go.RowKit

section
variable {P : Program} {w0 : World} {n : Nat} {o : Oper} {α : AA} {S S' : Store} {r : AV}
/-- rows that lie in an array of cells. -/
def Rows_ (g : Gh) (w : World) (sz : Nat) (rows : List (List AV)) (cs : Array Value) : Prop :=
  cs.size = rows.length * sz ∧ ∀ (i : Nat) (row : List AV), rows[i]? = some row → row.length = sz ∧ ∀ (j : Nat) (a : AV), row[j]? = some a → ∃ x, cs[i * sz + j]? = some x ∧ Rep g w a x
theorem mul_in {i m sz j : Nat} (hi : i < m) (hj : j < sz) : i * sz + j < m * sz := by
  have := Nat.mul_le_mul_right sz (show i + 1 ≤ m from hi)
  rw [Nat.add_mul, Nat.one_mul] at this
  omega
theorem rowsF_sound {g : Gh} {w : World} {sz : Nat} : ∀ {parts : List (Nat × AV)} {parts' : List (Nat × Value)} {rows rows' : List (List AV)} {cs : Array Value}, rowsF sz rows parts = some rows' → Rows_ g w sz rows cs →
    All2 (fun (p : Nat × AV) (q : Nat × Value) => p.1 = q.1 ∧ Rep g w p.2 q.2) parts parts' → ∃ cs', Instr.fill (fun i => some (i * sz, sz)) cs parts' = some cs' ∧ Rows_ g w sz rows' cs' ∧ rows'.length = rows.length
  | [], _, rows, rows', cs, h, hl, hp => by
    cases hp
    obtain rfl := Option.some.inj h
    exact ⟨cs, rfl, hl, rfl⟩
  | (i, a) :: rest, _, rows, rows', cs, h, hl, hp => by
    cases hp with
    | @cons _ q _ rest' hq hrest =>
      obtain ⟨j, x⟩ := q
      obtain ⟨e, hx⟩ := hq
      simp only at e hx
      subst e
      simp only [rowsF] at h
      split at h
      · rename_i hc
        simp only [Bool.and_eq_true] at hc
        obtain ⟨⟨e1, e2⟩, e3⟩ := hc
        have e1 := Nat.eq_of_beq_eq_true e1
        have e2 : i < rows.length := Nat.le_of_ble_eq_true e2
        obtain ⟨c1, c2, c3⟩ := cellsA_rep e3 hx
        have f := foldl_set (i * sz) x.cells.toList 0 cs
        have hin : i * sz + sz ≤ rows.length * sz := by
          have := Nat.mul_le_mul_right sz (show i + 1 ≤ rows.length from e2)
          rwa [Nat.add_mul, Nat.one_mul] at this
        have hfit : i * sz + x.cells.size ≤ cs.size := by rw [hl.1, c1, e1]; exact hin
        have f2 := f.2 (by simpa using hfit)
        have hl' : Rows_ g w sz (rows.set i (cellsA a)) ((x.cells.toList.zipIdx 0).foldl (fun cs (p : Value × Nat) => cs.setIfInBounds (i * sz + p.2) p.1) cs) := by
          refine ⟨by rw [f.1, hl.1]; simp, fun i' row' hr' => ?_⟩
          by_cases e : i' = i
          · subst e
            rw [List.getElem?_set_self e2] at hr'
            obtain rfl := Option.some.inj hr'
            refine ⟨e1, fun j' a' ha' => ?_⟩
            have hj' : j' < (cellsA a).length := (List.getElem?_eq_some_iff.1 ha').1
            have hj2 : j' < x.cells.size := by rw [c1]; exact hj'
            refine ⟨x.cells[j'], ?_, c2 j' a' _ ha' (Array.getElem?_eq_getElem hj2)⟩
            rw [f2]
            simp only [Nat.add_zero, Array.length_toList, Array.getElem?_toList]
            rw [if_neg (by omega), if_pos (by omega), show i' * sz + j' - i' * sz = j' by omega]
            exact Array.getElem?_eq_getElem hj2
          · rw [List.getElem?_set_ne (Ne.symm e)] at hr'
            refine ⟨(hl.2 i' row' hr').1, fun j' a' ha' => ?_⟩
            obtain ⟨y, hy, hry⟩ := (hl.2 i' row' hr').2 j' a' ha'
            have hj' : j' < sz := by rw [← (hl.2 i' row' hr').1]; exact (List.getElem?_eq_some_iff.1 ha').1
            refine ⟨y, ?_, hry⟩
            rw [f2]
            simp only [Nat.add_zero, Array.length_toList, Array.getElem?_toList, c1, e1]
            rcases Nat.lt_or_gt_of_ne e with c | c
            · have := mul_in c hj'
              rw [if_pos (by omega)]
              exact hy
            · have : i * sz + sz ≤ i' * sz := by
                have := Nat.mul_le_mul_right sz (show i + 1 ≤ i' from c)
                rwa [Nat.add_mul, Nat.one_mul] at this
              rw [if_neg (by omega), if_neg (by omega)]
              exact hy
        obtain ⟨cs', h1, h2, h3⟩ := rowsF_sound h hl' hrest
        refine ⟨cs', ?_, h2, by rw [h3]; simp⟩
        rw [← h1]
        simp only [Instr.fill]
        rw [if_neg (by simp only [Bool.or_eq_true, decide_eq_true_eq, not_or]; omega)]
        congr 1
        rw [← Array.foldl_toList, Array.toList_zipIdx]
      · cases h
theorem zero_rows {g : Gh} {w : World} {zs : Array Value} {len : Nat} (h : 0 < zs.size) : Rows_ g w zs.size (List.replicate len (zs.toList.map lift1)) ((Array.range (len * zs.size)).map (zs[· % zs.size]!)) := by
  refine ⟨by simp, fun i row hr => ?_⟩
  rw [List.getElem?_replicate] at hr
  split at hr
  · rename_i hi
    obtain rfl := Option.some.inj hr
    refine ⟨by simp, fun j a ha => ?_⟩
    have hl := RepL.lift1 (g := g) (w := w) zs
    have hj : j < zs.size := by have := (List.getElem?_eq_some_iff.1 ha).1; simpa using this
    refine ⟨zs[j], ?_, hl.2 j a _ ha (Array.getElem?_eq_getElem hj)⟩
    have hlt := mul_in hi hj
    rw [Array.getElem?_map, Array.getElem?_range, if_pos hlt]
    have e : (i * zs.size + j) % zs.size = j := by rw [Nat.mul_comm, Nat.mul_add_mod, Nat.mod_eq_of_lt hj]
    simp [e, hj]
  · cases hr
/-- a slice over a block that never changes. -/
theorem sl_of_block {g : Gh} {w : World} {sz b c : Nat} {rows : List (List AV)} {cs : Array Value} {ty : TypeId} {ex : Bool} (h : Rows_ g w sz rows cs) (hb : w.heap[b]? = some (.cells cs ty (0, 0))) (hz : ∀ q, g.fz b q) (hc : ex = true → c = rows.length) (hle : rows.length ≤ c) :
    Rep g w (.sl ex rows) (.slice (some ⟨b, 0, none⟩) rows.length c) := by
  cases rows with
  | nil => exact .nil hc
  | cons r rs =>
    refine .sl (sz := sz) (val := fun i j => cs.getD (i * sz + j) undef) (by simp) hc hle (fun i row hr => (h.2 i row hr).1) (fun i j row a hr ha => ⟨hz _, ?_⟩) (fun i j row a hr ha => ?_)
    · obtain ⟨x, hx, hrx⟩ := (h.2 i row hr).2 j a ha
      rw [cell_of_row _ _ _ cs ty (0, 0) hb, Nat.zero_add, hx]
      simp [Array.getD_eq_getD_getElem?, hx]
    · obtain ⟨x, hx, hrx⟩ := (h.2 i row hr).2 j a ha
      simp only [Array.getD_eq_getD_getElem?, hx, Option.getD_some]
      exact hrx
theorem run_buildSlice {t e : TypeId} {len sz : Nat} {parts : Array (Nat × Operand)} {z : Value} {rows : List (List AV)} (ho : o.op = .buildSlice t len parts) (hu : P.underlying t = some (.slice e)) (hz : zeroT P e = some z) (hs : szT P e = some sz)
    (h1 : len * sz ≤ 16777216) (h2 : z.cells.size = sz) (h3 : 0 < sz) (h : rowsF sz (List.replicate len (z.cells.toList.map lift1)) (parts.toList.map fun (i, x) => (i, α.ev x)) = some rows) : RunV P w0 n o α S (.sl true rows) S := by
  intro A g a w hS hA
  obtain ⟨cs, hf, hr, hl⟩ := rowsF_sound h (by rw [← h2]; exact zero_rows (by omega)) (parts_rep hA parts.toList)
  rw [List.length_replicate] at hl
  obtain ⟨hE, hSt⟩ := hS.ice (.cells cs e)
  refine ⟨.slice (some ⟨w.heap.size, 0, none⟩) len len, w.alloc (.cells cs e), g.ice w.heap.size, .inl ?_, ?_, hSt, hE⟩
  · have hnot : ¬ (len * sz > 2 ^ 24) := by omega
    rw [h2] at hf
    simp only [execOp, ho, Instr.buildSlice, Sem.run_bind, run_underlying hu, Result.andThen_ok, run_sizeT hs, if_neg hnot]
    by_cases c : len * sz = 0
    · have e0 : ∀ f : Nat → Value, (Array.range (len * sz)).map f = #[] := fun f => by rw [c]; simp
      rw [e0] at hf
      have hf' : Instr.fill (fun i => some (i * sz, sz)) ((Array.range (len * sz)).map fun x => (#[] : Array Value)[x % (#[] : Array Value).size]!) (Array.map (fun x => (x.fst, a.eval x.snd)) parts).toList = some cs := by
        rw [e0, Array.toList_map]
        exact hf
      rw [if_pos c]
      simp only [Sem.run_bind, Sem.run_pure, Result.andThen_ok, hf', newRow, run_newObj]
      rfl
    · have hf' : Instr.fill (fun i => some (i * sz, sz)) ((Array.range (len * sz)).map fun x => z.cells[x % z.cells.size]!) (Array.map (fun x => (x.fst, a.eval x.snd)) parts).toList = some cs := by
        rw [Array.toList_map, h2]
        exact hf
      rw [if_neg c]
      simp only [Sem.run_bind, run_zeroT hz, Sem.run_pure, Result.andThen_ok, hf', newRow, run_newObj]
      rfl
  · have := sl_of_block (ex := true) (c := rows.length) (b := w.heap.size) (ty := e) (g := g.ice w.heap.size) (w := w.alloc (.cells cs e)) (sz := sz) (rows := rows) (cs := cs)
      ⟨hr.1, fun i row hi => ⟨(hr.2 i row hi).1, fun j b hb => let ⟨x, hx, hrx⟩ := (hr.2 i row hi).2 j b hb; ⟨x, hx, hrx.later hE.toLater⟩⟩⟩ heap_push_new (fun q => .inr rfl) (fun _ => rfl) (Nat.le_refl _)
    rwa [hl] at this
/-- an element of a slice that never changes. -/
theorem sl_elem {g : Gh} {w : World} {ex : Bool} {rows : List (List AV)} {v : Value} {sz i : Nat} {row : List AV} (h : Rep g w (.sl ex rows) v) (hl : ∀ r ∈ rows, r.length = sz) (hi : rows[i]? = some row) :
    ∃ b q c, v = .slice (some ⟨b, q, none⟩) rows.length c ∧ Rep g w (.ip row) (.pointer (some ⟨b, q + i * sz, none⟩)) := by
  cases h with
  | nil hc => simp at hi
  | @sl _ _ b q sz' c val hn hc hle hl' h hr =>
    have e : sz' = sz := by
      have h1 := hl' i row hi
      have h2 := hl row (List.mem_of_getElem? hi)
      omega
    subst e
    refine ⟨b, q, c, rfl, .ip (val := fun j => val i j) (fun j a ha => ?_) (fun j a ha => hr i j row a hi ha)⟩
    rw [Nat.add_assoc]
    exact h i j row a hi ha
theorem idx_some {β : Type} {rows : List β} {k : Int} {x : β} (h : idx rows k = some x) : 0 ≤ k ∧ rows[k.toNat]? = some x ∧ k < rows.length := by
  unfold idx at h
  split at h
  · rename_i h0
    have := (List.getElem?_eq_some_iff.1 h).1
    exact ⟨h0, h, by omega⟩
  · cases h
theorem run_indexSl {t e : TypeId} {x y : Operand} {ex : Bool} {rows : List (List AV)} {k : IntKind} {i : Int} {sz : Nat} {row : List AV} (ho : o.op = .indexAddr t x y) (hu : P.underlying t = some (.slice e)) (hx : α.ev x = .sl ex rows) (hy : α.ev y = .v (.int k i))
    (hs : szT P e = some sz) (hi : idx rows i = some row) (hl : ∀ r ∈ rows, r.length = sz) : RunV P w0 n o α S (.ip row) S :=
  RunV.quiet fun A g q w hS hA => by
    have h1 := hA.ev x
    have h2 := hA.ev y
    rw [hx] at h1
    rw [hy] at h2
    obtain ⟨h0, hr, hlt⟩ := idx_some hi
    obtain ⟨b, p, c, e1, hrep⟩ := sl_elem h1 hl hr
    refine ⟨_, ?_, hrep⟩
    simp only [execOp, ho, e1, rep_v h2, Instr.indexAt, asIntOf, Sem.run_bind, run_underlying hu, run_sizeT hs, Result.andThen_ok, Sem.run_pure]
    rw [if_pos ⟨h0, hlt⟩]
    simp [run_sizeT hs, addr_add]
theorem run_indexOb {t e : TypeId} {x y : Operand} {k sz off len : Nat} {cx : Option Nat} {kd : IntKind} {i : Int} (ho : o.op = .indexAddr t x y) (hu : P.underlying t = some (.slice e)) (hx : α.ev x = .ob k sz off len cx) (hy : α.ev y = .v (.int kd i))
    (hs : szT P e = some sz) (h0 : 0 ≤ i) (hlt : i < len) : RunV P w0 n o α S (.pt k sz (off + i.toNat) 0) S :=
  RunV.quiet fun A g q w hS hA => by
    have h1 := hA.ev x
    have h2 := hA.ev y
    rw [hx] at h1
    rw [hy] at h2
    obtain ⟨v, hv⟩ : ∃ v, q.eval x = v := ⟨_, rfl⟩
    rw [hv] at h1
    cases h1 with
    | ob hk hc hp hxx hle =>
      have := Rep.pt (g := g) (w := w) (sz := sz) (i := off + i.toNat) (j := 0) hk
      refine ⟨_, ?_, this⟩
      simp only [execOp, ho, hv, rep_v h2, Instr.indexAt, asIntOf, Sem.run_bind, run_underlying hu, run_sizeT hs, Result.andThen_ok, Sem.run_pure]
      rw [if_pos ⟨h0, hlt⟩]
      simp [run_sizeT hs, addr_add, Nat.add_mul]
theorem run_indexArrPt {t e : TypeId} {x y : Operand} {k sz i j len m : Nat} {kd : IntKind} {q : Int} (ho : o.op = .indexAddr t x y) (hu : P.underlying t = some (.array len e)) (hx : α.ev x = .pt k sz i j) (hy : α.ev y = .v (.int kd q))
    (hs : szT P e = some m) (h0 : 0 ≤ q) (hlt : q < len) : RunV P w0 n o α S (.pt k sz i (j + q.toNat * m)) S :=
  RunV.quiet fun A g c w hS hA => by
    have h1 := hA.ev x
    have h2 := hA.ev y
    rw [hx] at h1
    rw [hy] at h2
    obtain ⟨v, hv⟩ : ∃ v, c.eval x = v := ⟨_, rfl⟩
    rw [hv] at h1
    cases h1 with
    | pt hk =>
      refine ⟨_, ?_, .pt hk⟩
      simp only [execOp, ho, hv, rep_v h2, Instr.indexAt, asIntOf, Instr.sureAddr, Sem.run_bind, run_underlying hu, run_sizeT hs, Result.andThen_ok, Sem.run_pure]
      rw [if_pos ⟨h0, hlt⟩]
      simp [run_sizeT hs, addr_add, Nat.add_assoc]
theorem run_indexArrIp {t e : TypeId} {x y : Operand} {row : List AV} {len m : Nat} {kd : IntKind} {q : Int} (ho : o.op = .indexAddr t x y) (hu : P.underlying t = some (.array len e)) (hx : α.ev x = .ip row) (hy : α.ev y = .v (.int kd q))
    (hs : szT P e = some m) (h0 : 0 ≤ q) (hlt : q < len) : RunV P w0 n o α S (.ip (row.drop (q.toNat * m))) S :=
  RunV.quiet fun A g c w hS hA => by
    have h1 := hA.ev x
    have h2 := hA.ev y
    rw [hx] at h1
    rw [hy] at h2
    obtain ⟨b, p, e1, _⟩ := ip_cells h1
    rw [e1] at h1
    refine ⟨_, ?_, rep_drop h1 _⟩
    simp only [execOp, ho, e1, rep_v h2, Instr.indexAt, asIntOf, Instr.sureAddr, Sem.run_bind, run_underlying hu, run_sizeT hs, Result.andThen_ok, Sem.run_pure]
    rw [if_pos ⟨h0, hlt⟩]
    simp [run_sizeT hs, addr_add]
theorem run_indexStr {t : TypeId} {x y : Operand} {s : ByteArray} {k : IntKind} {i : Int} {b : UInt8} (ho : o.op = .index t x y) (hu : P.underlying t = some .string) (hx : α.ev x = .v (.string s)) (hy : α.ev y = .v (.int k i)) (hi : idx s.data.toList i = some b) :
    RunV P w0 n o α S (.v (.int .u8 b.toNat)) S :=
  RunV.quiet fun A g q w hS hA => by
    have h1 := hA.ev x
    have h2 := hA.ev y
    rw [hx] at h1
    rw [hy] at h2
    obtain ⟨h0, hr, hlt⟩ := idx_some hi
    refine ⟨_, ?_, .v⟩
    have hsz : i.toNat < s.size := by
      have := (List.getElem?_eq_some_iff.1 hr).1
      simpa using this
    have e : s[i.toNat]? = some b := by
      rw [getElem?_pos s i.toNat hsz]
      have hr2 : s.data[i.toNat]? = some b := by rw [← Array.getElem?_toList]; exact hr
      rw [Array.getElem?_eq_getElem (by simpa using hsz)] at hr2
      exact hr2
    simp only [execOp, ho, rep_v h1, rep_v h2, Instr.index, asIntOf, Sem.run_bind, run_underlying hu, Result.andThen_ok, Sem.run_pure, if_pos h0, e]
theorem run_indexAgg {t e : TypeId} {x y : Operand} {l : List AV} {len m : Nat} {kd : IntKind} {q : Int} (ho : o.op = .index t x y) (hu : P.underlying t = some (.array len e)) (hx : α.ev x = .agg l) (hy : α.ev y = .v (.int kd q))
    (hs : szT P e = some m) (h : loadR P e l (q.toNat * m) = some r) (h0 : 0 ≤ q) (hlt : q < len) : RunV P w0 n o α S r S :=
  RunV.quiet fun A g c w hS hA => by
    have h1 := hA.ev x
    have h2 := hA.ev y
    rw [hx] at h1
    rw [hy] at h2
    obtain ⟨cs, e1, hl⟩ := agg_inv h1
    obtain ⟨v, h3, h4⟩ := part_sound (w := w) h hl
    refine ⟨v, ?_, h4⟩
    simp only [execOp, ho, e1, rep_v h2, Instr.index, asIntOf, Sem.run_bind, run_underlying hu, Result.andThen_ok, Sem.run_pure]
    rw [if_pos ⟨h0, hlt⟩]
    simp [run_sizeT hs, h3]
theorem lenA_rep {g : Gh} {w : World} {a : AV} {v : Value} {m : Nat} (h : lenA a = some m) (hr : Rep g w a v) : (∃ A c, v = .slice A m c) ∨ ∃ s, v = .string s ∧ s.size = m := by
  unfold lenA at h
  split at h
  · obtain rfl := Option.some.inj h
    cases hr with
    | nil => exact .inl ⟨_, _, rfl⟩
    | sl => exact .inl ⟨_, _, rfl⟩
  · obtain rfl := Option.some.inj h
    cases hr with
    | ob => exact .inl ⟨_, _, rfl⟩
  · obtain rfl := Option.some.inj h
    cases hr with
    | v => exact .inr ⟨_, rfl, rfl⟩
  · cases h
theorem toList_one {α : Type} {l : Array α} {x : α} (h : l.toList = [x]) : l = #[x] := by cases l; simp at h; rw [h]
theorem toList_two {α : Type} {l : Array α} {x y : α} (h : l.toList = [x, y]) : l = #[x, y] := by cases l; simp at h; rw [h]
theorem run_len {c : Call} {t : TypeId} {a : AV} {m : Nat} {d : TypeDesc} (ho : o.op = .call c) (hc : c.callee = .builtin .len) (ht : c.argTypes = #[t]) {x : Operand} (hargs : c.args = #[x]) (hx : α.ev x = a) (hm : lenA a = some m) (hu : P.underlying t = some d)
    (hd : (∃ e, d = .slice e ∧ ∀ s, a ≠ .v (.string s)) ∨ (d = .string ∧ ∃ s, a = .v (.string s))) : RunV P w0 n o α S (.v (.int .i64 (m : Int))) S :=
  RunV.quiet fun A g q w hS hA => by
    have h1 := hA.ev x
    rw [hx] at h1
    refine ⟨_, ?_, .v⟩
    rcases hd with ⟨e, rfl, hne⟩ | ⟨rfl, s, rfl⟩
    · rcases lenA_rep hm h1 with ⟨B, k, hv⟩ | ⟨s, hv, _⟩
      · simp [execOp, ho, resolve, hc, hargs, ht, hv, invoke, builtin, Builtin.len_, run_underlying hu, goInt]
      · exfalso
        rw [hv] at h1
        unfold lenA at hm
        split at hm
        · cases h1
        · cases h1
        · exact hne _ rfl
        · cases hm
    · have hv := rep_v h1
      simp only [lenA, Option.some.injEq] at hm
      subst hm
      simp [execOp, ho, resolve, hc, hargs, ht, hv, invoke, builtin, Builtin.len_, run_underlying hu, goInt]
theorem run_min {c : Call} {k : IntKind} {i j : Int} (ho : o.op = .call c) (hc : c.callee = .builtin .min) {x y : Operand} (hargs : c.args = #[x, y]) (hx : α.ev x = .v (.int k i)) (hy : α.ev y = .v (.int k j)) : RunV P w0 n o α S (.v (.int k (min i j))) S :=
  RunV.quiet fun A g q w hS hA => by
    have h1 := hA.ev x
    have h2 := hA.ev y
    rw [hx] at h1
    rw [hy] at h2
    refine ⟨_, ?_, .v⟩
    have : (if j < i then j else i) = min i j := by omega
    simp [execOp, ho, resolve, hc, hargs, rep_v h1, rep_v h2, invoke, builtin, Builtin.min_, Builtin.min2, this]
theorem run_max {c : Call} {k : IntKind} {i j : Int} (ho : o.op = .call c) (hc : c.callee = .builtin .max) {x y : Operand} (hargs : c.args = #[x, y]) (hx : α.ev x = .v (.int k i)) (hy : α.ev y = .v (.int k j)) : RunV P w0 n o α S (.v (.int k (max i j))) S :=
  RunV.quiet fun A g q w hS hA => by
    have h1 := hA.ev x
    have h2 := hA.ev y
    rw [hx] at h1
    rw [hy] at h2
    refine ⟨_, ?_, .v⟩
    have : (if j > i then j else i) = max i j := by omega
    simp [execOp, ho, resolve, hc, hargs, rep_v h1, rep_v h2, invoke, builtin, Builtin.max_, Builtin.max2, this]
end
end Go.Proofs.YtahhaiomdjlckaaDoor
