/-
  What the operations do in a world: loads, stores, and the run of each operation.
-/
import Derived.Test.YtahhaiomdjlckaaDoorOps
import Derived.Laws.AppendOwn
import Derived.Laws.CopyRow
import Derived.Room.Entries
namespace Go.Proofs.YtahhaiomdjlckaaDoor
set_option linter.unusedVariables false
set_option linter.unusedSimpArgs false
open Go.RowKit

theorem addr_add (b o j : Nat) : (⟨b, o, none⟩ : Addr).add j = ⟨b, o + j, none⟩ := by unfold Addr.add; split <;> simp_all
section
variable {P : Program} {g : Gh} {w : World} {S : Store} {t : TypeId}
theorem run_info {i : TypeInfo} (h : P.info? t = some i) : (typeInfo t).run P w = .ok i w := by simp [typeInfo, h]
theorem szT_info {n : Nat} (h : szT P t = some n) : ∃ i, P.info? t = some i ∧ i.size = n := by
  unfold szT at h
  obtain ⟨i, hi, e⟩ := Option.map_eq_some_iff.1 h
  exact ⟨i, hi, e⟩
theorem run_sizeT {n : Nat} (h : szT P t = some n) : (sizeOf t).run P w = .ok n w := by
  obtain ⟨i, hi, rfl⟩ := szT_info h
  simp [sizeOf, typeInfo, hi]
theorem run_zeroT {z : Value} (h : zeroT P t = some z) : (zeroValue t).run P w = .ok z w := by
  unfold zeroT at h
  obtain ⟨i, hi, e⟩ := Option.bind_eq_some_iff.1 h
  simp [zeroValue, typeInfo, hi, e]
theorem run_aggT {b : Bool} (h : aggT P t = some b) : (isAgg t).run P w = .ok b w := by
  unfold aggT at h
  cases hd : P.underlying t with
  | none => rw [hd] at h; cases h
  | some d =>
    rw [hd] at h
    simp only [isAgg, Sem.run_bind, run_underlying hd, Result.andThen_ok]
    cases d <;> simp_all
/-- cells that stand for a row. -/
def Cells (g : Gh) (w : World) (b o : Nat) (row : List AV) : Prop := ∀ (j : Nat) (a : AV), row[j]? = some a → ∃ x, w.cell? ⟨b, o + j, none⟩ = some x ∧ Rep g w a x
theorem Cells.list {b : Nat} : ∀ {row : List AV} {o : Nat}, Cells g w b o row → ∃ cs : List Value, cs.length = row.length ∧ (∀ j x, cs[j]? = some x → w.cell? ⟨b, o + j, none⟩ = some x) ∧ ∀ (j : Nat) (a : AV) (x : Value), row[j]? = some a → cs[j]? = some x → Rep g w a x
  | [], o, h => ⟨[], rfl, fun j x hx => by simp at hx, fun j a x ha => by simp at ha⟩
  | a :: row, o, h => by
    obtain ⟨x, hx, hr⟩ := h 0 a rfl
    obtain ⟨cs, hl, h1, h2⟩ := Cells.list (row := row) (o := o + 1) (fun j a ha => by
      obtain ⟨y, hy, hry⟩ := h (j + 1) a (by simpa using ha)
      exact ⟨y, by rw [← hy]; congr 2; omega, hry⟩)
    refine ⟨x :: cs, by simp [hl], fun j y hy => ?_, fun j a' y ha hy => ?_⟩
    · cases j with
      | zero => simp at hy; subst hy; exact hx
      | succ j => simp at hy; rw [← h1 j y hy]; congr 2; omega
    · cases j with
      | zero => simp at ha hy; subst ha hy; exact hr
      | succ j => simp at ha hy; exact h2 j a' y ha hy
theorem Cells.drop {b o : Nat} {row : List AV} (h : Cells g w b o row) (j : Nat) : Cells g w b (o + j) (row.drop j) := fun i a ha => by
  rw [List.getElem?_drop] at ha
  obtain ⟨x, hx, hr⟩ := h (j + i) a ha
  exact ⟨x, by rw [← hx]; congr 2; omega, hr⟩
theorem Cells.take {b o : Nat} {row : List AV} (h : Cells g w b o row) (n : Nat) : Cells g w b o (row.take n) := fun i a ha => by
  rw [List.getElem?_take] at ha
  split at ha
  · exact h i a ha
  · cases ha
theorem cutL_eq (row : List AV) (j n : Nat) : cutL row j n = (row.drop j).take n := by
  unfold cutL
  split
  · rename_i h
    have := Nat.eq_of_beq_eq_true h
    subst this
    simp
  · rfl
theorem loadR_sound {row : List AV} {j b o : Nat} {r : AV} (h : loadR P t row j = some r) (hc : Cells g w b o row) : ∃ x, (loadVar t ⟨b, o + j, none⟩).run P w = .ok x w ∧ Rep g w r x := by
  unfold loadR at h
  split at h
  · rename_i n ha hs
    split at h
    · rename_i hle
      have hle := Nat.le_of_ble_eq_true hle
      obtain rfl := Option.some.inj h
      rw [cutL_eq]
      obtain ⟨cs, hl, h1, h2⟩ := ((hc.drop j).take n).list
      have hn : cs.length = n := by rw [hl, List.length_take, List.length_drop]; omega
      refine ⟨.agg cs.toArray, ?_, .agg (by simp [hl]) (fun i a x ha hx => h2 i a x ha (by simpa using hx))⟩
      have := run_loadCells_list (P := P) (w := w) ⟨b, o + j, none⟩ cs (fun i v hv => by rw [addr_add]; exact h1 i v hv)
      simp only [loadVar, Sem.run_bind, run_aggT ha, Result.andThen_ok, if_true, run_sizeT hs]
      rw [← hn, this]
      rfl
    · cases h
  · rename_i ha
    obtain ⟨x, hx, hr⟩ := hc j r h
    refine ⟨x, ?_, hr⟩
    simp only [loadVar, Sem.run_bind, run_aggT ha, Result.andThen_ok, if_false, Bool.false_eq_true, run_load, hx]
  · cases h
theorem arr_cells {cp b sz : Nat} {rows : List (List AV)} {fz : Nat} {ex : Bool} (h : ObRep g w b cp (.arr sz rows fz ex)) {i : Nat} {row : List AV} (hr : rows[i]? = some row) : Cells g w b (i * sz) row := by
  obtain ⟨cs, ty, h1, h2, h3, h4, h5, h6, h7⟩ := h
  intro j a ha
  obtain ⟨x, hx, hrx⟩ := (h5 i row hr).2 j a ha
  exact ⟨x, by rw [cell_of_row _ _ _ cs ty (0, 0) h1]; exact hx, hrx⟩
theorem ip_cells {cs : List AV} {v : Value} (h : Rep g w (.ip cs) v) : ∃ b o, v = .pointer (some ⟨b, o, none⟩) ∧ Cells g w b o cs := by
  cases h with
  | ip h hr => exact ⟨_, _, rfl, fun j a ha => ⟨_, (h j a ha).2, hr j a ha⟩⟩
theorem loadA_sound {w0 : World} {A : Nat → Prop} {a r : AV} {v : Value} (hS : St w0 A g S w) (h : loadA P S t a = some r) (hv : Rep g w a v) : ∃ b o x, v = .pointer (some ⟨b, o, none⟩) ∧ (loadVar t ⟨b, o, none⟩).run P w = .ok x w ∧ Rep g w r x := by
  unfold loadA at h
  split at h
  · rename_i row
    obtain ⟨b, o, rfl, hc⟩ := ip_cells hv
    obtain ⟨x, hx, hr⟩ := loadR_sound h hc
    exact ⟨b, o, x, rfl, by simpa using hx, hr⟩
  · rename_i k sz i j
    split at h
    · rename_i sz' rows fz ex hk
      split at h
      · rename_i hsz
        have hsz := Nat.eq_of_beq_eq_true hsz
        subst hsz
        split at h
        · rename_i row hrow
          cases hv with
          | pt hlt =>
            obtain ⟨x, hx, hr⟩ := loadR_sound h (arr_cells (hS.obs k _ hk hlt).2.2 hrow)
            exact ⟨_, _, x, rfl, hx, hr⟩
        · cases h
      · cases h
    · cases h
  · cases h
theorem isCell_rep {a : AV} {x : Value} (h : isCell a = true) (hr : Rep g w a x) : x.oneCell' = true := by
  cases hr <;> simp_all [isCell, Value.oneCell']
theorem cellsA_rep {a : AV} {x : Value} (h : (cellsA a).all isCell = true) (hr : Rep g w a x) : x.cells.size = (cellsA a).length ∧ (∀ (i : Nat) (b : AV) (y : Value), (cellsA a)[i]? = some b → x.cells[i]? = some y → Rep g w b y) ∧ ∀ y ∈ x.cells.toList, y.oneCell' = true := by
  have one : cellsA a = [a] → x.cells.size = (cellsA a).length ∧ (∀ (i : Nat) (b : AV) (y : Value), (cellsA a)[i]? = some b → x.cells[i]? = some y → Rep g w b y) := by
    intro e
    rw [e] at h ⊢
    have h1 : x.oneCell' = true := isCell_rep (by simpa using h) hr
    have e1 : x.cells = #[x] := by cases x <;> simp_all [Value.cells, Value.oneCell']
    rw [e1]
    refine ⟨rfl, fun i b y h1 h2 => ?_⟩
    cases i with
    | zero => simp at h1 h2; subst h1 h2; exact hr
    | succ i => simp at h1
  have key : x.cells.size = (cellsA a).length ∧ (∀ (i : Nat) (b : AV) (y : Value), (cellsA a)[i]? = some b → x.cells[i]? = some y → Rep g w b y) := by
    cases a with
    | agg l => cases hr with | agg hs h' => exact ⟨hs, h'⟩
    | _ => exact one rfl
  refine ⟨key.1, key.2, fun y hy => ?_⟩
  obtain ⟨i, hi, rfl⟩ := List.getElem_of_mem hy
  have hi' : i < (cellsA a).length := by rw [← key.1]; simpa using hi
  have h1 : (cellsA a)[i]? = some (cellsA a)[i] := List.getElem?_eq_getElem hi'
  have h2 : x.cells[i]? = some x.cells.toList[i] := by rw [Array.getElem_toList, Array.getElem?_eq_getElem]
  exact isCell_rep (List.all_eq_true.1 h _ (List.getElem_mem hi')) (key.2 i _ _ h1 h2)
theorem layL_eq (row : List AV) (j : Nat) (cs : List AV) : layL row j cs = row.take j ++ cs ++ row.drop (j + cs.length) := by
  unfold layL
  split
  · rename_i h
    have := Nat.eq_of_beq_eq_true h
    simp [this]
  · rfl
theorem layL_length {row : List AV} {j : Nat} {cs : List AV} (h : j + cs.length ≤ row.length) : (layL row j cs).length = row.length := by
  rw [layL_eq]
  simp
  omega
theorem lay_get {α : Type} (row cs : List α) (j : Nat) (h : j + cs.length ≤ row.length) (q : Nat) : (row.take j ++ cs ++ row.drop (j + cs.length))[q]? = if q < j then row[q]? else if q < j + cs.length then cs[q - j]? else row[q]? := by
  by_cases h1 : q < j
  · rw [if_pos h1, List.append_assoc, List.getElem?_append_left (by simp; omega), List.getElem?_take, if_pos h1]
  · rw [if_neg h1]
    by_cases h2 : q < j + cs.length
    · rw [if_pos h2, List.append_assoc, List.getElem?_append_right (by simp; omega), List.getElem?_append_left (by simp; omega)]
      congr 1
      simp
      omega
    · rw [if_neg h2, List.getElem?_append_right (by simp; omega), List.getElem?_drop]
      congr 1
      simp
      omega
theorem storeA_sound {w0 : World} {A : Nat → Prop} {a b : AV} {v x : Value} {S' : Store} (hS : St w0 A g S w) (h : storeA P S t b a = some S') (hv : Rep g w a v) (hx : Rep g w b x) :
    ∃ c o w', v = .pointer (some ⟨c, o, none⟩) ∧ (storeVar t ⟨c, o, none⟩ x).run P w = .ok () w' ∧ S'.nx = S.nx ∧ Ext A g w g w' ∧ St w0 A g S' w' := by
  unfold storeA at h
  split at h
  · rename_i k sz i j
    split at h
    · rename_i sz' rows ex hk
      split at h
      · rename_i hc
        simp only [Bool.and_eq_true] at hc
        obtain ⟨⟨hsz, hall⟩, hn⟩ := hc
        have hsz := Nat.eq_of_beq_eq_true hsz
        subst hsz
        split at hn
        · rename_i n hs
          have hn := Nat.eq_of_beq_eq_true hn
          split at h
          · rename_i row hrow
            split at h
            · rename_i hle
              have hle := Nat.le_of_ble_eq_true hle
              obtain rfl := Option.some.inj h
              obtain ⟨hcs1, hcs2, hcs3⟩ := cellsA_rep hall hx
              cases hv with
              | pt hlt =>
                obtain ⟨k2, k3, k4⟩ := hS.obs k _ hk hlt
                obtain ⟨cs, ty, h1, h2, h3, h4, h5, h6, h7⟩ := k4
                have hri : i < rows.length := (List.getElem?_eq_some_iff.1 hrow).1
                have hrl := (h5 i row hrow).1
                have hmul : i * sz + sz ≤ rows.length * sz := by
                  have := Nat.mul_le_mul_right sz (show i + 1 ≤ rows.length from hri)
                  rwa [Nat.add_mul, Nat.one_mul] at this
                have hmul2 : rows.length * sz ≤ g.cp k * sz := Nat.mul_le_mul_right sz h3
                have hfit : (i * sz + j) + 0 + x.cells.toList.length ≤ cs.size := by rw [Array.length_toList, hcs1]; omega
                have hrun := run_storeCells_at P (g.ob k) (i * sz + j) ty x.cells.toList 0 cs w h1 hfit hcs3
                simp only [Nat.add_zero] at hrun
                obtain ⟨cs', hcs'⟩ : ∃ cs', cs' = (cs.toList.take (i * sz + j) ++ x.cells.toList ++ cs.toList.drop (i * sz + j + x.cells.toList.length)).toArray := ⟨_, rfl⟩
                rw [← hcs'] at hrun
                have hget : ∀ q, cs'[q]? = if q < i * sz + j then cs[q]? else if q < i * sz + j + (cellsA b).length then x.cells[q - (i * sz + j)]? else cs[q]? := by
                  intro q
                  rw [hcs', List.getElem?_toArray, lay_get _ _ _ (by simpa using hfit)]
                  simp only [Array.getElem?_toList, Array.length_toList, hcs1]
                have hlen : cs'.size = cs.size := by
                  rw [hcs']
                  simp
                  simp at hfit
                  omega
                obtain ⟨hE, hSt⟩ := hS.row hk hlt h1 (cs' := cs') (ob := .arr sz (rows.set i (layL row j (cellsA b))) 0 ex) (fun q hq => absurd ((h7 q).1 hq) (by simp)) (fun hL => by
                  refine ⟨cs', ty, setRow_heap w _ cs cs' ty (0, 0) h1, hlen.trans h2, by simpa using h3, fun he => by simpa using h4 he, fun i' row' hr' => ?_, Nat.zero_le _, h7⟩
                  by_cases e : i' = i
                  · subst e
                    rw [List.getElem?_set_self hri] at hr'
                    obtain rfl := Option.some.inj hr'
                    refine ⟨(layL_length hle).trans hrl, fun j' a' ha' => ?_⟩
                    rw [layL_eq, lay_get _ _ _ hle] at ha'
                    rw [hget]
                    by_cases c1 : j' < j
                    · rw [if_pos c1] at ha'
                      rw [if_pos (by omega)]
                      obtain ⟨y, hy, hry⟩ := (h5 _ row hrow).2 j' a' ha'
                      exact ⟨y, hy, hry.later hL⟩
                    · rw [if_neg c1] at ha'
                      rw [if_neg (by omega)]
                      by_cases c2 : j' < j + (cellsA b).length
                      · rw [if_pos c2] at ha'
                        rw [if_pos (by omega), show i' * sz + j' - (i' * sz + j) = j' - j by omega]
                        have hlt' : j' - j < x.cells.size := by rw [hcs1]; omega
                        exact ⟨x.cells[j' - j], Array.getElem?_eq_getElem hlt', (hcs2 _ _ _ ha' (Array.getElem?_eq_getElem hlt')).later hL⟩
                      · rw [if_neg c2] at ha'
                        rw [if_neg (by omega)]
                        obtain ⟨y, hy, hry⟩ := (h5 _ row hrow).2 j' a' ha'
                        exact ⟨y, hy, hry.later hL⟩
                  · rw [List.getElem?_set_ne (Ne.symm e)] at hr'
                    refine ⟨(h5 i' row' hr').1, fun j' a' ha' => ?_⟩
                    obtain ⟨y, hy, hry⟩ := (h5 i' row' hr').2 j' a' ha'
                    have hj' : j' < sz := by rw [← (h5 i' row' hr').1]; exact (List.getElem?_eq_some_iff.1 ha').1
                    refine ⟨y, ?_, hry.later hL⟩
                    rw [hget]
                    rcases Nat.lt_or_gt_of_ne e with c | c
                    · have : i' * sz + sz ≤ i * sz := by
                        have := Nat.mul_le_mul_right sz (show i' + 1 ≤ i from c)
                        rwa [Nat.add_mul, Nat.one_mul] at this
                      rw [if_pos (by omega)]
                      exact hy
                    · have : i * sz + sz ≤ i' * sz := by
                        have := Nat.mul_le_mul_right sz (show i + 1 ≤ i' from c)
                        rwa [Nat.add_mul, Nat.one_mul] at this
                      rw [if_neg (by omega), if_neg (by omega)]
                      exact hy)
                refine ⟨_, _, _, rfl, ?_, rfl, hE, hSt⟩
                have e : x.cells.size = n := hcs1.trans hn.symm
                simp only [storeVar, Sem.run_bind, run_sizeT hs, Result.andThen_ok, e, ne_eq, not_true, if_false]
                exact hrun
            · cases h
          · cases h
        · cases hn
      · cases h
    · cases h
  · cases h
end
end Go.Proofs.YtahhaiomdjlckaaDoor
