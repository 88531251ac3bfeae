/-
  trace: what the library returns: Itoa, Split, CutSuffix.
-/
import Derived.Test.YtahhaiomdjlckaaDoorD1
import Derived.Test.YtahhaiomdjlckaaDoorLib
import Derived.Test.YtahhaiomdjlckaaDoorShelf
import Derived.Lib.AppendIntMem
import Derived.Lib.CountLaws
import Derived.Lib.CutLaws
import Derived.Lib.Split
namespace Go.Proofs.YtahhaiomdjlckaaDoor
set_option linter.unusedVariables false
set_option linter.unusedSimpArgs false
open Go.RowKit Go.Sort

/-- what the library's variables hold. -/
structure Env (w0 : World) : Prop where
  tab : Lib.TabIs Tryd.prog w0 "internal/strconv.uint64pow10" .u64 Lib.pow10Tab
  one : ∃ m, w0.cell? ⟨1, 0, none⟩ = some (.int .i64 m)
def srow (s : ByteArray) : List AV := [.v (.string s)]
theorem srow_p (s : ByteArray) : ∀ a ∈ srow s, Pure a := fun a ha => by
  obtain rfl := List.mem_singleton.1 ha
  exact .v
theorem strs_pure {ρ : Hd} (l : List ByteArray) {ex : Bool} : Pure (lst ρ srow ex l) := lst_pure fun x _ => srow_p x
def itoaB (n : Int) : ByteArray := ⟨(Lib.itoa n).toArray⟩
theorem cell_lt {w : World} {b q : Nat} {x : Value} (h : w.cell? ⟨b, q, none⟩ = some x) : b < w.heap.size := by
  rcases Nat.lt_or_ge b w.heap.size with h1 | h1
  · exact h1
  · simp [World.cell?, Array.getElem?_eq_none h1] at h
theorem splitB_len {sep : ByteArray} (h1 : 1 ≤ sep.size) : ∀ (k : Nat) (s : ByteArray), Lib.countB s sep = k → (Lib.splitB sep 0 k s).length = k + 1
  | 0, s, _ => rfl
  | k + 1, s, h => by
    rcases Lib.indexB_cases s sep with hm | ⟨i, hi, _⟩
    · rw [Lib.countB_miss s sep hm] at h; cases h
    · rw [Lib.countB_hit s sep i h1 hi] at h
      rw [Lib.splitB_hit sep 0 k s i hi, List.length_cons, splitB_len h1 k _ (by omega)]
section
variable {w0 : World} {ρ : Hd}
set_option maxRecDepth 100000
theorem itoa_h (hE : Env w0) (n : Int) (h0 : -9223372036854775808 ≤ n) (h1 : n ≤ 9223372036854775807) : PCal Tryd.prog w0 20 [iv n] (.v (.string (itoaB n))) := by
  refine PCal.of_calls (xs := [.int .i64 n]) Tryd.call20 .v fun w hb => ?_
  refine (Tryd.strconv_Itoa n h0 h1 w (Lib.tabBelow_of_tabIs hE.tab w hb)).mono ?_
  rintro e w' ⟨rfl, k, os, rfl⟩
  refine ⟨_, rfl, ⟨rfl, rfl, rfl, ?_, fun b hlt => ?_⟩, fun g hg => .v⟩
  · simp [grow]
  · show ((w.drewN k).heap ++ os)[b]? = w.heap[b]?
    rw [Array.getElem?_append_left (by simpa using hlt)]
    rfl
theorem split_h (hE : Env w0) (s sep : ByteArray) (hs : s.size < 4294967281) (h1 : 1 ≤ sep.size) : PCal Tryd.prog w0 34 [.v (.string s), .v (.string sep)] (lst ρ srow false (Lib.splitB sep 0 (Lib.countB s sep) s)) := by
  refine PCal.of_calls (xs := [.string s, .string sep]) Tryd.call34 (strs_pure _) fun w hb => ?_
  obtain ⟨m, hm⟩ := hE.one
  have hm' : w.cell? ⟨1, 0, none⟩ = some (.int .i64 m) := by rw [← hm]; exact World.cell?_of_block (hb.block 1 (cell_lt hm))
  refine (Tryd.strings_Split s sep m w hs hm' h1).mono ?_
  rintro e w' ⟨rfl, rfl⟩
  obtain ⟨L, hL⟩ : ∃ L, Lib.splitB sep 0 (Lib.countB s sep) s = L := ⟨_, rfl⟩
  have hlen : Lib.countB s sep + 1 = L.length := by
    rw [← hL, splitB_len h1 _ s rfl]
  rw [hL, hlen]
  refine ⟨_, rfl, (Below.refl _ _).alloc (Nat.le_refl _) _, fun g hg => ?_⟩
  rw [lst_eq]
  have hne : L.map srow ≠ [] := by
    cases L with
    | nil => simp at hlen
    | cons x l => simp
  have hcell : ∀ i (h : i < L.length), (w.alloc (.cells (L.map Value.string).toArray 9)).cell? ⟨w.heap.size, 0 + (i * 1 + 0), none⟩ = some (.string L[i]) := by
    intro i h
    have hb : (w.alloc (.cells (L.map Value.string).toArray 9)).heap[w.heap.size]? = some (.cells (L.map Value.string).toArray 9 (0, 0)) := Array.getElem?_push_size
    rw [Nat.mul_one, Nat.add_zero, Nat.zero_add, cell_of_row _ _ i _ _ _ hb]
    simp only [List.getElem?_toArray, List.getElem?_map, List.getElem?_eq_getElem h, Option.map_some]
  have := Rep.sl (g := g) (w := w.alloc (.cells (L.map Value.string).toArray 9)) (ex := false) (rows := L.map srow) (b := w.heap.size) (o := 0) (sz := 1) (c := L.length) (val := fun i j => .string (L.getD i ⟨#[]⟩)) hne (fun h => by cases h) (by simp) ?_ ?_ ?_
  · simpa using this
  · intro i row hr
    simp only [List.getElem?_map, Option.map_eq_some_iff] at hr
    obtain ⟨x, _, rfl⟩ := hr
    rfl
  · intro i j row a hr ha
    simp only [List.getElem?_map, Option.map_eq_some_iff] at hr
    obtain ⟨x, hx, rfl⟩ := hr
    have hj : j = 0 := by
      cases j with
      | zero => rfl
      | succ j => simp [srow] at ha
    subst hj
    obtain ⟨hi, he⟩ := List.getElem?_eq_some_iff.1 hx
    refine ⟨hg _ _ (Nat.le_refl _) (by show w.heap.size < (w.heap.push _).size; rw [Array.size_push]; omega), ?_⟩
    rw [hcell i hi, List.getD_eq_getElem?_getD, hx, he]
    rfl
  · intro i j row a hr ha
    simp only [List.getElem?_map, Option.map_eq_some_iff] at hr
    obtain ⟨x, hx, rfl⟩ := hr
    have hj : j = 0 := by
      cases j with
      | zero => rfl
      | succ j => simp [srow] at ha
    subst hj
    simp only [srow, List.getElem?_cons_zero, Option.some.injEq] at ha
    subst ha
    rw [List.getD_eq_getElem?_getD, hx]
    exact .v
end
end Go.Proofs.YtahhaiomdjlckaaDoor
