/-
  The rule of the examples.
-/
import Derived.Test.YtahhaiomdjlckaaW19
namespace Go.Proofs.Ytahhaiomdjlckaa
set_option linter.unusedVariables false
set_option linter.unusedSimpArgs false
open Go.RowKit

def leqS : ByteArray := ⟨#[108, 101, 113]⟩
def exVar (i : Int) : Tm := .mk 1 i ⟨#[]⟩ []
def exAt : At := ⟨leqS, [exVar 0, exVar 1]⟩
def exRl : Rl := ⟨⟨#[]⟩, [exAt], [exAt], [], [], 2⟩
theorem set_block {w : World} {b i : Nat} {u : Value} {c : Array Value} {t : TypeId} {fr : Nat × Nat} (h : w.heap[b]? = some (.cells c t fr)) : (w.setCell ⟨b, i, none⟩ u).heap[b]? = some (.cells (c.setIfInBounds i u) t fr) := by
  have hlt := lt_of_block h
  have h' : w.heap[b] = .cells c t fr := by simpa [Array.getElem?_eq_getElem hlt] using h
  show (w.heap.modify b _)[b]? = _
  rw [Array.getElem?_eq_getElem (by simpa using hlt), Array.getElem_modify_self, h']
  rfl
set_option maxRecDepth 100000 in
set_option maxHeartbeats 1000000 in
theorem rule_any (w : World) : Calls Try.prog 33 #[] w fun e w' =>
    (∃ A c, e = .returned (rlv exRl A A none none c c 0 0) ∧ SlAt AtAt 2 w' A exRl.kp) ∧ Below w.heap.size w w' := by
  go_enter Try.func33, Try.ntmps33
  go_wp2_with fail
  refine (var_any 0 _).mono ?_
  rintro e w1 ⟨rfl, hb1⟩
  go_wp2_with fail
  refine (var_any 1 _).mono ?_
  rintro e w2 ⟨rfl, hb2⟩
  have s1 := hb1.size
  have s2 := hb2.size
  simp only [World.size_alloc] at s1
  have B0 : Below (w.heap.size + 1) (w.alloc (.cells #[.string ⟨#[]⟩, .slice none 0 0, .slice none 0 0, .slice none 0 0, .slice none 0 0, .int .i64 0] 25)) ((w2.alloc (.cells #[.int .i64 1, .int .i64 0, .string ⟨#[]⟩, .slice none 0 0, .int .i64 1, .int .i64 1, .string ⟨#[]⟩, .slice none 0 0] 69)).alloc (.cells #[.string ⟨#[108, 101, 113]⟩, .slice (some ⟨w2.heap.size, 0, none⟩) 2 2] 52)) :=
    (((hb1.mono (by simp)).trans (hb2.mono (by omega))).alloc (by omega) _).alloc (by simp; omega) _
  have hB : ((w2.alloc (.cells #[.int .i64 1, .int .i64 0, .string ⟨#[]⟩, .slice none 0 0, .int .i64 1, .int .i64 1, .string ⟨#[]⟩, .slice none 0 0] 69)).alloc (.cells #[.string ⟨#[108, 101, 113]⟩, .slice (some ⟨w2.heap.size, 0, none⟩) 2 2] 52)).heap[w.heap.size]? = some (.cells #[.string ⟨#[]⟩, .slice none 0 0, .slice none 0 0, .slice none 0 0, .slice none 0 0, .int .i64 0] 25 (0, 0)) := (B0.block _ (by omega)).trans (heap_alloc_new _ _)
  have c0 : ((w2.alloc (.cells #[.int .i64 1, .int .i64 0, .string ⟨#[]⟩, .slice none 0 0, .int .i64 1, .int .i64 1, .string ⟨#[]⟩, .slice none 0 0] 69)).alloc (.cells #[.string ⟨#[108, 101, 113]⟩, .slice (some ⟨w2.heap.size, 0, none⟩) 2 2] 52)).cell? ⟨w.heap.size, 0, none⟩ = some (.string ⟨#[]⟩) := by rw [cell_of_row _ _ 0 _ _ _ hB]; rfl
  have f0 : ((w2.alloc (.cells #[.int .i64 1, .int .i64 0, .string ⟨#[]⟩, .slice none 0 0, .int .i64 1, .int .i64 1, .string ⟨#[]⟩, .slice none 0 0] 69)).alloc (.cells #[.string ⟨#[108, 101, 113]⟩, .slice (some ⟨w2.heap.size, 0, none⟩) 2 2] 52)).frozen? ⟨w.heap.size, 0, none⟩ = false := by simp [World.frozen?, hB]
  have c1 : ((w2.alloc (.cells #[.int .i64 1, .int .i64 0, .string ⟨#[]⟩, .slice none 0 0, .int .i64 1, .int .i64 1, .string ⟨#[]⟩, .slice none 0 0] 69)).alloc (.cells #[.string ⟨#[108, 101, 113]⟩, .slice (some ⟨w2.heap.size, 0, none⟩) 2 2] 52)).cell? ⟨w.heap.size, 1, none⟩ = some (.slice none 0 0) := by rw [cell_of_row _ _ 1 _ _ _ hB]; rfl
  have f1 : ((w2.alloc (.cells #[.int .i64 1, .int .i64 0, .string ⟨#[]⟩, .slice none 0 0, .int .i64 1, .int .i64 1, .string ⟨#[]⟩, .slice none 0 0] 69)).alloc (.cells #[.string ⟨#[108, 101, 113]⟩, .slice (some ⟨w2.heap.size, 0, none⟩) 2 2] 52)).frozen? ⟨w.heap.size, 1, none⟩ = false := by simp [World.frozen?, hB]
  have c2 : ((w2.alloc (.cells #[.int .i64 1, .int .i64 0, .string ⟨#[]⟩, .slice none 0 0, .int .i64 1, .int .i64 1, .string ⟨#[]⟩, .slice none 0 0] 69)).alloc (.cells #[.string ⟨#[108, 101, 113]⟩, .slice (some ⟨w2.heap.size, 0, none⟩) 2 2] 52)).cell? ⟨w.heap.size, 2, none⟩ = some (.slice none 0 0) := by rw [cell_of_row _ _ 2 _ _ _ hB]; rfl
  have f2 : ((w2.alloc (.cells #[.int .i64 1, .int .i64 0, .string ⟨#[]⟩, .slice none 0 0, .int .i64 1, .int .i64 1, .string ⟨#[]⟩, .slice none 0 0] 69)).alloc (.cells #[.string ⟨#[108, 101, 113]⟩, .slice (some ⟨w2.heap.size, 0, none⟩) 2 2] 52)).frozen? ⟨w.heap.size, 2, none⟩ = false := by simp [World.frozen?, hB]
  have c3 : ((w2.alloc (.cells #[.int .i64 1, .int .i64 0, .string ⟨#[]⟩, .slice none 0 0, .int .i64 1, .int .i64 1, .string ⟨#[]⟩, .slice none 0 0] 69)).alloc (.cells #[.string ⟨#[108, 101, 113]⟩, .slice (some ⟨w2.heap.size, 0, none⟩) 2 2] 52)).cell? ⟨w.heap.size, 3, none⟩ = some (.slice none 0 0) := by rw [cell_of_row _ _ 3 _ _ _ hB]; rfl
  have f3 : ((w2.alloc (.cells #[.int .i64 1, .int .i64 0, .string ⟨#[]⟩, .slice none 0 0, .int .i64 1, .int .i64 1, .string ⟨#[]⟩, .slice none 0 0] 69)).alloc (.cells #[.string ⟨#[108, 101, 113]⟩, .slice (some ⟨w2.heap.size, 0, none⟩) 2 2] 52)).frozen? ⟨w.heap.size, 3, none⟩ = false := by simp [World.frozen?, hB]
  have c4 : ((w2.alloc (.cells #[.int .i64 1, .int .i64 0, .string ⟨#[]⟩, .slice none 0 0, .int .i64 1, .int .i64 1, .string ⟨#[]⟩, .slice none 0 0] 69)).alloc (.cells #[.string ⟨#[108, 101, 113]⟩, .slice (some ⟨w2.heap.size, 0, none⟩) 2 2] 52)).cell? ⟨w.heap.size, 4, none⟩ = some (.slice none 0 0) := by rw [cell_of_row _ _ 4 _ _ _ hB]; rfl
  have f4 : ((w2.alloc (.cells #[.int .i64 1, .int .i64 0, .string ⟨#[]⟩, .slice none 0 0, .int .i64 1, .int .i64 1, .string ⟨#[]⟩, .slice none 0 0] 69)).alloc (.cells #[.string ⟨#[108, 101, 113]⟩, .slice (some ⟨w2.heap.size, 0, none⟩) 2 2] 52)).frozen? ⟨w.heap.size, 4, none⟩ = false := by simp [World.frozen?, hB]
  have c5 : ((w2.alloc (.cells #[.int .i64 1, .int .i64 0, .string ⟨#[]⟩, .slice none 0 0, .int .i64 1, .int .i64 1, .string ⟨#[]⟩, .slice none 0 0] 69)).alloc (.cells #[.string ⟨#[108, 101, 113]⟩, .slice (some ⟨w2.heap.size, 0, none⟩) 2 2] 52)).cell? ⟨w.heap.size, 5, none⟩ = some (.int .i64 0) := by rw [cell_of_row _ _ 5 _ _ _ hB]; rfl
  have f5 : ((w2.alloc (.cells #[.int .i64 1, .int .i64 0, .string ⟨#[]⟩, .slice none 0 0, .int .i64 1, .int .i64 1, .string ⟨#[]⟩, .slice none 0 0] 69)).alloc (.cells #[.string ⟨#[108, 101, 113]⟩, .slice (some ⟨w2.heap.size, 0, none⟩) 2 2] 52)).frozen? ⟨w.heap.size, 5, none⟩ = false := by simp [World.frozen?, hB]
  have hF : ((((((((w2.alloc (.cells #[.int .i64 1, .int .i64 0, .string ⟨#[]⟩, .slice none 0 0, .int .i64 1, .int .i64 1, .string ⟨#[]⟩, .slice none 0 0] 69)).alloc (.cells #[.string ⟨#[108, 101, 113]⟩, .slice (some ⟨w2.heap.size, 0, none⟩) 2 2] 52)).setCell ⟨w.heap.size, 0, none⟩ (.string ⟨#[]⟩)).setCell ⟨w.heap.size, 1, none⟩ (.slice (some ⟨w2.heap.size + 1, 0, none⟩) 1 1)).setCell ⟨w.heap.size, 2, none⟩ (.slice (some ⟨w2.heap.size + 1, 0, none⟩) 1 1)).setCell ⟨w.heap.size, 3, none⟩ (.slice none 0 0)).setCell ⟨w.heap.size, 4, none⟩ (.slice none 0 0)).setCell ⟨w.heap.size, 5, none⟩ (.int .i64 2)).heap[w.heap.size]? = some (.cells #[.string ⟨#[]⟩, .slice (some ⟨w2.heap.size + 1, 0, none⟩) 1 1, .slice (some ⟨w2.heap.size + 1, 0, none⟩) 1 1, .slice none 0 0, .slice none 0 0, .int .i64 2] 25 (0, 0)) := set_block (set_block (set_block (set_block (set_block (set_block hB)))))
  have g0 : ((((((((w2.alloc (.cells #[.int .i64 1, .int .i64 0, .string ⟨#[]⟩, .slice none 0 0, .int .i64 1, .int .i64 1, .string ⟨#[]⟩, .slice none 0 0] 69)).alloc (.cells #[.string ⟨#[108, 101, 113]⟩, .slice (some ⟨w2.heap.size, 0, none⟩) 2 2] 52)).setCell ⟨w.heap.size, 0, none⟩ (.string ⟨#[]⟩)).setCell ⟨w.heap.size, 1, none⟩ (.slice (some ⟨w2.heap.size + 1, 0, none⟩) 1 1)).setCell ⟨w.heap.size, 2, none⟩ (.slice (some ⟨w2.heap.size + 1, 0, none⟩) 1 1)).setCell ⟨w.heap.size, 3, none⟩ (.slice none 0 0)).setCell ⟨w.heap.size, 4, none⟩ (.slice none 0 0)).setCell ⟨w.heap.size, 5, none⟩ (.int .i64 2)).cell? ⟨w.heap.size, 0, none⟩ = some (.string ⟨#[]⟩) := by rw [cell_of_row _ _ 0 _ _ _ hF]; rfl
  have g1 : ((((((((w2.alloc (.cells #[.int .i64 1, .int .i64 0, .string ⟨#[]⟩, .slice none 0 0, .int .i64 1, .int .i64 1, .string ⟨#[]⟩, .slice none 0 0] 69)).alloc (.cells #[.string ⟨#[108, 101, 113]⟩, .slice (some ⟨w2.heap.size, 0, none⟩) 2 2] 52)).setCell ⟨w.heap.size, 0, none⟩ (.string ⟨#[]⟩)).setCell ⟨w.heap.size, 1, none⟩ (.slice (some ⟨w2.heap.size + 1, 0, none⟩) 1 1)).setCell ⟨w.heap.size, 2, none⟩ (.slice (some ⟨w2.heap.size + 1, 0, none⟩) 1 1)).setCell ⟨w.heap.size, 3, none⟩ (.slice none 0 0)).setCell ⟨w.heap.size, 4, none⟩ (.slice none 0 0)).setCell ⟨w.heap.size, 5, none⟩ (.int .i64 2)).cell? ⟨w.heap.size, 1, none⟩ = some (.slice (some ⟨w2.heap.size + 1, 0, none⟩) 1 1) := by rw [cell_of_row _ _ 1 _ _ _ hF]; rfl
  have g2 : ((((((((w2.alloc (.cells #[.int .i64 1, .int .i64 0, .string ⟨#[]⟩, .slice none 0 0, .int .i64 1, .int .i64 1, .string ⟨#[]⟩, .slice none 0 0] 69)).alloc (.cells #[.string ⟨#[108, 101, 113]⟩, .slice (some ⟨w2.heap.size, 0, none⟩) 2 2] 52)).setCell ⟨w.heap.size, 0, none⟩ (.string ⟨#[]⟩)).setCell ⟨w.heap.size, 1, none⟩ (.slice (some ⟨w2.heap.size + 1, 0, none⟩) 1 1)).setCell ⟨w.heap.size, 2, none⟩ (.slice (some ⟨w2.heap.size + 1, 0, none⟩) 1 1)).setCell ⟨w.heap.size, 3, none⟩ (.slice none 0 0)).setCell ⟨w.heap.size, 4, none⟩ (.slice none 0 0)).setCell ⟨w.heap.size, 5, none⟩ (.int .i64 2)).cell? ⟨w.heap.size, 2, none⟩ = some (.slice (some ⟨w2.heap.size + 1, 0, none⟩) 1 1) := by rw [cell_of_row _ _ 2 _ _ _ hF]; rfl
  have g3 : ((((((((w2.alloc (.cells #[.int .i64 1, .int .i64 0, .string ⟨#[]⟩, .slice none 0 0, .int .i64 1, .int .i64 1, .string ⟨#[]⟩, .slice none 0 0] 69)).alloc (.cells #[.string ⟨#[108, 101, 113]⟩, .slice (some ⟨w2.heap.size, 0, none⟩) 2 2] 52)).setCell ⟨w.heap.size, 0, none⟩ (.string ⟨#[]⟩)).setCell ⟨w.heap.size, 1, none⟩ (.slice (some ⟨w2.heap.size + 1, 0, none⟩) 1 1)).setCell ⟨w.heap.size, 2, none⟩ (.slice (some ⟨w2.heap.size + 1, 0, none⟩) 1 1)).setCell ⟨w.heap.size, 3, none⟩ (.slice none 0 0)).setCell ⟨w.heap.size, 4, none⟩ (.slice none 0 0)).setCell ⟨w.heap.size, 5, none⟩ (.int .i64 2)).cell? ⟨w.heap.size, 3, none⟩ = some (.slice none 0 0) := by rw [cell_of_row _ _ 3 _ _ _ hF]; rfl
  have g4 : ((((((((w2.alloc (.cells #[.int .i64 1, .int .i64 0, .string ⟨#[]⟩, .slice none 0 0, .int .i64 1, .int .i64 1, .string ⟨#[]⟩, .slice none 0 0] 69)).alloc (.cells #[.string ⟨#[108, 101, 113]⟩, .slice (some ⟨w2.heap.size, 0, none⟩) 2 2] 52)).setCell ⟨w.heap.size, 0, none⟩ (.string ⟨#[]⟩)).setCell ⟨w.heap.size, 1, none⟩ (.slice (some ⟨w2.heap.size + 1, 0, none⟩) 1 1)).setCell ⟨w.heap.size, 2, none⟩ (.slice (some ⟨w2.heap.size + 1, 0, none⟩) 1 1)).setCell ⟨w.heap.size, 3, none⟩ (.slice none 0 0)).setCell ⟨w.heap.size, 4, none⟩ (.slice none 0 0)).setCell ⟨w.heap.size, 5, none⟩ (.int .i64 2)).cell? ⟨w.heap.size, 4, none⟩ = some (.slice none 0 0) := by rw [cell_of_row _ _ 4 _ _ _ hF]; rfl
  have g5 : ((((((((w2.alloc (.cells #[.int .i64 1, .int .i64 0, .string ⟨#[]⟩, .slice none 0 0, .int .i64 1, .int .i64 1, .string ⟨#[]⟩, .slice none 0 0] 69)).alloc (.cells #[.string ⟨#[108, 101, 113]⟩, .slice (some ⟨w2.heap.size, 0, none⟩) 2 2] 52)).setCell ⟨w.heap.size, 0, none⟩ (.string ⟨#[]⟩)).setCell ⟨w.heap.size, 1, none⟩ (.slice (some ⟨w2.heap.size + 1, 0, none⟩) 1 1)).setCell ⟨w.heap.size, 2, none⟩ (.slice (some ⟨w2.heap.size + 1, 0, none⟩) 1 1)).setCell ⟨w.heap.size, 3, none⟩ (.slice none 0 0)).setCell ⟨w.heap.size, 4, none⟩ (.slice none 0 0)).setCell ⟨w.heap.size, 5, none⟩ (.int .i64 2)).cell? ⟨w.heap.size, 5, none⟩ = some (.int .i64 2) := by rw [cell_of_row _ _ 5 _ _ _ hF]; rfl
  have hT : ((((((((w2.alloc (.cells #[.int .i64 1, .int .i64 0, .string ⟨#[]⟩, .slice none 0 0, .int .i64 1, .int .i64 1, .string ⟨#[]⟩, .slice none 0 0] 69)).alloc (.cells #[.string ⟨#[108, 101, 113]⟩, .slice (some ⟨w2.heap.size, 0, none⟩) 2 2] 52)).setCell ⟨w.heap.size, 0, none⟩ (.string ⟨#[]⟩)).setCell ⟨w.heap.size, 1, none⟩ (.slice (some ⟨w2.heap.size + 1, 0, none⟩) 1 1)).setCell ⟨w.heap.size, 2, none⟩ (.slice (some ⟨w2.heap.size + 1, 0, none⟩) 1 1)).setCell ⟨w.heap.size, 3, none⟩ (.slice none 0 0)).setCell ⟨w.heap.size, 4, none⟩ (.slice none 0 0)).setCell ⟨w.heap.size, 5, none⟩ (.int .i64 2)).heap[w2.heap.size]? = some (.cells #[.int .i64 1, .int .i64 0, .string ⟨#[]⟩, .slice none 0 0, .int .i64 1, .int .i64 1, .string ⟨#[]⟩, .slice none 0 0] 69 (0, 0)) := by
    iterate 6 rw [Below.heap_setCell _ _ _ _ (by simp; omega)]
    exact heap_alloc2_old _ _ _
  have hA : ((((((((w2.alloc (.cells #[.int .i64 1, .int .i64 0, .string ⟨#[]⟩, .slice none 0 0, .int .i64 1, .int .i64 1, .string ⟨#[]⟩, .slice none 0 0] 69)).alloc (.cells #[.string ⟨#[108, 101, 113]⟩, .slice (some ⟨w2.heap.size, 0, none⟩) 2 2] 52)).setCell ⟨w.heap.size, 0, none⟩ (.string ⟨#[]⟩)).setCell ⟨w.heap.size, 1, none⟩ (.slice (some ⟨w2.heap.size + 1, 0, none⟩) 1 1)).setCell ⟨w.heap.size, 2, none⟩ (.slice (some ⟨w2.heap.size + 1, 0, none⟩) 1 1)).setCell ⟨w.heap.size, 3, none⟩ (.slice none 0 0)).setCell ⟨w.heap.size, 4, none⟩ (.slice none 0 0)).setCell ⟨w.heap.size, 5, none⟩ (.int .i64 2)).heap[w2.heap.size + 1]? = some (.cells #[.string ⟨#[108, 101, 113]⟩, .slice (some ⟨w2.heap.size, 0, none⟩) 2 2] 52 (0, 0)) := by
    iterate 6 rw [Below.heap_setCell _ _ _ _ (by simp; omega)]
    exact heap_alloc2_new _ _ _
  have hbf : Below w.heap.size w ((((((((w2.alloc (.cells #[.int .i64 1, .int .i64 0, .string ⟨#[]⟩, .slice none 0 0, .int .i64 1, .int .i64 1, .string ⟨#[]⟩, .slice none 0 0] 69)).alloc (.cells #[.string ⟨#[108, 101, 113]⟩, .slice (some ⟨w2.heap.size, 0, none⟩) 2 2] 52)).setCell ⟨w.heap.size, 0, none⟩ (.string ⟨#[]⟩)).setCell ⟨w.heap.size, 1, none⟩ (.slice (some ⟨w2.heap.size + 1, 0, none⟩) 1 1)).setCell ⟨w.heap.size, 2, none⟩ (.slice (some ⟨w2.heap.size + 1, 0, none⟩) 1 1)).setCell ⟨w.heap.size, 3, none⟩ (.slice none 0 0)).setCell ⟨w.heap.size, 4, none⟩ (.slice none 0 0)).setCell ⟨w.heap.size, 5, none⟩ (.int .i64 2)) := ((((((((Below.refl w.heap.size w).alloc (Nat.le_refl _) _).trans (B0.mono (by omega))).setCell (by simp) _).setCell (by simp) _).setCell (by simp) _).setCell (by simp) _).setCell (by simp) _).setCell (by simp) _
  clear hB hF
  go_wp2
  generalize ((((((((w2.alloc (.cells #[.int .i64 1, .int .i64 0, .string ⟨#[]⟩, .slice none 0 0, .int .i64 1, .int .i64 1, .string ⟨#[]⟩, .slice none 0 0] 69)).alloc (.cells #[.string ⟨#[108, 101, 113]⟩, .slice (some ⟨w2.heap.size, 0, none⟩) 2 2] 52)).setCell ⟨w.heap.size, 0, none⟩ (.string ⟨#[]⟩)).setCell ⟨w.heap.size, 1, none⟩ (.slice (some ⟨w2.heap.size + 1, 0, none⟩) 1 1)).setCell ⟨w.heap.size, 2, none⟩ (.slice (some ⟨w2.heap.size + 1, 0, none⟩) 1 1)).setCell ⟨w.heap.size, 3, none⟩ (.slice none 0 0)).setCell ⟨w.heap.size, 4, none⟩ (.slice none 0 0)).setCell ⟨w.heap.size, 5, none⟩ (.int .i64 2)) = G at hT hA hbf g0 g1 g2 g3 g4 g5 ⊢
  refine bodyPost_ret (v := rlv exRl (some ⟨w2.heap.size + 1, 0, none⟩) (some ⟨w2.heap.size + 1, 0, none⟩) none none 1 1 0 0) (by simp [results, Try.results33, go_sem, g0, g1, g2, g3, g4, g5, rlv, exRl]) rfl ⟨⟨_, _, rfl, ?_⟩, hbf⟩
  have hTlt := lt_of_block hT
  have hAlt := lt_of_block hA
  have t : ∀ j, G.cell? ⟨w2.heap.size, j, none⟩ = (#[.int .i64 1, .int .i64 0, .string ⟨#[]⟩, .slice none 0 0, .int .i64 1, .int .i64 1, .string ⟨#[]⟩, .slice none 0 0] : Array Value)[j]? := fun j => cell_of_row _ _ j _ _ _ hT
  have u : ∀ j, G.cell? ⟨w2.heap.size + 1, j, none⟩ = (#[.string ⟨#[108, 101, 113]⟩, .slice (some ⟨w2.heap.size, 0, none⟩) 2 2] : Array Value)[j]? := fun j => cell_of_row _ _ j _ _ _ hA
  have tv : ∀ i : Int, ∀ o, I64 i → G.cell? ⟨w2.heap.size, o, none⟩ = some (.int .i64 1) → G.cell? ⟨w2.heap.size, o + 1, none⟩ = some (.int .i64 i) → G.cell? ⟨w2.heap.size, o + 2, none⟩ = some (.string ⟨#[]⟩) → G.cell? ⟨w2.heap.size, o + 3, none⟩ = some (.slice none 0 0) → TmAt G w2.heap.size o (exVar i) :=
    fun i o hi h0 h1 h2 h3 => TmAt.mk (b' := 0) (off' := 0) ⟨h0, by unfold I64; omega⟩ ⟨h1, hi⟩ ⟨h2, Nat.zero_le _⟩ h3 (Nat.zero_le _) (fun h => absurd rfl h) (fun k x h => by simp at h)
  refine ⟨by simp [exRl, maxLen], fun k x hx => ?_⟩
  have hk0 : k = 0 ∧ x = exAt := by
    match k, hx with
    | 0, hx => simpa [exRl, eq_comm] using hx
    | k + 1, hx => simp [exRl] at hx
  obtain ⟨rfl, rfl⟩ := hk0
  refine ⟨_, _, rfl, hAlt, ⟨u 0, by show (3 : Nat) ≤ 2 ^ 63 - 1; omega⟩, _, _, u 1, by simp [exAt, maxLen], fun k x hx => ?_⟩
  match k, hx with
  | 0, hx =>
    obtain rfl : exVar 0 = x := by simpa [exAt] using hx
    exact ⟨_, _, rfl, hTlt, tv 0 _ (by unfold I64; omega) (t 0) (t 1) (t 2) (t 3)⟩
  | 1, hx =>
    obtain rfl : exVar 1 = x := by simpa [exAt] using hx
    exact ⟨_, _, rfl, hTlt, tv 1 _ (by unfold I64; omega) (t 4) (t 5) (t 6) (t 7)⟩
  | k + 2, hx => simp [exAt] at hx
end Go.Proofs.Ytahhaiomdjlckaa
