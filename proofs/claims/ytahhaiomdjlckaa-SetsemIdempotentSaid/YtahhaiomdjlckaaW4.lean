/-
  The walks of comparison of constraints, and of the reference's comparison of numbers, texts and kinds.
-/
import Derived.Test.YtahhaiomdjlckaaW3
import Derived.StillTailTactics
namespace Go.Proofs.Ytahhaiomdjlckaa
set_option linter.unusedVariables false
set_option linter.unusedSimpArgs false
open Go.RowKit

def atv (a : At) (A : Option Addr) (c : Nat) : Value := .agg #[.string a.nm, .slice A a.ts.length c]

theorem cmpA_eq (a b : At) : cmpA a b = (if orI (cmpS a.nm b.nm) (cmpI a.ts.length b.ts.length) ≠ 0 then orI (cmpS a.nm b.nm) (cmpI a.ts.length b.ts.length) else cmpL a.ts b.ts) := rfl

set_option maxRecDepth 100000 in
set_option maxHeartbeats 2000000 in
theorem cmpA_any (a b : At) (A A' : Option Addr) (c c' : Nat) (w : World) (hA : TmsAt w A a.ts) (hA' : TmsAt w A' b.ts) :
    Calls Try.prog 43 #[atv a A c, atv b A' c'] w fun e w' => e = .returned (.int .i64 (cmpA a b)) ∧ Below w.heap.size w w' := by
  have hl := hA.1
  have hm := hA'.1
  unfold maxLen at hl hm
  have HA := Lib.hid hA
  have HA' := Lib.hid hA'
  clear hA hA'
  have Heq := Lib.hid (cmpA_eq a b)
  have hbox : ∀ o o' : Obj, Below w.heap.size w ((w.alloc o).alloc o') := fun o o' => ((Below.refl _ _).alloc (Nat.le_refl _) _).alloc (by simp) _
  unfold atv
  go_enter Try.func43, Try.ntmps43
  go_wp2
  obtain ⟨V, hV⟩ : ∃ V, ((w.alloc (.cells #[.string a.nm, .slice A a.ts.length c] 52)).alloc (.cells #[.string b.nm, .slice A' b.ts.length c'] 52)) = V := ⟨_, rfl⟩
  have va : ∀ j, V.cell? ⟨w.heap.size, j, none⟩ = (#[.string a.nm, .slice A a.ts.length c] : Array Value)[j]? := fun j => by rw [← hV]; exact cell_of_row _ _ j _ _ _ (heap_alloc2_old w _ _)
  have vb : ∀ j, V.cell? ⟨w.heap.size + 1, j, none⟩ = (#[.string b.nm, .slice A' b.ts.length c'] : Array Value)[j]? := fun j => by rw [← hV]; exact cell_of_row _ _ j _ _ _ (heap_alloc2_new w _ _)
  have va0 : V.cell? ⟨w.heap.size, 0, none⟩ = some (.string a.nm) := va 0
  have va1 : V.cell? ⟨w.heap.size, 1, none⟩ = some (.slice A a.ts.length c) := va 1
  have vb0 : V.cell? ⟨w.heap.size + 1, 0, none⟩ = some (.string b.nm) := vb 0
  have vb1 : V.cell? ⟨w.heap.size + 1, 1, none⟩ = some (.slice A' b.ts.length c') := vb 1
  have hVb : Below w.heap.size w V := by rw [← hV]; exact hbox _ _
  have hV1 : w.heap.size + 1 < V.heap.size := by rw [← hV]; simp
  rw [hV]
  clear hV va vb
  refine wp_region_still_tail 12 (by kernel_rfl) (by kernel_rfl) ?_
  simp only [List.take_succ_cons, List.take_zero, List.drop_succ_cons, List.drop_zero]
  iterate 4 still_step
  still_call (cmpS_q _ _ _)
  iterate 6 still_step
  still_call (cmpI_q _ _ _)
  refine wpStill_nil ?_
  change wpList _ _ _ _ _ V.drew
  obtain ⟨W, hW⟩ : ∃ W, V.drew = W := ⟨_, rfl⟩
  have hWb : Below w.heap.size w W := by rw [← hW]; exact hVb.drew
  have wa1 : W.cell? ⟨w.heap.size, 1, none⟩ = some (.slice A a.ts.length c) := by rw [← hW]; simpa using va1
  have wb1 : W.cell? ⟨w.heap.size + 1, 1, none⟩ = some (.slice A' b.ts.length c') := by rw [← hW]; simpa using vb1
  rw [hW]
  have hW1 : w.heap.size + 1 < W.heap.size := by rw [← hW]; simpa using hV1
  clear hW va0 va1 vb0 vb1 hV1 hVb
  have hor0 := or2 (cmpS a.nm b.nm) (cmpI a.ts.length b.ts.length) W (cmpS_i64 _ _) (cmpI_i64 _ _)
  obtain ⟨U, hU⟩ : ∃ U, (W.alloc (.cells #[.int .i64 (cmpS a.nm b.nm), .int .i64 (cmpI a.ts.length b.ts.length)] 3)) = U := ⟨_, rfl⟩
  have hUb : Below w.heap.size w U := by rw [← hU]; exact hWb.alloc hWb.size _
  have hU0 : Below W.heap.size W U := by rw [← hU]; exact (Below.refl _ _).alloc (Nat.le_refl _) _
  have ua1 : U.cell? ⟨w.heap.size, 1, none⟩ = some (.slice A a.ts.length c) := (hU0.cell (p := ⟨w.heap.size, 1, none⟩) (by simp; omega)).trans wa1
  have ub1 : U.cell? ⟨w.heap.size + 1, 1, none⟩ = some (.slice A' b.ts.length c') := (hU0.cell (p := ⟨w.heap.size + 1, 1, none⟩) hW1).trans wb1
  rw [hU] at hor0
  have hor := Lib.hid hor0
  have hUh := Lib.hid hU
  clear hor0 hU hU0
  by_cases h0 : orI (cmpS a.nm b.nm) (cmpI a.ts.length b.ts.length) = 0
  · have h1 : (orI (cmpS a.nm b.nm) (cmpI a.ts.length b.ts.length) != 0) = false := by simp [h0]
    have Heq2 := Heq.out
    rw [if_neg (by simp [h0])] at Heq2
    have Heq3 := Lib.hid Heq2
    have hcall := Lib.hid (cmpL_any a.ts b.ts A A' c c' U (by have := cmpI_zero.1 (orI_zero.1 h0).2; omega) (HA.out.below hUb) (HA'.out.below hUb))
    clear Heq2 Heq h0
    go_wp2_with fail
    rw [hUh.out]
    go_wp2_with (go_at_call 58; refine hor.out.mono ?_; rintro e w' ⟨rfl, rfl⟩)
    go_wp2_with (go_at_call 61; refine hcall.out.mono ?_; rintro e w' ⟨rfl, hb1⟩)
    go_ret
    exact ⟨ret_int Heq3.out.symm, hUb.trans (hb1.mono hUb.size)⟩
  · have h1 : (orI (cmpS a.nm b.nm) (cmpI a.ts.length b.ts.length) != 0) = true := by simp [h0]
    have Heq2 := Heq.out
    rw [if_pos h0] at Heq2
    have Heq3 := Lib.hid Heq2
    clear Heq2 Heq h0
    go_wp2_with fail
    rw [hUh.out]
    go_wp2_with (go_at_call 58; refine hor.out.mono ?_; rintro e w' ⟨rfl, rfl⟩)
    go_ret
    exact ⟨ret_int Heq3.out.symm, hUb⟩
end Go.Proofs.Ytahhaiomdjlckaa
