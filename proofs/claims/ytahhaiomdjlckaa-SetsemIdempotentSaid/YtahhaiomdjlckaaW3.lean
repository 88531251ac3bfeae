/-
  The walks of comparison of terms (one step of the recursion), and the recursion closed.
-/
import Derived.Test.YtahhaiomdjlckaaW2
namespace Go.Proofs.Ytahhaiomdjlckaa
set_option linter.unusedVariables false
set_option linter.unusedSimpArgs false
open Go.RowKit

theorem cmpT_eq (a b : Tm) : cmpT a b =
    (if cmpI (rk a.kd) (rk b.kd) ≠ 0 then cmpI (rk a.kd) (rk b.kd)
    else if rk a.kd = 0 ∨ rk a.kd = 1 then cmpI a.it b.it
    else if rk a.kd = 2 then
      (if cmpI a.ts.length b.ts.length ≠ 0 then cmpI a.ts.length b.ts.length else if cmpS a.nm b.nm ≠ 0 then cmpS a.nm b.nm else cmpL a.ts b.ts)
    else orI (cmpI a.kd b.kd) (orI (cmpI a.it b.it) (cmpS a.nm b.nm))) := by
  cases a; cases b; rw [cmpT]; rfl
theorem size_ts (a : Tm) : SizeOf.sizeOf a.ts < SizeOf.sizeOf a := by
  cases a; simp [Tm.ts]; omega

theorem cmpI_i64 (a b : Int) : I64 (cmpI a b) := by
  unfold cmpI I64; repeat' split
  all_goals omega
theorem cmpS_i64 (a b : ByteArray) : I64 (cmpS a b) := by
  unfold cmpS I64; repeat' split
  all_goals omega
/-- a new block of integers is a slice of them. -/
theorem new_ints (w : World) (l : List Int) (hl : l.length ≤ maxLen) (hi : ∀ x ∈ l, I64 x) (t : TypeId) : SlAt IntAt 1 (w.alloc (.cells (l.map (Value.int .i64)).toArray t)) (some ⟨w.heap.size, 0, none⟩) l := by
  refine ⟨hl, fun k x hx => ⟨_, _, rfl, by simp, ?_, hi x (List.mem_of_getElem? hx)⟩⟩
  rw [cell_of_row _ _ _ _ _ _ (heap_alloc_new _ _)]
  simp [hx]
theorem or3 (x y z : Int) (w : World) : I64 x → I64 y → I64 z → Calls Try.prog 58 #[.slice (some ⟨w.heap.size, 0, none⟩) 3 3] (w.alloc (.cells #[.int .i64 x, .int .i64 y, .int .i64 z] 3)) fun e w' =>
    e = .returned (.int .i64 (orI x (orI y z))) ∧ (w.alloc (.cells #[.int .i64 x, .int .i64 y, .int .i64 z] 3)) = w' := by
  intro hx hy hz
  have h := or_any (some ⟨w.heap.size, 0, none⟩) 3 [x, y, z] _ (new_ints w [x, y, z] (by simp [maxLen]) (by simp [hx, hy, hz]) 3)
  have e : orF [x, y, z] = orI x (orI y z) := by
    simp only [orF, orI]
    split
    · rfl
    · split
      · rfl
      · split <;> omega
  rw [e] at h
  exact h
theorem or2 (x y : Int) (w : World) : I64 x → I64 y → Calls Try.prog 58 #[.slice (some ⟨w.heap.size, 0, none⟩) 2 2] (w.alloc (.cells #[.int .i64 x, .int .i64 y] 3)) fun e w' =>
    e = .returned (.int .i64 (orI x y)) ∧ (w.alloc (.cells #[.int .i64 x, .int .i64 y] 3)) = w' := by
  intro hx hy
  have h := or_any (some ⟨w.heap.size, 0, none⟩) 2 [x, y] _ (new_ints w [x, y] (by simp [maxLen]) (by simp [hx, hy]) 3)
  have e : orF [x, y] = orI x y := by
    simp only [orF, orI]
    split
    · rfl
    · split <;> omega
  rw [e] at h
  exact h

set_option maxRecDepth 100000 in
set_option maxHeartbeats 2000000 in
theorem cmp_step (n : Nat) (ih : ListSaid n) : CmpSaid (n + 1) := by
  intro a b A A' c c' w hn hA hA'
  have hl := hA.1
  have hm := hA'.1
  unfold maxLen at hl hm
  have HA := Lib.hid hA
  have HA' := Lib.hid hA'
  have Hih := Lib.hid ih
  have hsz := size_ts a
  clear hA hA' ih
  have Heq := Lib.hid (cmpT_eq a b)
  have hbox : ∀ o o' : Obj, Below w.heap.size w ((w.alloc o).alloc o') := fun o o' => ((Below.refl _ _).alloc (Nat.le_refl _) _).alloc (by simp) _
  have hr := rk_range a.kd
  unfold tmv
  by_cases h0 : cmpI (rk a.kd) (rk b.kd) = 0
  · have h1 : (cmpI (rk a.kd) (rk b.kd) != 0) = false := by simp [h0]
    have Heq2 := Heq.out
    rw [if_neg (by simp [h0])] at Heq2
    clear h0
    rcases hr with g | g | g | g
    · rw [if_pos (.inl g)] at Heq2
      have Heq3 := Lib.hid Heq2
      have r0 : (rk a.kd == 0) = true := by simp [g]
      have r1 : (rk a.kd == 1) = false := by simp [g]
      have r2 : (rk a.kd == 2) = false := by simp [g]
      clear Heq2 Heq g
      go_enter Try.func68, Try.ntmps68
      go_wp2
      go_quiet ((first | (go_at_call 72; exact Calls.quiet_of_same (rank_q _ _)) | (go_at_call 60; exact Calls.quiet_of_same (cmpI_q _ _ _))))
      go_wp2_with (first | (go_at_call 72; refine (rank_any _ _).mono ?_; rintro e w' ⟨rfl, rfl⟩) | (go_at_call 60; refine (cmpI_any _ _ _).mono ?_; rintro e w' ⟨rfl, rfl⟩) | (go_at_call 59; refine (cmpS_any _ _ _).mono ?_; rintro e w' ⟨rfl, rfl⟩))
      go_ret
      exact ⟨ret_int Heq3.out.symm, below_drewN (hbox _ _) _⟩
    · rw [if_pos (.inr g)] at Heq2
      have Heq3 := Lib.hid Heq2
      have r0 : (rk a.kd == 0) = false := by simp [g]
      have r1 : (rk a.kd == 1) = true := by simp [g]
      have r2 : (rk a.kd == 2) = false := by simp [g]
      clear Heq2 Heq g
      go_enter Try.func68, Try.ntmps68
      go_wp2
      go_quiet ((first | (go_at_call 72; exact Calls.quiet_of_same (rank_q _ _)) | (go_at_call 60; exact Calls.quiet_of_same (cmpI_q _ _ _))))
      go_wp2_with (first | (go_at_call 72; refine (rank_any _ _).mono ?_; rintro e w' ⟨rfl, rfl⟩) | (go_at_call 60; refine (cmpI_any _ _ _).mono ?_; rintro e w' ⟨rfl, rfl⟩) | (go_at_call 59; refine (cmpS_any _ _ _).mono ?_; rintro e w' ⟨rfl, rfl⟩))
      go_ret
      exact ⟨ret_int Heq3.out.symm, below_drewN (hbox _ _) _⟩
    · rw [if_neg (by omega), if_pos g] at Heq2
      have r0 : (rk a.kd == 0) = false := by simp [g]
      have r1 : (rk a.kd == 1) = false := by simp [g]
      have r2 : (rk a.kd == 2) = true := by simp [g]
      by_cases k1 : cmpI a.ts.length b.ts.length = 0
      · have k1' : (cmpI a.ts.length b.ts.length != 0) = false := by simp [k1]
        rw [if_neg (by simp [k1])] at Heq2
        have hle : a.ts.length ≤ b.ts.length := by have := cmpI_zero.1 k1; omega
        by_cases k2 : cmpS a.nm b.nm = 0
        · have k2' : (cmpS a.nm b.nm != 0) = false := by simp [k2]
          rw [if_neg (by simp [k2])] at Heq2
          have Heq3 := Lib.hid Heq2
          have hcall := Lib.hid (fun W (hb : Below w.heap.size w W) => Hih.out a.ts b.ts A A' c c' W (by omega) hle (HA.out.below hb) (HA'.out.below hb))
          clear Heq2 Heq g k1 k2
          go_enter Try.func68, Try.ntmps68
          go_wp2
          go_quiet ((first | (go_at_call 72; exact Calls.quiet_of_same (rank_q _ _)) | (go_at_call 60; exact Calls.quiet_of_same (cmpI_q _ _ _))))
          go_wp2_with (first | (go_at_call 72; refine (rank_any _ _).mono ?_; rintro e w' ⟨rfl, rfl⟩) | (go_at_call 60; refine (cmpI_any _ _ _).mono ?_; rintro e w' ⟨rfl, rfl⟩) | (go_at_call 59; refine (cmpS_any _ _ _).mono ?_; rintro e w' ⟨rfl, rfl⟩) | (go_at_call 61; refine (hcall.out _ (below_drewN (hbox _ _) _)).mono ?_; rintro e w1 ⟨rfl, hb1⟩))
          go_ret
          exact ⟨ret_int Heq3.out.symm, (below_drewN (hbox _ _) _).trans (hb1.mono (by simp; omega))⟩
        · have k2' : (cmpS a.nm b.nm != 0) = true := by simp [k2]
          rw [if_pos k2] at Heq2
          have Heq3 := Lib.hid Heq2
          clear Heq2 Heq g k1 k2
          go_enter Try.func68, Try.ntmps68
          go_wp2
          go_quiet ((first | (go_at_call 72; exact Calls.quiet_of_same (rank_q _ _)) | (go_at_call 60; exact Calls.quiet_of_same (cmpI_q _ _ _))))
          go_wp2_with (first | (go_at_call 72; refine (rank_any _ _).mono ?_; rintro e w' ⟨rfl, rfl⟩) | (go_at_call 60; refine (cmpI_any _ _ _).mono ?_; rintro e w' ⟨rfl, rfl⟩) | (go_at_call 59; refine (cmpS_any _ _ _).mono ?_; rintro e w' ⟨rfl, rfl⟩))
          go_ret
          exact ⟨ret_int Heq3.out.symm, below_drewN (hbox _ _) _⟩
      · have k1' : (cmpI a.ts.length b.ts.length != 0) = true := by simp [k1]
        rw [if_pos k1] at Heq2
        have Heq3 := Lib.hid Heq2
        clear Heq2 Heq g k1
        go_enter Try.func68, Try.ntmps68
        go_wp2
        go_quiet ((first | (go_at_call 72; exact Calls.quiet_of_same (rank_q _ _)) | (go_at_call 60; exact Calls.quiet_of_same (cmpI_q _ _ _))))
        go_wp2_with (first | (go_at_call 72; refine (rank_any _ _).mono ?_; rintro e w' ⟨rfl, rfl⟩) | (go_at_call 60; refine (cmpI_any _ _ _).mono ?_; rintro e w' ⟨rfl, rfl⟩) | (go_at_call 59; refine (cmpS_any _ _ _).mono ?_; rintro e w' ⟨rfl, rfl⟩))
        go_ret
        exact ⟨ret_int Heq3.out.symm, below_drewN (hbox _ _) _⟩
    · rw [if_neg (by omega), if_neg (by omega)] at Heq2
      have Heq3 := Lib.hid Heq2
      have r0 : (rk a.kd == 0) = false := by simp [g]
      have r1 : (rk a.kd == 1) = false := by simp [g]
      have r2 : (rk a.kd == 2) = false := by simp [g]
      clear Heq2 Heq g
      go_enter Try.func68, Try.ntmps68
      go_wp2
      go_quiet ((first | (go_at_call 72; exact Calls.quiet_of_same (rank_q _ _)) | (go_at_call 60; exact Calls.quiet_of_same (cmpI_q _ _ _))))
      go_wp2_with (first | (go_at_call 72; refine (rank_any _ _).mono ?_; rintro e w' ⟨rfl, rfl⟩) | (go_at_call 60; refine (cmpI_any _ _ _).mono ?_; rintro e w' ⟨rfl, rfl⟩) | (go_at_call 59; refine (cmpS_any _ _ _).mono ?_; rintro e w' ⟨rfl, rfl⟩))
      obtain ⟨V, hV⟩ : ∃ V, ((w.alloc (.cells #[.int .i64 a.kd, .int .i64 a.it, .string a.nm, .slice A a.ts.length c] 69)).alloc (.cells #[.int .i64 b.kd, .int .i64 b.it, .string b.nm, .slice A' b.ts.length c'] 69)).drewN nq = V := ⟨_, rfl⟩
      have va : ∀ j, V.cell? ⟨w.heap.size, j, none⟩ = (#[.int .i64 a.kd, .int .i64 a.it, .string a.nm, .slice A a.ts.length c] : Array Value)[j]? := fun j => by rw [← hV]; exact cell_of_row _ _ j _ _ _ (heap_alloc2_old w _ _)
      have vb : ∀ j, V.cell? ⟨w.heap.size + 1, j, none⟩ = (#[.int .i64 b.kd, .int .i64 b.it, .string b.nm, .slice A' b.ts.length c'] : Array Value)[j]? := fun j => by rw [← hV]; exact cell_of_row _ _ j _ _ _ (heap_alloc2_new w _ _)
      have va0 : V.cell? ⟨w.heap.size, 0, none⟩ = some (.int .i64 a.kd) := va 0
      have va1 : V.cell? ⟨w.heap.size, 1, none⟩ = some (.int .i64 a.it) := va 1
      have va2 : V.cell? ⟨w.heap.size, 2, none⟩ = some (.string a.nm) := va 2
      have vb0 : V.cell? ⟨w.heap.size + 1, 0, none⟩ = some (.int .i64 b.kd) := vb 0
      have vb1 : V.cell? ⟨w.heap.size + 1, 1, none⟩ = some (.int .i64 b.it) := vb 1
      have vb2 : V.cell? ⟨w.heap.size + 1, 2, none⟩ = some (.string b.nm) := vb 2
      have hVb : Below w.heap.size w V := by rw [← hV]; exact below_drewN (hbox _ _) _
      rw [hV]
      clear hV va vb
      refine wp_region_still_tail 15 (by kernel_rfl) (by kernel_rfl) ?_
      simp only [List.take_succ_cons, List.take_zero, List.drop_succ_cons, List.drop_zero]
      iterate 4 still_step
      still_call (cmpI_q _ _ _)
      iterate 4 still_step
      still_call (cmpI_q _ _ _)
      iterate 4 still_step
      still_call (cmpS_q _ _ _)
      refine wpStill_nil ?_
      change wpList _ _ _ _ _ V.drew
      obtain ⟨W, hW⟩ : ∃ W, V.drew = W := ⟨_, rfl⟩
      have hWb : Below w.heap.size w W := by rw [← hW]; exact hVb.drew
      rw [hW]
      clear hW va0 va1 va2 vb0 vb1 vb2
      have hor := Lib.hid (or3 (cmpI a.kd b.kd) (cmpI a.it b.it) (cmpS a.nm b.nm) W (cmpI_i64 _ _) (cmpI_i64 _ _) (cmpS_i64 _ _))
      go_wp2_with (go_at_call 58; refine hor.out.mono ?_; rintro e w' ⟨rfl, rfl⟩)
      go_ret
      exact ⟨ret_int Heq3.out.symm, hWb.alloc hWb.size _⟩
  · have h1 : (cmpI (rk a.kd) (rk b.kd) != 0) = true := by simp [h0]
    have Heq2 := Heq.out
    rw [if_pos h0] at Heq2
    have Heq3 := Lib.hid Heq2
    clear h0 Heq2 Heq hr
    go_enter Try.func68, Try.ntmps68
    go_wp2
    go_quiet ((first | (go_at_call 72; exact Calls.quiet_of_same (rank_q _ _)) | (go_at_call 60; exact Calls.quiet_of_same (cmpI_q _ _ _))))
    go_wp2
    go_ret
    exact ⟨ret_int Heq3.out.symm, below_drewN (hbox _ _) _⟩
theorem cmp_list_all : ∀ n, CmpSaid n ∧ ListSaid n := by
  intro n
  induction n with
  | zero =>
    refine ⟨fun a b A A' c c' w hn => ?_, fun l m A A' c c' w hn => ?_⟩
    · cases a; simp at hn
    · cases l <;> simp at hn
  | succ n ih => exact ⟨cmp_step n ih.2, list_step n ih.1⟩
theorem cmpT_any (a b : Tm) (A A' : Option Addr) (c c' : Nat) (w : World) (h : TmsAt w A a.ts) (h' : TmsAt w A' b.ts) :
    Calls Try.prog 68 #[tmv a A c, tmv b A' c'] w fun e w' => e = .returned (.int .i64 (cmpT a b)) ∧ Below w.heap.size w w' := (cmp_list_all _).1 a b A A' c c' w (Nat.le_refl _) h h'
theorem cmpL_any (l m : List Tm) (A A' : Option Addr) (c c' : Nat) (w : World) (hlm : l.length ≤ m.length) (h : TmsAt w A l) (h' : TmsAt w A' m) :
    Calls Try.prog 61 #[.slice A l.length c, .slice A' m.length c'] w fun e w' => e = .returned (.int .i64 (cmpL l m)) ∧ Below w.heap.size w w' := (cmp_list_all _).2 l m A A' c c' w (Nat.le_refl _) hlm h h'
end Go.Proofs.Ytahhaiomdjlckaa
