/-
  The walk of equality of constraints; the reference's comparison of numbers, texts and kinds.
-/
import Derived.Test.YtahhaiomdjlckaaW4
namespace Go.Proofs.Ytahhaiomdjlckaa
set_option linter.unusedVariables false
set_option linter.unusedSimpArgs false
open Go.RowKit

set_option maxRecDepth 100000 in
set_option maxHeartbeats 2000000 in
theorem sameA_any (a b : At) (A A' : Option Addr) (c c' : Nat) (w : World) (hA : TmsAt w A a.ts) (hA' : TmsAt w A' b.ts) :
    Calls Try.prog 26 #[atv a A c, atv b A' c'] w fun e w' => e = .returned (.bool (sameA a b)) ∧ Below w.heap.size w w' := by
  have hl := hA.1
  have hm := hA'.1
  unfold maxLen at hl hm
  have hbox : ∀ o o' : Obj, Below w.heap.size w ((w.alloc o).alloc o') := fun o o' => ((Below.refl _ _).alloc (Nat.le_refl _) _).alloc (by simp) _
  have hc0 := fun o o' => cmpA_any a b A A' c c' ((w.alloc o).alloc o') (hA.below (hbox o o')) (hA'.below (hbox o o'))
  unfold atv at hc0
  have hcall := Lib.hid hc0
  clear hA hA' hc0
  unfold atv sameA
  go_enter Try.func26, Try.ntmps26
  go_wp2_with (go_at_call 43; refine (hcall.out _ _).mono ?_; rintro e w' ⟨rfl, hb1⟩)
  go_ret
  exact ⟨rfl, (hbox _ _).trans (hb1.mono (by simp; omega))⟩

theorem rI_any (x y : Int) (w : World) : Calls Try.prog 56 #[.int .i64 x, .int .i64 y] w fun e w' => e = .returned (.int .i64 (cmpI x y)) ∧ w' = w := by
  unfold cmpI
  by_cases h1 : x < y
  · rw [if_pos h1]
    have h := decide_eq_true h1
    go_enter Try.func56, Try.ntmps56
    go_wp2
    go_ret
    exact ⟨rfl, rfl⟩
  · rw [if_neg h1]
    have h := decide_eq_false h1
    by_cases h2 : y < x
    · rw [if_pos h2]
      have h' := decide_eq_true h2
      go_enter Try.func56, Try.ntmps56
      go_wp2
      go_ret
      exact ⟨rfl, rfl⟩
    · rw [if_neg h2]
      have h' := decide_eq_false h2
      go_enter Try.func56, Try.ntmps56
      go_wp2
      go_ret
      exact ⟨rfl, rfl⟩
theorem rS_any (x y : ByteArray) (w : World) : Calls Try.prog 55 #[.string x, .string y] w fun e w' => e = .returned (.int .i64 (cmpS x y)) ∧ w' = w := by
  unfold cmpS
  by_cases h1 : Op.bytesLess x.toList y.toList = true
  · rw [if_pos h1]
    go_enter Try.func55, Try.ntmps55
    go_wp2
    go_ret
    exact ⟨rfl, rfl⟩
  · rw [if_neg h1]
    have h := Bool.eq_false_iff.2 h1
    cases h2 : (x.toList == y.toList) with
    | true =>
      rw [if_neg (by rw [eq_of_beq h2, less_irrefl]; simp)]
      have h3 : (!x.toList == y.toList) = false := by rw [h2]; rfl
      go_enter Try.func55, Try.ntmps55
      go_wp2
      go_ret
      exact ⟨rfl, rfl⟩
    | false =>
      have h4 : Op.bytesLess y.toList x.toList = true := by
        cases hb : Op.bytesLess y.toList x.toList with
        | true => rfl
        | false => rw [less_eq h hb] at h2; simp at h2
      rw [if_pos h4]
      have h3 : (!x.toList == y.toList) = true := by rw [h2]; rfl
      go_enter Try.func55, Try.ntmps55
      go_wp2
      go_ret
      exact ⟨rfl, rfl⟩
theorem rK_any (k i : Int) (n : ByteArray) (A : Option Addr) (m c : Nat) (w : World) : Calls Try.prog 62 #[.agg #[.int .i64 k, .int .i64 i, .string n, .slice A m c]] w fun e w' => e = .returned (.int .i64 (rk k)) ∧ Below w.heap.size w w' := by
  have hbox : ∀ o : Obj, Below w.heap.size w (w.alloc o) := fun o => (Below.refl _ _).alloc (Nat.le_refl _) _
  unfold rk
  by_cases h1 : k = 1
  · rw [if_pos h1]
    have h : (k == 1) = true := by simp [h1]
    clear h1
    go_enter Try.func62, Try.ntmps62
    go_wp2
    go_ret
    exact ⟨rfl, hbox _⟩
  · rw [if_neg h1]
    have h : (k == 1) = false := by simp [h1]
    clear h1
    by_cases h2 : k = 0
    · rw [if_pos h2]
      have h' : (k == 0) = true := by simp [h2]
      clear h2
      go_enter Try.func62, Try.ntmps62
      go_wp2
      go_ret
      exact ⟨rfl, hbox _⟩
    · rw [if_neg h2]
      have h' : (k == 0) = false := by simp [h2]
      clear h2
      by_cases h3 : k = 2
      · rw [if_pos h3]
        have h'' : (k == 2) = true := by simp [h3]
        clear h3
        go_enter Try.func62, Try.ntmps62
        go_wp2
        go_ret
        exact ⟨rfl, hbox _⟩
      · rw [if_neg h3]
        have h'' : (k == 2) = false := by simp [h3]
        clear h3
        go_enter Try.func62, Try.ntmps62
        go_wp2
        go_ret
        exact ⟨rfl, hbox _⟩
end Go.Proofs.Ytahhaiomdjlckaa
