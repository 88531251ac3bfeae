/-
  Idempotent at any rule; lists of declarations that are the same, in the reference; the rule of the examples.
-/
import Derived.Test.YtahhaiomdjlckaaW18
namespace Go.Proofs.Ytahhaiomdjlckaa
set_option linter.unusedVariables false
set_option linter.unusedSimpArgs false
open Go.RowKit

theorem idem_any (r : Rl) (kA rA gA bA : Option Addr) (kc rc gc bc : Nat) (w : World) (hk : SlAt AtAt 2 w kA r.kp) (hr : SlAt AtAt 2 w rA r.rm) (hg : SlAt GlAt 3 w gA r.gd) (hbd : SlAt GlAt 3 w bA r.bd) :
    Calls Try.prog 7 #[rlv r kA rA gA bA kc rc gc bc] w fun e w' => e = .returned (.tuple #[dcv (idem r).1, .bool (idem r).2]) ∧ Below w.heap.size w w' := by
  by_cases h : r.kp.length ≠ 1 ∨ r.rm.length ≠ 1 ∨ 0 < r.gd.length
  · have := idem_early r kA rA gA bA kc rc gc bc w hk hr hg h
    unfold idem
    rw [if_pos h]
    exact this
  · obtain ⟨nm, kp, rm, gd, bd, vs⟩ := r
    simp only at h hk hr hg hbd
    have h1 : kp.length = 1 := by omega
    have h2 : rm.length = 1 := by omega
    have h3 : gd.length = 0 := by omega
    obtain ⟨a, rfl⟩ := List.length_eq_one_iff.1 h1
    obtain ⟨b, rfl⟩ := List.length_eq_one_iff.1 h2
    obtain rfl := List.length_eq_zero_iff.1 h3
    have h4 := idem_main nm a b bd vs kA rA gA bA kc rc gc bc w hk hr hbd
    unfold rlv
    refine h4.mono ?_
    rintro e w' ⟨rfl, hb⟩
    refine ⟨?_, hb⟩
    unfold idem
    rw [if_neg h]
    have x1 : xa [a] 0 = a := rfl
    have x2 : xa [b] 0 = b := rfl
    simp only [x1, x2]
    congr 1
    split
    · rfl
    · split <;> rfl

set_option maxRecDepth 100000 in
set_option maxHeartbeats 1000000 in
theorem sameDcs_any (l : List Dc) (A A' : Option Addr) (c c' : Nat) (w : World) (h : SlAt DcAt 2 w A l) (h' : SlAt DcAt 2 w A' l) :
    Calls Try.prog 14 #[.slice A l.length c, .slice A' l.length c'] w fun e w' => e = .returned (.bool true) ∧ ∃ n, w' = w.drewN n := by
  have hl := h.1
  unfold maxLen at hl
  have H := Lib.hid h
  have H' := Lib.hid h'
  clear h h'
  go_enter Try.func14, Try.ntmps14
  go_wp2
  go_loopw [5] (fun i wr => ∃ k n : Nat, k ≤ l.length ∧ i = .int .i64 k ∧ wr = w.drewN n) (fun i _ => l.length - (intOf i).toNat)
  case atStart => exact ⟨0, 0, Nat.zero_le _, rfl, rfl⟩
  case round =>
    obtain ⟨k, n, hk, rfl, rfl⟩ := hrel
    by_cases hlt : k < l.length
    · obtain ⟨x, hx⟩ : ∃ x, l[k]? = some x := ⟨_, List.getElem?_eq_getElem hlt⟩
      obtain ⟨b, off, rfl, hb, ⟨a0, _⟩, a1, _⟩ := H.out.2 k x hx
      obtain ⟨b', off', rfl, hb', ⟨b0, _⟩, b1, _⟩ := H'.out.2 k x hx
      clear hx
      go_wp2
      go_quiet (fail)
      go_wp2
      go_roundw
      case rel => exact ⟨k + 1, _, by omega, by go_num, rfl⟩
      case measure => simp [intOf]; omega
    · go_wp2
      go_ret
      exact ⟨rfl, n, rfl⟩
end Go.Proofs.Ytahhaiomdjlckaa
