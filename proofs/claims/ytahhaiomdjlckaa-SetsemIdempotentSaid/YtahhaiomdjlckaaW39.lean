/-
  The walks of sum, has, args, vars and VarsOf, in the reference.
-/
import Derived.Test.YtahhaiomdjlckaaW36
import Derived.IntWalk
import Derived.Test.YtahhaiomdjlckaaApp2
import Derived.Test.YtahhaiomdjlckaaW2
namespace Go.Proofs.Ytahhaiomdjlckaa
set_option linter.unusedVariables false
set_option linter.unusedSimpArgs false
open Go.RowKit

set_option maxRecDepth 100000 in
set_option maxHeartbeats 2000000 in
theorem sum_any (n k : Int) (w : World) (h1 : -9223372036854775808 ≤ n) (h2 : n ≤ 9223372036854775807) (h3 : -9223372036854775807 ≤ k) (h4 : k ≤ 9223372036854775807) :
    Calls Try.prog 69 #[.int .i64 n, .int .i64 k] w fun e w' => e = .returned (.int .i64 (sumI n k)) ∧ Below w.heap.size w w' := by
  obtain ⟨X, hX⟩ : ∃ X, sumI n k = X := ⟨_, rfl⟩
  rw [hX]
  have HX := Lib.hid hX
  clear hX
  cases t1 : decide (0 < k) with
  | true =>
    have q1 : 0 < k := by simpa using t1
    cases t2 : decide (9223372036854775807 - k < n) with
    | true =>
      have q2 : 9223372036854775807 - k < n := by simpa using t2
      go_enter Try.func69, Try.ntmps69
      go_wp2
      go_ret
      exact ⟨by rw [← HX.out]; unfold sumI; rw [if_pos (.inl ⟨q1, q2⟩)]; rfl, Below.refl _ _⟩
    | false =>
      have q2 : ¬ 9223372036854775807 - k < n := by simpa using t2
      go_enter Try.func69, Try.ntmps69
      go_wp2
      go_ret
      exact ⟨by rw [← HX.out]; unfold sumI; rw [if_neg (by omega)]; rfl, Below.refl _ _⟩
  | false =>
    have q1 : ¬ 0 < k := by simpa using t1
    cases t3 : decide (k < 0) with
    | true =>
      have q3 : k < 0 := by simpa using t3
      cases t4 : decide (n < -9223372036854775808 - k) with
      | true =>
        have q4 : n < -9223372036854775808 - k := by simpa using t4
        go_enter Try.func69, Try.ntmps69
        go_wp2
        go_ret
        exact ⟨by rw [← HX.out]; unfold sumI; rw [if_pos (.inr ⟨q3, q4⟩)]; rfl, Below.refl _ _⟩
      | false =>
        have q4 : ¬ n < -9223372036854775808 - k := by simpa using t4
        go_enter Try.func69, Try.ntmps69
        go_wp2
        go_ret
        exact ⟨by rw [← HX.out]; unfold sumI; rw [if_neg (by omega)]; rfl, Below.refl _ _⟩
    | false =>
      have q3 : ¬ k < 0 := by simpa using t3
      go_enter Try.func69, Try.ntmps69
      go_wp2
      go_ret
      exact ⟨by rw [← HX.out]; unfold sumI; rw [if_neg (by omega)]; rfl, Below.refl _ _⟩
set_option maxRecDepth 100000 in
set_option maxHeartbeats 2000000 in
theorem has_any (l : List Int) (n : Int) (A : Option Addr) (c : Nat) (w0 w : World) (hO : Owned RI 3 1 w0 w (.slice A l.length c) l) (hl : l.length ≤ 1000000) :
    Calls Try.prog 70 #[.slice A l.length c, .int .i64 n] w fun e w' => e = .returned (.bool (l.contains n)) ∧ Below w.heap.size w w' := by
  have HO := Lib.hid hO
  clear hO
  obtain ⟨X, hX⟩ : ∃ X, l.contains n = X := ⟨_, rfl⟩
  rw [hX]
  have HX := Lib.hid hX
  clear hX
  go_enter Try.func70, Try.ntmps70
  go_wp2
  go_loopw [5] (fun i wr => ∃ k : Nat, k ≤ l.length ∧ i = .int .i64 k ∧ Hid ((l.take k).contains n = false) ∧ Below w.heap.size w wr) (fun i _ => l.length - (intOf i).toNat)
  case atStart => exact ⟨0, Nat.zero_le _, rfl, Lib.hid (by simp), Below.refl _ _⟩
  case round =>
    obtain ⟨k, hk, rfl, Hn, hbel⟩ := hrel
    by_cases hlt : k < l.length
    · obtain ⟨x, hx⟩ : ∃ x, l[k]? = some x := ⟨_, List.getElem?_eq_getElem hlt⟩
      obtain ⟨g, o, cs, rfl, hg, ⟨rfl, hxi⟩, hc⟩ := (HO.out.below hbel).at_ (by decide) hx
      have p0 := hc 0 (by decide)
      simp only [Nat.mul_one, Nat.add_zero, List.getElem?_cons_zero] at p0
      have Hx := Lib.hid hx
      clear hx hc
      cases h1 : (x == n) with
      | true =>
        go_wp2
        go_ret
        refine ⟨ret_bool ?_, hbel⟩
        have e : x = n := by simpa using h1
        rw [← HX.out]
        have := List.mem_of_getElem? Hx.out
        rw [e] at this
        simpa using this
      | false =>
        have Hn' := Lib.hid (show (l.take (k + 1)).contains n = false from by
          have e : ¬ x = n := by simpa using h1
          rw [List.take_add_one, Hx.out]
          have := Hn.out
          simp at this ⊢
          exact ⟨this, fun h => e h.symm⟩)
        go_wp2
        go_roundw
        case rel => exact ⟨k + 1, by omega, by go_num, Hn', hbel⟩
        case measure => simp [intOf]; omega
    · obtain rfl : k = l.length := by omega
      go_wp2
      go_ret
      exact ⟨ret_bool (by have := Hn.out; rw [List.take_length] at this; rw [← HX.out, this]), hbel⟩

def argsV (t : Tm) (A : Option Addr) (c : Nat) : Value := if t.kd = 2 then .slice A t.ts.length c else .slice none 0 0
set_option maxRecDepth 100000 in
set_option maxHeartbeats 2000000 in
theorem args_any (t : Tm) (A : Option Addr) (c : Nat) (w : World) :
    Calls Try.prog 71 #[tmv t A c] w fun e w' => e = .returned (argsV t A c) ∧ Below w.heap.size w w' := by
  unfold tmv argsV
  cases h1 : (t.kd == 2) with
  | true =>
    have q : t.kd = 2 := by simpa using h1
    rw [if_pos q]
    go_enter Try.func71, Try.ntmps71
    go_wp2
    go_ret
    exact ⟨rfl, (Below.refl _ _).alloc (Nat.le_refl _) _⟩
  | false =>
    have q : ¬ t.kd = 2 := by simpa using h1
    rw [if_neg q]
    go_enter Try.func71, Try.ntmps71
    go_wp2
    go_ret
    exact ⟨rfl, (Below.refl _ _).alloc (Nat.le_refl _) _⟩
end Go.Proofs.Ytahhaiomdjlckaa
