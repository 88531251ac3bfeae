/-
  The walks of comparison: numbers, strings, terms, constraints, in the program.
-/
import Derived.Test.YtahhaiomdjlckaaReads
import Derived.Test.YtahhaiomdjlckaaCmpPlain
import Derived.Deep.QuietTactic
import Derived.BigQuiet
import Derived.StillTailTactics
namespace Go.Proofs.Ytahhaiomdjlckaa
set_option linter.unusedVariables false
set_option linter.unusedSimpArgs false
open Go.RowKit

theorem ret_int {k : IntKind} {a b : Int} (h : a = b) : Ending.returned (.int k a) = .returned (.int k b) := by rw [h]
theorem ret_bool {a b : Bool} (h : a = b) : Ending.returned (.bool a) = .returned (.bool b) := by rw [h]

set_option maxHeartbeats 400000 in
theorem nanS_any (s : ByteArray) (w : World) :
    Calls Try.prog 66 #[.string s] w fun e w' => e = .returned (.bool false) ∧ w = w' := by
  go_enter Try.func66, Try.ntmps66
  go_wp2
  go_ret
  exact ⟨ret_bool (by simp), rfl⟩
set_option maxHeartbeats 400000 in
theorem nanI_any (s : Int) (w : World) :
    Calls Try.prog 67 #[.int .i64 s] w fun e w' => e = .returned (.bool false) ∧ w = w' := by
  go_enter Try.func67, Try.ntmps67
  go_wp2
  go_ret
  exact ⟨ret_bool (by simp), rfl⟩
set_option maxHeartbeats 400000 in
theorem cmpI_any (a b : Int) (w : World) :
    Calls Try.prog 60 #[.int .i64 a, .int .i64 b] w fun e w' => e = .returned (.int .i64 (cmpI a b)) ∧ w = w' := by
  go_enter Try.func60, Try.ntmps60
  go_wp2_with (go_at_call 67; refine (nanI_any _ _).mono ?_; rintro e w' ⟨rfl, rfl⟩)
  all_goals
    go_ret
    refine ⟨ret_int ?_, rfl⟩
    unfold cmpI
    first
      | rw [if_pos (by omega)]
      | rw [if_neg (by omega), if_pos (by omega)]
      | rw [if_neg (by omega), if_neg (by omega)]
set_option maxHeartbeats 400000 in
theorem cmpS_any (a b : ByteArray) (w : World) :
    Calls Try.prog 59 #[.string a, .string b] w fun e w' => e = .returned (.int .i64 (cmpS a b)) ∧ w = w' := by
  go_enter Try.func59, Try.ntmps59
  go_wp2_with (go_at_call 66; refine (nanS_any _ _).mono ?_; rintro e w' ⟨rfl, rfl⟩)
  · have h : Op.bytesLess a.toList b.toList = true := by assumption
    go_ret
    exact ⟨ret_int (by unfold cmpS; rw [if_pos h]), rfl⟩
  · have h : Op.bytesLess a.toList b.toList = false := by assumption
    have h2 : (!a.toList == b.toList) = true := by assumption
    have h3 : Op.bytesLess b.toList a.toList = true := by
      cases hb : Op.bytesLess b.toList a.toList with
      | true => rfl
      | false =>
        have := less_eq h hb
        rw [this] at h2; simp at h2
    go_ret
    exact ⟨ret_int (by unfold cmpS; rw [if_neg (by simp [h]), if_pos h3]), rfl⟩
  · have h : Op.bytesLess a.toList b.toList = false := by assumption
    have h2 : (!a.toList == b.toList) = false := by assumption
    have h3 : Op.bytesLess b.toList a.toList = false := by
      have : a.toList = b.toList := by simpa using h2
      rw [this]; exact less_irrefl _
    go_ret
    exact ⟨ret_int (by unfold cmpS; rw [if_neg (by simp [h]), if_neg (by simp [h3])]), rfl⟩
set_option maxHeartbeats 400000 in
theorem rank_any (k : Int) (w : World) :
    Calls Try.prog 72 #[.int .i64 k] w fun e w' => e = .returned (.int .i64 (rk k)) ∧ w = w' := by
  go_enter Try.func72, Try.ntmps72
  go_wp2
  all_goals
    go_ret
    refine ⟨ret_int ?_, rfl⟩
    simp only [beq_iff_eq, beq_eq_false_iff_ne] at *
    unfold rk
    first
      | rw [if_pos (by omega)]
      | rw [if_neg (by omega), if_pos (by omega)]
      | rw [if_neg (by omega), if_neg (by omega), if_pos (by omega)]
      | rw [if_neg (by omega), if_neg (by omega), if_neg (by omega)]
def orF : List Int → Int
  | [] => 0
  | x :: l => if x ≠ 0 then x else orF l
def OrAt (l : List Int) (k : Nat) : Prop := k ≤ l.length ∧ orF (l.drop k) = orF l
set_option maxHeartbeats 400000 in
theorem or_any (A : Option Addr) (c : Nat) (l : List Int) (w : World) (h : SlAt IntAt 1 w A l) :
    Calls Try.prog 58 #[.slice A l.length c] w fun e w' => e = .returned (.int .i64 (orF l)) ∧ w = w' := by
  have hl := h.1
  unfold maxLen at hl
  have H := Lib.hid h.2
  clear h
  go_enter Try.func58, Try.ntmps58
  go_wp2
  go_loop [8] (fun i => ∃ k : Nat, OrAt l k ∧ i = .int .i64 k) (fun i => l.length - (intOf i).toNat)
  case atStart => exact ⟨0, ⟨Nat.zero_le _, rfl⟩, rfl⟩
  case round =>
    obtain ⟨k, hk, rfl⟩ := hrel
    have hkl := hk.1
    by_cases hlt : k < l.length
    · obtain ⟨x, hx⟩ : ∃ x, l[k]? = some x := ⟨_, List.getElem?_eq_getElem hlt⟩
      obtain ⟨b, off, rfl, hb, hc, _⟩ := H.out k x hx
      rw [Nat.mul_one] at hc
      have hd : l.drop k = x :: l.drop (k + 1) := by
        rw [List.drop_eq_getElem_cons hlt]
        rw [List.getElem?_eq_getElem hlt] at hx
        rw [Option.some.inj hx]
      have hk2 := hk.2
      rw [hd, orF] at hk2
      by_cases h0 : x = 0
      · have hx0 : (x != 0) = false := by simp [h0]
        rw [if_neg (by simp [h0])] at hk2
        have hk3 : OrAt l (k + 1) := ⟨by omega, hk2⟩
        clear hx hd hk2 h0
        go_wp2
        go_round
        case rel => exact ⟨k + 1, hk3, by go_num⟩
        case measure => simp [intOf]; omega
      · have hx0 : (x != 0) = true := by simp [h0]
        rw [if_pos h0] at hk2
        have hk3 := Lib.hid hk2
        clear hx hd hk2 h0
        go_wp2
        go_ret
        exact ⟨ret_int hk3.out, rfl⟩
    · have hk2 := hk.2
      rw [List.drop_of_length_le (by omega)] at hk2
      have hk3 := Lib.hid hk2
      clear hk2
      go_wp2
      go_ret
      exact ⟨ret_int hk3.out, rfl⟩
end Go.Proofs.Ytahhaiomdjlckaa
