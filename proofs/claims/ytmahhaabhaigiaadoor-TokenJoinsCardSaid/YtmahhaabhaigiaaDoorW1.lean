/-
  The walks of the byte classes, of white space and comments, and of runs of bytes, in the program and in the reference.
-/
import Derived.Test.YtmahhaabhaigiaaDoorProg
import Derived.Test.YtmahhaabhaigiaaDoorPlain
import Derived.WalkKit
import Derived.WalkSpells
import Derived.WalkLawsBesides
import Derived.Lib.Hide
namespace Go.Proofs.YtmahhaabhaigiaaDoor
open Go.RowKit

theorem ret_int {k : IntKind} {a b : Int} (h : a = b) : Ending.returned (.int k a) = .returned (.int k b) := by rw [h]
theorem ret_bool {a b : Bool} (h : a = b) : Ending.returned (.bool a) = .returned (.bool b) := by rw [h]

/-- what stands from an offset on. -/
def tl (s : ByteArray) (k : Nat) : List UInt8 := s.data.toList.drop k
theorem tl_cons (s : ByteArray) (k : Nat) (h : k < s.size) : tl s k = s[k] :: tl s (k + 1) := by
  unfold tl
  rw [List.drop_eq_getElem_cons (by simpa using h)]; rfl
theorem tl_nil (s : ByteArray) (k : Nat) (h : s.size ≤ k) : tl s k = [] := by
  unfold tl; exact List.drop_of_length_le (by simpa using h)
theorem tl_len (s : ByteArray) (k : Nat) : (tl s k).length = s.size - k := by
  unfold tl; simp

set_option maxHeartbeats 400000 in
theorem of_any (c : Nat) (w : World) :
    Calls Tryd.prog 27 #[.int .u8 c] w fun e w' => e = .returned (.int .i64 (Tk.cls c)) ∧ w = w' := by
  go_enter Tryd.func27, Tryd.ntmps27
  go_wp2
  all_goals
    go_ret
    refine ⟨ret_int ?_, rfl⟩
    simp only [beq_iff_eq, beq_eq_false_iff_ne] at *
    unfold Tk.cls
    first
      | rw [if_pos (by omega)]
      | rw [if_neg (by omega), if_pos (by omega)]
      | rw [if_neg (by omega), if_neg (by omega), if_pos (by omega)]
      | rw [if_neg (by omega), if_neg (by omega), if_neg (by omega), if_pos (by omega)]
      | rw [if_neg (by omega), if_neg (by omega), if_neg (by omega), if_neg (by omega)]

set_option maxHeartbeats 400000 in
theorem lower_any (c : Nat) (w : World) :
    Calls Tryd.prog 22 #[.int .u8 c] w fun e w' => e = .returned (.bool (Tk.cls c == 2)) ∧ w = w' := by
  go_enter Tryd.func22, Tryd.ntmps22
  go_wp2
  all_goals
    go_ret
    refine ⟨ret_bool ?_, rfl⟩
    rw [Bool.eq_iff_iff]
    simp only [beq_iff_eq, decide_eq_true_eq, Tk.cls_lower, Bool.false_eq_true, false_iff] at *
    omega
set_option maxHeartbeats 400000 in
theorem upper_any (c : Nat) (w : World) :
    Calls Tryd.prog 23 #[.int .u8 c] w fun e w' => e = .returned (.bool (Tk.cls c == 3)) ∧ w = w' := by
  go_enter Tryd.func23, Tryd.ntmps23
  go_wp2
  all_goals
    go_ret
    refine ⟨ret_bool ?_, rfl⟩
    rw [Bool.eq_iff_iff]
    simp only [Bool.or_eq_true, beq_iff_eq, decide_eq_true_eq, Tk.cls_upper, true_iff] at *
    omega
set_option maxHeartbeats 400000 in
theorem digit_any (c : Nat) (w : World) :
    Calls Tryd.prog 24 #[.int .u8 c] w fun e w' => e = .returned (.bool (Tk.cls c == 4)) ∧ w = w' := by
  go_enter Tryd.func24, Tryd.ntmps24
  go_wp2
  all_goals
    go_ret
    refine ⟨ret_bool ?_, rfl⟩
    rw [Bool.eq_iff_iff]
    simp only [beq_iff_eq, decide_eq_true_eq, Tk.cls_digit, Bool.false_eq_true, false_iff] at *
    omega
set_option maxHeartbeats 400000 in
theorem space_any (c : Nat) (w : World) :
    Calls Tryd.prog 29 #[.int .u8 c] w fun e w' => e = .returned (.bool (Tk.cls c == 1)) ∧ w = w' := by
  go_enter Tryd.func29, Tryd.ntmps29
  go_wp2
  all_goals
    go_ret
    refine ⟨ret_bool ?_, rfl⟩
    rw [Bool.eq_iff_iff]
    simp only [Bool.or_eq_true, beq_iff_eq, Tk.cls_blank, true_iff] at *
    omega

/-- after so many bytes, what is left of a skip. -/
def SkipAt (s : ByteArray) (b : Bool) (a k : Nat) : Prop := a ≤ k ∧ k ≤ s.size ∧ k + Tk.skipF b (tl s k) = a + Tk.skipF false (tl s a)
theorem SkipAt.start {s : ByteArray} {a : Nat} (h : a ≤ s.size) : SkipAt s false a a := ⟨Nat.le_refl _, h, rfl⟩
theorem SkipAt.blank {s : ByteArray} {a k : Nat} (h : SkipAt s false a k) (hk : k < s.size) (hc : Tk.cls s[k].toNat = 1) : SkipAt s false a (k + 1) := by
  obtain ⟨h1, h2, h3⟩ := h
  rw [tl_cons s k hk, Tk.skipF, if_pos hc] at h3
  exact ⟨by omega, by omega, by omega⟩
theorem SkipAt.open_ {s : ByteArray} {a k : Nat} (h : SkipAt s false a k) (hk : k < s.size) (hn : ¬ Tk.cls s[k].toNat = 1) (hc : s[k].toNat = 35) : SkipAt s true a k := by
  obtain ⟨h1, h2, h3⟩ := h
  rw [tl_cons s k hk, Tk.skipF, if_neg hn, if_pos hc] at h3
  refine ⟨h1, h2, ?_⟩
  rw [tl_cons s k hk, Tk.skipF, if_neg (by omega)]
  omega
theorem SkipAt.inside {s : ByteArray} {a k : Nat} (h : SkipAt s true a k) (hk : k < s.size) (hc : ¬ s[k].toNat = 10) : SkipAt s true a (k + 1) := by
  obtain ⟨h1, h2, h3⟩ := h
  rw [tl_cons s k hk, Tk.skipF, if_neg hc] at h3
  exact ⟨by omega, by omega, by omega⟩
theorem SkipAt.close {s : ByteArray} {a k : Nat} (h : SkipAt s true a k) (hk : k < s.size) (hc : s[k].toNat = 10) : SkipAt s false a k := by
  obtain ⟨h1, h2, h3⟩ := h
  rw [tl_cons s k hk, Tk.skipF, if_pos hc] at h3
  refine ⟨h1, h2, ?_⟩
  rw [tl_cons s k hk, Tk.skipF, if_pos (Tk.cls_blank.2 (by omega))]
  omega
theorem SkipAt.end_ {s : ByteArray} {a k : Nat} {b : Bool} (h : SkipAt s b a k) (hk : s.size ≤ k) : SkipAt s false a k := by
  obtain ⟨h1, h2, h3⟩ := h
  rw [tl_nil s k hk] at h3
  refine ⟨h1, h2, ?_⟩
  rw [tl_nil s k hk]
  cases b <;> simpa [Tk.skipF] using h3
theorem SkipAt.done {s : ByteArray} {a k : Nat} (h : SkipAt s false a k) (hk : s.size ≤ k) : (k : Int) = ((a + Tk.skipF false (tl s a) : Nat) : Int) := by
  obtain ⟨h1, h2, h3⟩ := h
  rw [tl_nil s k hk] at h3
  simp only [Tk.skipF] at h3
  omega
theorem SkipAt.stop {s : ByteArray} {a k : Nat} (h : SkipAt s false a k) (hk : k < s.size) (hn : ¬ Tk.cls s[k].toNat = 1) (hc : ¬ s[k].toNat = 35) : (k : Int) = ((a + Tk.skipF false (tl s a) : Nat) : Int) := by
  obtain ⟨h1, h2, h3⟩ := h
  rw [tl_cons s k hk, Tk.skipF, if_neg hn, if_neg hc] at h3
  omega

set_option maxHeartbeats 400000 in
theorem skip_any (s : ByteArray) (a : Nat) (w : World) (hs : s.size ≤ maxLen) (ha : a ≤ s.size) :
    Calls Tryd.prog 20 #[.string s, .int .i64 a] w fun e w' => e = .returned (.int .i64 ((a + Tk.skipF false (tl s a) : Nat) : Int)) ∧ w = w' := by
  unfold maxLen at hs
  go_enter Tryd.func20, Tryd.ntmps20
  go_wp2
  go_loop [1] (fun i => ∃ k : Nat, SkipAt s false a k ∧ i = .int .i64 k) (fun i => s.size - (intOf i).toNat)
  case atStart => exact ⟨a, SkipAt.start ha, rfl⟩
  case round =>
    obtain ⟨k, hk, rfl⟩ := hrel
    have hkle := hk.2.1
    by_cases hlt : k < s.size
    · go_wp2_with (go_at_call 27; refine (of_any _ _).mono ?_; rintro e w' ⟨rfl, rfl⟩)
      · have hc1 : Tk.cls s[k].toNat = 1 := by
          have h : (Tk.cls s[k].toNat == 1) = true := by assumption
          simpa using h
        go_round
        case rel => exact ⟨k + 1, hk.blank hlt hc1, by go_num⟩
        case measure => simp [intOf]; omega
      · have hc1 : ¬ Tk.cls s[k].toNat = 1 := by
          intro h; simp_all
        have hc2 : s[k].toNat = 35 := by
          have h : ((s[k].toNat : Int) == 35) = true := by assumption
          simp only [beq_iff_eq] at h; omega
        have hk2 := hk.open_ hlt hc1 hc2
        go_loop [1] (fun i => ∃ j : Nat, SkipAt s true a j ∧ k ≤ j ∧ i = .int .i64 j) (fun i => s.size - (intOf i).toNat)
        case atStart => exact ⟨k, hk2, Nat.le_refl _, rfl⟩
        case round =>
          obtain ⟨j, hj, hkj, rfl⟩ := hrel
          have hjle := hj.2.1
          by_cases hjl : j < s.size
          · by_cases hn : s[j].toNat = 10
            · have ht : ((s[j].toNat : Int) != 10) = false := by simp; omega
              have hne : k < j := by
                rcases Nat.lt_or_ge k j with h | h
                · exact h
                · obtain rfl : k = j := by omega
                  omega
              have hk3 := hj.close hjl hn
              clear hn hc2 hc1
              go_wp2
              go_round
              case rel => exact ⟨j, hk3, rfl⟩
              case measure => simp [intOf]; omega
            · have ht : ((s[j].toNat : Int) != 10) = true := by simp; omega
              have hk3 := hj.inside hjl hn
              clear hn hc2 hc1
              go_wp2
              go_round
              case rel => exact ⟨j + 1, hk3, by omega, by go_num⟩
              case measure => simp [intOf]; omega
          · have hne : k < j := by omega
            have hk3 := hj.end_ (by omega)
            clear hc2 hc1
            go_wp2
            go_round
            case rel => exact ⟨j, hk3, rfl⟩
            case measure => simp [intOf]; omega
      · have hc1 : ¬ Tk.cls s[k].toNat = 1 := by
          intro h; simp_all
        have hc2 : ¬ s[k].toNat = 35 := by
          have h : ((s[k].toNat : Int) == 35) = false := by assumption
          simp only [beq_eq_false_iff_ne] at h; omega
        go_ret
        exact ⟨ret_int (hk.stop hlt hc1 hc2), rfl⟩
    · go_wp2
      go_ret
      exact ⟨ret_int (hk.done (by omega)), rfl⟩

set_option maxHeartbeats 400000 in
theorem rskip_any (s : ByteArray) (a : Nat) (w : World) (hs : s.size ≤ maxLen) (ha : a ≤ s.size) :
    Calls Tryd.prog 21 #[.string s, .int .i64 a] w fun e w' => e = .returned (.int .i64 ((a + Tk.skipF false (tl s a) : Nat) : Int)) ∧ w = w' := by
  unfold maxLen at hs
  go_enter Tryd.func21, Tryd.ntmps21
  go_wp2
  go_loop [1] (fun i => ∃ k : Nat, SkipAt s false a k ∧ i = .int .i64 k) (fun i => s.size - (intOf i).toNat)
  case atStart => exact ⟨a, SkipAt.start ha, rfl⟩
  case round =>
    obtain ⟨k, hk, rfl⟩ := hrel
    have hkle := hk.2.1
    by_cases hlt : k < s.size
    · go_wp2_with (go_at_call 29; refine (space_any _ _).mono ?_; rintro e w' ⟨rfl, rfl⟩)
      · have hc1 : Tk.cls s[k].toNat = 1 := by
          have h : (Tk.cls s[k].toNat == 1) = true := by assumption
          simpa using h
        go_round
        case rel => exact ⟨k + 1, hk.blank hlt hc1, by go_num⟩
        case measure => simp [intOf]; omega
      · have hc1 : ¬ Tk.cls s[k].toNat = 1 := by
          intro h; simp_all
        have hc2 : s[k].toNat = 35 := by
          have h : ((s[k].toNat : Int) == 35) = true := by assumption
          simp only [beq_iff_eq] at h; omega
        have hk2 := hk.open_ hlt hc1 hc2
        go_loop [1] (fun i => ∃ j : Nat, SkipAt s true a j ∧ k ≤ j ∧ i = .int .i64 j) (fun i => s.size - (intOf i).toNat)
        case atStart => exact ⟨k, hk2, Nat.le_refl _, rfl⟩
        case round =>
          obtain ⟨j, hj, hkj, rfl⟩ := hrel
          have hjle := hj.2.1
          by_cases hjl : j < s.size
          · by_cases hn : s[j].toNat = 10
            · have ht : ((s[j].toNat : Int) != 10) = false := by simp; omega
              have hne : k < j := by
                rcases Nat.lt_or_ge k j with h | h
                · exact h
                · obtain rfl : k = j := by omega
                  omega
              have hk3 := hj.close hjl hn
              clear hn hc2 hc1
              go_wp2
              go_round
              case rel => exact ⟨j, hk3, rfl⟩
              case measure => simp [intOf]; omega
            · have ht : ((s[j].toNat : Int) != 10) = true := by simp; omega
              have hk3 := hj.inside hjl hn
              clear hn hc2 hc1
              go_wp2
              go_round
              case rel => exact ⟨j + 1, hk3, by omega, by go_num⟩
              case measure => simp [intOf]; omega
          · have hne : k < j := by omega
            have hk3 := hj.end_ (by omega)
            clear hc2 hc1
            go_wp2
            go_round
            case rel => exact ⟨j, hk3, rfl⟩
            case measure => simp [intOf]; omega
      · have hc1 : ¬ Tk.cls s[k].toNat = 1 := by
          intro h; simp_all
        have hc2 : ¬ s[k].toNat = 35 := by
          have h : ((s[k].toNat : Int) == 35) = false := by assumption
          simp only [beq_eq_false_iff_ne] at h; omega
        go_ret
        exact ⟨ret_int (hk.stop hlt hc1 hc2), rfl⟩
    · go_wp2
      go_ret
      exact ⟨ret_int (hk.done (by omega)), rfl⟩

/-- a run of bytes of a class. -/
def RunAt (s : ByteArray) (m : Int) (a k : Nat) : Prop := a ≤ k ∧ k ≤ s.size ∧ k + Tk.runF m (tl s k) = a + Tk.runF m (tl s a)
theorem RunAt.start {s : ByteArray} {m : Int} {a : Nat} (h : a ≤ s.size) : RunAt s m a a := ⟨Nat.le_refl _, h, rfl⟩
theorem RunAt.more {s : ByteArray} {m : Int} {a k : Nat} (h : RunAt s m a k) (hk : k < s.size) (hc : m ≤ Tk.cls s[k].toNat) : RunAt s m a (k + 1) := by
  obtain ⟨h1, h2, h3⟩ := h
  rw [tl_cons s k hk, Tk.runF, if_pos hc] at h3
  exact ⟨by omega, by omega, by omega⟩
theorem RunAt.done {s : ByteArray} {m : Int} {a k : Nat} (h : RunAt s m a k) (hk : s.size ≤ k) : (k : Int) = ((a + Tk.runF m (tl s a) : Nat) : Int) := by
  obtain ⟨h1, h2, h3⟩ := h
  rw [tl_nil s k hk] at h3
  simp only [Tk.runF] at h3
  omega
theorem RunAt.stop {s : ByteArray} {m : Int} {a k : Nat} (h : RunAt s m a k) (hk : k < s.size) (hc : ¬ m ≤ Tk.cls s[k].toNat) : (k : Int) = ((a + Tk.runF m (tl s a) : Nat) : Int) := by
  obtain ⟨h1, h2, h3⟩ := h
  rw [tl_cons s k hk, Tk.runF, if_neg hc] at h3
  omega

set_option maxHeartbeats 400000 in
theorem run_any (s : ByteArray) (a : Nat) (m : Int) (w : World) (hs : s.size ≤ maxLen) (ha : a ≤ s.size) :
    Calls Tryd.prog 28 #[.string s, .int .i64 a, .int .i64 m] w fun e w' => e = .returned (.int .i64 ((a + Tk.runF m (tl s a) : Nat) : Int)) ∧ w = w' := by
  unfold maxLen at hs
  go_enter Tryd.func28, Tryd.ntmps28
  go_wp2
  go_loop [1] (fun i => ∃ k : Nat, RunAt s m a k ∧ i = .int .i64 k) (fun i => s.size - (intOf i).toNat)
  case atStart => exact ⟨a, RunAt.start ha, rfl⟩
  case round =>
    obtain ⟨k, hk, rfl⟩ := hrel
    have hkle := hk.2.1
    by_cases hlt : k < s.size
    · by_cases hc : m ≤ Tk.cls s[k].toNat
      · have hk2 := hk.more hlt hc
        go_wp2_with (go_at_call 27; refine (of_any _ _).mono ?_; rintro e w' ⟨rfl, rfl⟩)
        go_round
        case rel => exact ⟨k + 1, hk2, by go_num⟩
        case measure => simp [intOf]; omega
      · go_wp2_with (go_at_call 27; refine (of_any _ _).mono ?_; rintro e w' ⟨rfl, rfl⟩)
        go_ret
        exact ⟨ret_int (hk.stop hlt (by omega)), rfl⟩
    · go_wp2
      go_ret
      exact ⟨ret_int (hk.done (by omega)), rfl⟩
end Go.Proofs.YtmahhaabhaigiaaDoor
