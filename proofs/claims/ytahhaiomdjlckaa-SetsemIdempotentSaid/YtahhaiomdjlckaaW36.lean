/-
  The walks of weigh, GreatAtoms and GreatGoals once more: what is not great has few nodes.
-/
import Derived.Test.YtahhaiomdjlckaaW15
import Derived.Test.YtahhaiomdjlckaaShiftP
import Derived.IntWalk
namespace Go.Proofs.Ytahhaiomdjlckaa
set_option linter.unusedVariables false
set_option linter.unusedSimpArgs false
open Go.RowKit

theorem szT_mk (x : Tm) : szT x = 1 + szL x.ts := by obtain ⟨a, b, c, d⟩ := x; rfl
theorem szL_app : ∀ a b : List Tm, szL (a ++ b) = szL a + szL b
  | [], b => by simp [szL]
  | t :: ts, b => by simp only [List.cons_append, szL, szL_app ts b]; omega
theorem szL_take {l : List Tm} {k : Nat} {x : Tm} (h : l[k]? = some x) : szL (l.take (k + 1)) = szL (l.take k) + (1 + szL x.ts) := by
  rw [List.take_add_one, h, szL_app]
  simp only [Option.toList_some, szL, szT_mk]; omega
def szA : List At → Nat
  | [] => 0
  | a :: l => 1 + szL a.ts + szA l
theorem szA_app : ∀ a b : List At, szA (a ++ b) = szA a + szA b
  | [], b => by simp [szA]
  | t :: ts, b => by simp only [List.cons_append, szA, szA_app ts b]; omega
theorem szA_take {l : List At} {k : Nat} {x : At} (h : l[k]? = some x) : szA (l.take (k + 1)) = szA (l.take k) + (1 + szL x.ts) := by
  rw [List.take_add_one, h, szA_app]
  simp only [Option.toList_some, szA]
  omega
def szG : List Gl → Nat
  | [] => 0
  | a :: l => 1 + szL a.ts + szG l
theorem szG_app : ∀ a b : List Gl, szG (a ++ b) = szG a + szG b
  | [], b => by simp [szG]
  | t :: ts, b => by simp only [List.cons_append, szG, szG_app ts b]; omega
theorem szG_take {l : List Gl} {k : Nat} {x : Gl} (h : l[k]? = some x) : szG (l.take (k + 1)) = szG (l.take k) + (1 + szL x.ts) := by
  rw [List.take_add_one, h, szG_app]
  simp only [Option.toList_some, szG]
  omega
def WeighSz (n : Nat) : Prop := ∀ (l : List Tm) (A : Option Addr) (c : Nat) (left deep : Int) (w : World), SizeOf.sizeOf l ≤ n → TmsAt w A l → left ≤ 1000000 → -9000000000000000000 ≤ left →
  Calls Try.prog 36 #[.slice A l.length c, .int .i64 left, .int .i64 deep] w fun e w' => (∃ r, e = .returned (.int .i64 r) ∧ r ≤ max left (-1) ∧ (0 ≤ r → r + szL l ≤ left)) ∧ Below w.heap.size w w'

set_option maxRecDepth 100000 in
set_option maxHeartbeats 2000000 in
theorem weighSz_step (n : Nat) (ih : WeighSz n) : WeighSz (n + 1) := by
  intro l A c left deep w hn hA hle hge
  have hl := hA.1
  unfold maxLen at hl
  have HA := Lib.hid hA
  have Hih := Lib.hid ih
  clear hA ih
  cases h1 : (deep == 0) with
  | true =>
    go_enter Try.func36, Try.ntmps36
    go_wp2
    go_ret
    exact ⟨⟨_, rfl, by omega, by omega⟩, Below.refl _ _⟩
  | false =>
    cases h2 : decide (left < (l.length : Int)) with
    | true =>
      go_enter Try.func36, Try.ntmps36
      go_wp2
      go_ret
      exact ⟨⟨_, rfl, by omega, by omega⟩, Below.refl _ _⟩
    | false =>
      go_enter Try.func36, Try.ntmps36
      go_wp2
      go_loopw [1, 7] (fun r i wr => ∃ (k : Nat) (z : Int), k ≤ l.length ∧ i = .int .i64 k ∧ r = .int .i64 z ∧ z ≤ left ∧ (0 ≤ z → z + (szL (l.take k) : Nat) ≤ left) ∧ Below w.heap.size w wr) (fun _ i _ => l.length - (intOf i).toNat)
      case atStart => exact ⟨0, left, Nat.zero_le _, rfl, rfl, Int.le_refl _, by simp [szL], Below.refl _ _⟩
      case round =>
        obtain ⟨k, z, hk, rfl, rfl, hzl, hzs, hbel⟩ := hrel
        rw [decide_eq_false_iff_not] at h2
        by_cases hlt : k < l.length
        · cases hz : decide ((0 : Int) ≤ z) with
          | true =>
            obtain ⟨x, hx⟩ : ∃ x, l[k]? = some x := ⟨_, List.getElem?_eq_getElem hlt⟩
            have htk := szL_take hx
            obtain ⟨b, off, rfl, hblt, hx1⟩ := (HA.out.below hbel).2 k x hx
            obtain ⟨⟨p0, _⟩, ⟨p1, _⟩, ⟨p2, hns⟩, B, d, p3, hB⟩ := hx1.open_
            unfold maxLen at hns
            have hz0 : 0 ≤ z := by simpa using hz
            have hsz : SizeOf.sizeOf x.ts ≤ n := by
              have := List.sizeOf_lt_of_mem (List.mem_of_getElem? hx)
              have := size_ts x
              omega
            have hdr : Below wr.heap.size wr wr.drew := (Below.refl _ _).drew
            have hcall := Lib.hid (fun left deep => Hih.out x.ts B d left deep wr.drew hsz (SlAt.below TmAt.stable hB hdr))
            have hs := hbel.size
            clear hx hx1 hB hsz
            go_wp2
            go_still_tail 17, (by kernel_rfl)
            change wpList _ _ _ _ _ wr.drew
            go_wp2_with (go_at_call 36; refine (hcall.out _ _ (by omega) (by omega)).mono ?_; rintro e w1 ⟨⟨r, rfl, hr, hrs⟩, hb1⟩)
            go_roundw
            case rel => exact ⟨k + 1, r, by omega, by go_num, rfl, by omega, fun h => by have := hrs h; have := hzs hz0; omega, hbel.trans ((hdr.trans hb1).mono hs)⟩
            case measure => simp [intOf]; omega
          | false =>
            go_wp2
            go_ret
            exact ⟨⟨_, rfl, by omega, fun h => by exfalso; rw [decide_eq_false_iff_not] at hz; omega⟩, hbel⟩
        · go_wp2
          go_ret
          obtain rfl : k = l.length := by omega
          rw [List.take_length] at hzs
          exact ⟨⟨_, rfl, by omega, hzs⟩, hbel⟩
theorem weighSz_all : ∀ n, WeighSz n := by
  intro n
  induction n with
  | zero => intro l A c left deep w hn _ _ _; cases l <;> simp at hn
  | succ n ih => exact weighSz_step n ih
theorem weighSz_any (l : List Tm) (A : Option Addr) (c : Nat) (left deep : Int) (w : World) (hA : TmsAt w A l) (h1 : left ≤ 1000000) (h2 : -9000000000000000000 ≤ left) :
    Calls Try.prog 36 #[.slice A l.length c, .int .i64 left, .int .i64 deep] w fun e w' => (∃ r, e = .returned (.int .i64 r) ∧ r ≤ max left (-1) ∧ (0 ≤ r → r + szL l ≤ left)) ∧ Below w.heap.size w w' :=
  weighSz_all _ l A c left deep w (Nat.le_refl _) hA h1 h2

set_option maxRecDepth 100000 in
set_option maxHeartbeats 2000000 in
theorem greatAtomsSz_any (l : List At) (A : Option Addr) (c : Nat) (left : Int) (w : World) (hA : SlAt AtAt 2 w A l) (hle : left ≤ 1000000) (hge : -1 ≤ left) :
    Calls Try.prog 17 #[.slice A l.length c, .int .i64 left] w fun e w' => (∃ r, e = .returned (.bool r) ∧ (r = false → (l.length : Int) ≤ left ∧ (szA l : Int) ≤ left)) ∧ Below w.heap.size w w' := by
  have hl := hA.1
  unfold maxLen at hl
  have HA := Lib.hid hA
  clear hA
  go_enter Try.func17, Try.ntmps17
  go_wp2
  go_loopw [1, 5] (fun r i wr => ∃ (k : Nat) (z : Int), k ≤ l.length ∧ i = .int .i64 k ∧ r = .int .i64 z ∧ z ≤ left - k ∧ (0 ≤ z → z + (szA (l.take k) : Nat) ≤ left) ∧ Below w.heap.size w wr) (fun _ i _ => l.length - (intOf i).toNat)
  case atStart => exact ⟨0, left, Nat.zero_le _, rfl, rfl, by omega, by simp [szA], Below.refl _ _⟩
  case round =>
    obtain ⟨k, z, hk, rfl, rfl, hzl, hzs, hbel⟩ := hrel
    by_cases hlt : k < l.length
    · cases hz : decide ((0 : Int) ≤ z) with
      | true =>
        obtain ⟨x, hx⟩ : ∃ x, l[k]? = some x := ⟨_, List.getElem?_eq_getElem hlt⟩
        have htk := szA_take hx
        obtain ⟨b, off, rfl, hblt, hx1⟩ := (SlAt.below AtAt.stable HA.out hbel).2 k x hx
        obtain ⟨⟨p0, hns⟩, B, d, p1, hB⟩ := hx1
        unfold maxLen at hns
        have hz0 : 0 ≤ z := by simpa using hz
        have hdr : Below wr.heap.size wr wr.drew := (Below.refl _ _).drew
        have hcall := Lib.hid (fun left deep h1 h2 => weighSz_any x.ts B d left deep wr.drew (SlAt.below TmAt.stable hB hdr) h1 h2)
        have hs := hbel.size
        clear hx hB
        go_wp2
        go_still_tail 15, (by kernel_rfl)
        change wpList _ _ _ _ _ wr.drew
        go_wp2_with (go_at_call 36; refine (hcall.out _ _ (by omega) (by omega)).mono ?_; rintro e w1 ⟨⟨r, rfl, hr, hrs⟩, hb1⟩)
        go_roundw
        case rel => exact ⟨k + 1, r, by omega, by go_num, rfl, by omega, fun h => by have := hrs h; have := hzs hz0; omega, hbel.trans ((hdr.trans hb1).mono hs)⟩
        case measure => simp [intOf]; omega
      | false =>
        go_wp2
        go_ret
        exact ⟨⟨_, rfl, fun h => by exfalso; first | (simp at h hz; omega) | (simp at h; omega)⟩, hbel⟩
    · go_wp2
      go_ret
      obtain rfl : k = l.length := by omega
      rw [List.take_length] at hzs
      exact ⟨⟨_, rfl, fun h => by (have h0 : 0 ≤ z := by (first | (simp at h; omega) | (simp at h hz; omega))); have := hzs h0; exact ⟨by omega, by omega⟩⟩, hbel⟩
set_option maxRecDepth 100000 in
set_option maxHeartbeats 2000000 in
theorem greatGoalsSz_any (l : List Gl) (A : Option Addr) (c : Nat) (left : Int) (w : World) (hA : SlAt GlAt 3 w A l) (hle : left ≤ 1000000) (hge : -1 ≤ left) :
    Calls Try.prog 25 #[.slice A l.length c, .int .i64 left] w fun e w' => (∃ r, e = .returned (.bool r) ∧ (r = false → (l.length : Int) ≤ left ∧ (szG l : Int) ≤ left)) ∧ Below w.heap.size w w' := by
  have hl := hA.1
  unfold maxLen at hl
  have HA := Lib.hid hA
  clear hA
  go_enter Try.func25, Try.ntmps25
  go_wp2
  go_loopw [1, 5] (fun r i wr => ∃ (k : Nat) (z : Int), k ≤ l.length ∧ i = .int .i64 k ∧ r = .int .i64 z ∧ z ≤ left - k ∧ (0 ≤ z → z + (szG (l.take k) : Nat) ≤ left) ∧ Below w.heap.size w wr) (fun _ i _ => l.length - (intOf i).toNat)
  case atStart => exact ⟨0, left, Nat.zero_le _, rfl, rfl, by omega, by simp [szG], Below.refl _ _⟩
  case round =>
    obtain ⟨k, z, hk, rfl, rfl, hzl, hzs, hbel⟩ := hrel
    by_cases hlt : k < l.length
    · cases hz : decide ((0 : Int) ≤ z) with
      | true =>
        obtain ⟨x, hx⟩ : ∃ x, l[k]? = some x := ⟨_, List.getElem?_eq_getElem hlt⟩
        have htk := szG_take hx
        obtain ⟨b, off, rfl, hblt, hx1⟩ := (SlAt.below GlAt.stable HA.out hbel).2 k x hx
        obtain ⟨_, ⟨p0, hns⟩, B, d, p1, hB⟩ := hx1
        unfold maxLen at hns
        have hz0 : 0 ≤ z := by simpa using hz
        have hdr : Below wr.heap.size wr wr.drew := (Below.refl _ _).drew
        have hcall := Lib.hid (fun left deep h1 h2 => weighSz_any x.ts B d left deep wr.drew (SlAt.below TmAt.stable hB hdr) h1 h2)
        have hs := hbel.size
        clear hx hB
        go_wp2
        go_still_tail 15, (by kernel_rfl)
        change wpList _ _ _ _ _ wr.drew
        go_wp2_with (go_at_call 36; refine (hcall.out _ _ (by omega) (by omega)).mono ?_; rintro e w1 ⟨⟨r, rfl, hr, hrs⟩, hb1⟩)
        go_roundw
        case rel => exact ⟨k + 1, r, by omega, by go_num, rfl, by omega, fun h => by have := hrs h; have := hzs hz0; omega, hbel.trans ((hdr.trans hb1).mono hs)⟩
        case measure => simp [intOf]; omega
      | false =>
        go_wp2
        go_ret
        exact ⟨⟨_, rfl, fun h => by exfalso; first | (simp at h hz; omega) | (simp at h; omega)⟩, hbel⟩
    · go_wp2
      go_ret
      obtain rfl : k = l.length := by omega
      rw [List.take_length] at hzs
      exact ⟨⟨_, rfl, fun h => by (have h0 : 0 ≤ z := by (first | (simp at h; omega) | (simp at h hz; omega))); have := hzs h0; exact ⟨by omega, by omega⟩⟩, hbel⟩
end Go.Proofs.Ytahhaiomdjlckaa
