/-
  The walks of weigh and GreatAtoms, in the reference: they return something.
-/
import Derived.Test.YtahhaiomdjlckaaW14
namespace Go.Proofs.Ytahhaiomdjlckaa
set_option linter.unusedVariables false
set_option linter.unusedSimpArgs false
open Go.RowKit

def WeighSaid (n : Nat) : Prop := ∀ (l : List Tm) (A : Option Addr) (c : Nat) (left deep : Int) (w : World), SizeOf.sizeOf l ≤ n → TmsAt w A l →
  Calls Try.prog 36 #[.slice A l.length c, .int .i64 left, .int .i64 deep] w fun e w' => (∃ r, e = .returned (.int .i64 r)) ∧ Below w.heap.size w w'

set_option maxRecDepth 100000 in
set_option maxHeartbeats 2000000 in
theorem weigh_step (n : Nat) (ih : WeighSaid n) : WeighSaid (n + 1) := by
  intro l A c left deep w hn hA
  have hl := hA.1
  unfold maxLen at hl
  have HA := Lib.hid hA
  have Hih := Lib.hid ih
  clear hA ih
  cases h1 : (deep == 0) with
  | true =>
    go_enter Try.func36, Try.ntmps36
    go_wp2
    go_ret
    exact ⟨⟨_, rfl⟩, Below.refl _ _⟩
  | false =>
    cases h2 : decide (left < (l.length : Int)) with
    | true =>
      go_enter Try.func36, Try.ntmps36
      go_wp2
      go_ret
      exact ⟨⟨_, rfl⟩, Below.refl _ _⟩
    | false =>
      go_enter Try.func36, Try.ntmps36
      go_wp2
      go_loopw [1, 7] (fun r i wr => ∃ (k : Nat) (z : Int), k ≤ l.length ∧ i = .int .i64 k ∧ r = .int .i64 z ∧ Below w.heap.size w wr) (fun _ i _ => l.length - (intOf i).toNat)
      case atStart => exact ⟨0, left, Nat.zero_le _, rfl, rfl, Below.refl _ _⟩
      case round =>
        obtain ⟨k, z, hk, rfl, rfl, hbel⟩ := hrel
        by_cases hlt : k < l.length
        · cases hz : decide ((0 : Int) ≤ z) with
          | true =>
            obtain ⟨x, hx⟩ : ∃ x, l[k]? = some x := ⟨_, List.getElem?_eq_getElem hlt⟩
            obtain ⟨b, off, rfl, hblt, hx1⟩ := (HA.out.below hbel).2 k x hx
            obtain ⟨⟨p0, _⟩, ⟨p1, _⟩, ⟨p2, _⟩, B, d, p3, hB⟩ := hx1.open_
            have hsz : SizeOf.sizeOf x.ts ≤ n := by
              have := List.sizeOf_lt_of_mem (List.mem_of_getElem? hx)
              have := size_ts x
              omega
            have hdr : Below wr.heap.size wr wr.drew := (Below.refl _ _).drew
            have hcall := Lib.hid (fun left deep => Hih.out x.ts B d left deep wr.drew hsz (SlAt.below TmAt.stable hB hdr))
            have hs := hbel.size
            clear hx hx1 hB hsz
            go_wp2
            go_still_tail 17, (by kernel_rfl)
            change wpList _ _ _ _ _ wr.drew
            go_wp2_with (go_at_call 36; refine (hcall.out _ _).mono ?_; rintro e w1 ⟨⟨r, rfl⟩, hb1⟩)
            go_roundw
            case rel => exact ⟨k + 1, r, by omega, by go_num, rfl, hbel.trans ((hdr.trans hb1).mono hs)⟩
            case measure => simp [intOf]; omega
          | false =>
            go_wp2
            go_ret
            exact ⟨⟨_, rfl⟩, hbel⟩
        · go_wp2
          go_ret
          exact ⟨⟨_, rfl⟩, hbel⟩
theorem weigh_all : ∀ n, WeighSaid n := by
  intro n
  induction n with
  | zero => intro l A c left deep w hn; cases l <;> simp at hn
  | succ n ih => exact weigh_step n ih
theorem weigh_any (l : List Tm) (A : Option Addr) (c : Nat) (left deep : Int) (w : World) (hA : TmsAt w A l) :
    Calls Try.prog 36 #[.slice A l.length c, .int .i64 left, .int .i64 deep] w fun e w' => (∃ r, e = .returned (.int .i64 r)) ∧ Below w.heap.size w w' :=
  weigh_all _ l A c left deep w (Nat.le_refl _) hA

set_option maxRecDepth 100000 in
set_option maxHeartbeats 2000000 in
theorem greatAtoms_any (l : List At) (A : Option Addr) (c : Nat) (left : Int) (w : World) (hA : SlAt AtAt 2 w A l) :
    Calls Try.prog 17 #[.slice A l.length c, .int .i64 left] w fun e w' => (∃ r, e = .returned (.bool r)) ∧ Below w.heap.size w w' := by
  have hl := hA.1
  unfold maxLen at hl
  have HA := Lib.hid hA
  clear hA
  go_enter Try.func17, Try.ntmps17
  go_wp2
  go_loopw [1, 5] (fun r i wr => ∃ (k : Nat) (z : Int), k ≤ l.length ∧ i = .int .i64 k ∧ r = .int .i64 z ∧ Below w.heap.size w wr) (fun _ i _ => l.length - (intOf i).toNat)
  case atStart => exact ⟨0, left, Nat.zero_le _, rfl, rfl, Below.refl _ _⟩
  case round =>
    obtain ⟨k, z, hk, rfl, rfl, hbel⟩ := hrel
    by_cases hlt : k < l.length
    · cases hz : decide ((0 : Int) ≤ z) with
      | true =>
        obtain ⟨x, hx⟩ : ∃ x, l[k]? = some x := ⟨_, List.getElem?_eq_getElem hlt⟩
        obtain ⟨b, off, rfl, hblt, hx1⟩ := (SlAt.below AtAt.stable HA.out hbel).2 k x hx
        obtain ⟨⟨p0, _⟩, B, d, p1, hB⟩ := hx1
        have hdr : Below wr.heap.size wr wr.drew := (Below.refl _ _).drew
        have hcall := Lib.hid (fun left deep => weigh_any x.ts B d left deep wr.drew (SlAt.below TmAt.stable hB hdr))
        have hs := hbel.size
        clear hx hB
        go_wp2
        go_still_tail 15, (by kernel_rfl)
        change wpList _ _ _ _ _ wr.drew
        go_wp2_with (go_at_call 36; refine (hcall.out _ _).mono ?_; rintro e w1 ⟨⟨r, rfl⟩, hb1⟩)
        go_roundw
        case rel => exact ⟨k + 1, r, by omega, by go_num, rfl, hbel.trans ((hdr.trans hb1).mono hs)⟩
        case measure => simp [intOf]; omega
      | false =>
        go_wp2
        go_ret
        exact ⟨⟨_, rfl⟩, hbel⟩
    · go_wp2
      go_ret
      exact ⟨⟨_, rfl⟩, hbel⟩
end Go.Proofs.Ytahhaiomdjlckaa
