/-
  The walks of SameInts, SameAtoms, weigh and GreatAtoms, in the reference.
-/
import Derived.Test.YtahhaiomdjlckaaW13
namespace Go.Proofs.Ytahhaiomdjlckaa
set_option linter.unusedVariables false
set_option linter.unusedSimpArgs false
open Go.RowKit

set_option maxRecDepth 100000 in
set_option maxHeartbeats 1000000 in
theorem sameInts_any (l : List Int) (A A' : Option Addr) (c c' : Nat) (w : World) (h : SlAt IntAt 1 w A l) (h' : SlAt IntAt 1 w A' l) :
    Calls Try.prog 20 #[.slice A l.length c, .slice A' l.length c'] w fun e w' => e = .returned (.bool true) ∧ ∃ n, w' = w.drewN n := by
  have hl := h.1
  unfold maxLen at hl
  have H := Lib.hid h
  have H' := Lib.hid h'
  clear h h'
  go_enter Try.func20, Try.ntmps20
  go_wp2
  go_loopw [5] (fun i wr => ∃ k n : Nat, k ≤ l.length ∧ i = .int .i64 k ∧ wr = w.drewN n) (fun i _ => l.length - (intOf i).toNat)
  case atStart => exact ⟨0, 0, Nat.zero_le _, rfl, rfl⟩
  case round =>
    obtain ⟨k, n, hk, rfl, rfl⟩ := hrel
    by_cases hlt : k < l.length
    · obtain ⟨x, hx⟩ : ∃ x, l[k]? = some x := ⟨_, List.getElem?_eq_getElem hlt⟩
      obtain ⟨b, off, rfl, hb, a0, _⟩ := H.out.2 k x hx
      obtain ⟨b', off', rfl, hb', b0, _⟩ := H'.out.2 k x hx
      simp only [Nat.mul_one] at a0 b0
      clear hx
      go_wp2
      go_quiet (fail)
      go_wp2
      go_roundw
      case rel => exact ⟨k + 1, _, by omega, by go_num, rfl⟩
      case measure => simp [intOf]; omega
    · go_wp2
      go_ret
      exact ⟨rfl, n, rfl⟩

set_option maxRecDepth 100000 in
set_option maxHeartbeats 1000000 in
theorem sameAtoms_any (l : List At) (A A' : Option Addr) (c c' : Nat) (w : World) (h : SlAt AtAt 2 w A l) (h' : SlAt AtAt 2 w A' l) :
    Calls Try.prog 22 #[.slice A l.length c, .slice A' l.length c'] w fun e w' => e = .returned (.bool true) ∧ Below w.heap.size w w' := by
  have hl := h.1
  unfold maxLen at hl
  have H := Lib.hid h
  have H' := Lib.hid h'
  clear h h'
  go_enter Try.func22, Try.ntmps22
  go_wp2
  go_loopw [5] (fun i wr => ∃ k : Nat, k ≤ l.length ∧ i = .int .i64 k ∧ Below w.heap.size w wr) (fun i _ => l.length - (intOf i).toNat)
  case atStart => exact ⟨0, Nat.zero_le _, rfl, Below.refl _ _⟩
  case round =>
    obtain ⟨k, hk, rfl, hbel⟩ := hrel
    by_cases hlt : k < l.length
    · obtain ⟨x, hx⟩ : ∃ x, l[k]? = some x := ⟨_, List.getElem?_eq_getElem hlt⟩
      obtain ⟨b, off, rfl, hb, ⟨a0, _⟩, B, d, a1, hB⟩ := H.out.2 k x hx
      obtain ⟨b', off', rfl, hb', ⟨b0, _⟩, B', d', b1, hB'⟩ := H'.out.2 k x hx
      have p0 := (hbel.cell (p := ⟨b, off + k * 2, none⟩) hb).trans a0
      have p1 := (hbel.cell (p := ⟨b, off + k * 2 + 1, none⟩) hb).trans a1
      have q0 := (hbel.cell (p := ⟨b', off' + k * 2, none⟩) hb').trans b0
      have q1 := (hbel.cell (p := ⟨b', off' + k * 2 + 1, none⟩) hb').trans b1
      have hs := hbel.size
      have hbr : b < wr.heap.size := Nat.lt_of_lt_of_le hb hs
      have hbr' : b' < wr.heap.size := Nat.lt_of_lt_of_le hb' hs
      have hdr : Below wr.heap.size wr wr.drew := (Below.refl _ _).drew
      have h0 := rsameA_any x x B B' d d' wr.drew (TmsAt.below hB (hbel.trans (hdr.mono hs))) (TmsAt.below hB' (hbel.trans (hdr.mono hs)))
      rw [sameA_refl] at h0
      unfold atv at h0
      have hcall := Lib.hid h0
      clear hx h0 hB hB' a0 a1 b0 b1
      go_wp2
      go_still_tail 8, (by kernel_rfl)
      change wpList _ _ _ _ _ wr.drew
      go_wp2_with (go_at_call 24; refine hcall.out.mono ?_; rintro e w1 ⟨rfl, hb1⟩)
      go_roundw
      case rel => exact ⟨k + 1, by omega, by go_num, hbel.trans ((hdr.trans hb1).mono hs)⟩
      case measure => simp [intOf]; omega
    · go_wp2
      go_ret
      exact ⟨rfl, hbel⟩
end Go.Proofs.Ytahhaiomdjlckaa
