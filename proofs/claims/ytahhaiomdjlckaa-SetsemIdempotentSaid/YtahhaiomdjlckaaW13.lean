/-
  The walks of repeats and Twice, in the program.
-/
import Derived.Test.YtahhaiomdjlckaaW12
namespace Go.Proofs.Ytahhaiomdjlckaa
set_option linter.unusedVariables false
set_option linter.unusedSimpArgs false
open Go.RowKit

theorem tat_xa {w : World} {A : Option Addr} {c : Nat} {l : List It} (hA : SlAt ItAt 3 w A l) (j k : Nat) (hj : j < l.length) (W : World) (hI : TInv w A c l k W) :
    Calls Try.prog 38 #[.int .i64 j, .pointer (some ⟨w.heap.size, 0, none⟩)] W fun e W' => ∃ B d, e = .returned (atv (xa (l.map It.at_) j) B d) ∧ TmsAt w B (xa (l.map It.at_) j).ts ∧ TInv w A c l k W' := by
  obtain ⟨x, hx⟩ : ∃ x, l[j]? = some x := ⟨_, List.getElem?_eq_getElem hj⟩
  have hxa : xa (l.map It.at_) j = x.at_ := by simp [xa, hx]
  rw [hxa]
  exact tat_any hA j k x hx W hI

set_option maxRecDepth 100000 in
set_option maxHeartbeats 2000000 in
theorem trepeats_any {w : World} {A : Option Addr} {c : Nat} {l : List It} (hA : SlAt ItAt 3 w A l) (h60 : l.length ≤ 60) (W : World) (hI : TInv w A c l 0 W) :
    Calls Try.prog 37 #[.int .i64 l.length, .func (.func 38) #[] #[.pointer (some ⟨w.heap.size, 0, none⟩)], .func (.func 39) #[] #[.pointer (some ⟨w.heap.size + 1, 0, none⟩), .pointer (some ⟨w.heap.size, 0, none⟩)]] W
      fun e W' => e = .returned (.tuple #[]) ∧ TInv w A c l l.length W' := by
  have Hat := Lib.hid (fun (j k : Nat) (W : World) (hj : j < l.length) (hI : TInv w A c l k W) => tat_xa hA j k hj W hI)
  have Hvis := Lib.hid (fun (k : Nat) (W : World) (hk : k < l.length) (hI : TInv w A c l k W) => tvisit_any hA h60 k hk W hI)
  have HI := Lib.hid hI
  clear hI hA
  go_enter Try.func37, Try.ntmps37
  go_wp2
  go_loopw [10, 6, 7, 8] (fun i _ _ _ wr => ∃ k : Nat, k ≤ l.length ∧ i = .int .i64 k ∧ Hid (TInv w A c l k wr)) (fun i _ _ _ _ => l.length - (intOf i).toNat)
  case atStart => exact ⟨0, Nat.zero_le _, rfl, HI⟩
  case round =>
    obtain ⟨i, hil, rfl, hInv⟩ := hrel
    by_cases hlt : i < l.length
    · go_wp2
      go_loopw [7, 8] (fun g j wr' => ∃ k : Nat, k ≤ i ∧ j = .int .i64 k ∧ g = .bool (agj (l.map It.at_) i k) ∧ Hid (TInv w A c l i wr')) (fun _ j _ => i - (intOf j).toNat)
      case atStart => exact ⟨0, Nat.zero_le _, rfl, rfl, hInv⟩
      case round =>
        obtain ⟨k, hki, rfl, rfl, hInv'⟩ := hrel
        have hfull := agj_full (l := l.map It.at_) (i := i) (by simpa using hlt)
        by_cases hlt' : k < i
        · have hkl : k < l.length := by omega
          have hs := agj_succ (l := l.map It.at_) (i := i) (j := k) (by simpa using hkl)
          cases hg : agj (l.map It.at_) i k with
          | true =>
            have hag : agn (l.map It.at_) i = true := by rw [← hfull]; exact agj_mono hki hg
            have Hv := Hvis.out i
            rw [hag] at Hv
            have Hv2 := Lib.hid Hv
            clear hg hs hfull hag Hv
            go_wp2_with (go_at_call 39; refine (Hv2.out _ hlt hInv'.out).mono ?_; rintro e w1 ⟨rfl, hI1⟩)
            have HI1 := Lib.hid hI1
            clear hI1
            go_roundw
            case rel => exact ⟨i + 1, by omega, by go_num, HI1⟩
            case measure => simp [intOf]; omega
          | false =>
            rw [hg, Bool.false_or] at hs
            have Hs := Lib.hid hs
            clear hg hs hfull
            go_wp2_with fail
            refine (Hat.out k i _ hkl hInv'.out).mono ?_
            rintro e w1 ⟨B1, d1, rfl, hB1, hI1⟩
            unfold atv
            go_wp2_with fail
            refine (Hat.out i i _ hlt hI1).mono ?_
            rintro e w2 ⟨B2, d2, rfl, hB2, hI2⟩
            unfold atv
            have h0 := sameA_any (xa (l.map It.at_) k) (xa (l.map It.at_) i) B1 B2 d1 d2 w2 (hB1.below hI2.below) (hB2.below hI2.below)
            unfold atv at h0
            go_wp2_with fail
            refine h0.mono ?_
            rintro e w3 ⟨rfl, hb3⟩
            have HI3 := Lib.hid (hI2.next hb3)
            clear hI1 hI2 hb3 hB1 hB2 h0
            go_wp2
            go_roundw
            case rel => exact ⟨k + 1, by omega, by go_num, by rw [Hs.out], HI3⟩
            case measure => simp [intOf]; omega
        · have hki2 : k = i := by omega
          subst hki2
          rw [hfull]
          have Hv2 := Lib.hid (Hvis.out k)
          clear hfull
          go_wp2_with (go_at_call 39; refine (Hv2.out _ hlt hInv'.out).mono ?_; rintro e w1 ⟨rfl, hI1⟩)
          have HI1 := Lib.hid hI1
          clear hI1
          go_roundw
          case rel => exact ⟨k + 1, by omega, by go_num, HI1⟩
          case measure => simp [intOf]; omega
    · go_wp2
      go_end0
      have : i = l.length := by omega
      subst this
      exact ⟨rfl, hInv.out⟩

set_option maxRecDepth 100000 in
set_option maxHeartbeats 1000000 in
theorem twice_any (l : List It) (A : Option Addr) (c : Nat) (w : World) (hA : SlAt ItAt 3 w A l) (h60 : l.length ≤ 60) :
    Calls Try.prog 18 #[.slice A l.length c] w fun e w' => ∃ v, e = .returned v ∧ Owned RI 3 1 w w' v (twc l l.length) ∧ Below w.heap.size w w' := by
  have hrep := Lib.hid (fun W hI => trepeats_any (w := w) (A := A) (c := c) hA h60 W hI)
  have hl := hA.1
  unfold maxLen at hl
  have hI0 : TInv w A c l 0 ((w.alloc (.cells #[.slice A l.length c] 49)).alloc (.cells #[.slice none 0 0] 55)) :=
    ⟨((Below.refl _ _).alloc (Nat.le_refl _) _).alloc (by simp) _, heap_alloc2_old w _ _, _, heap_alloc2_new w _ _, Owned.nil⟩
  have HI0 := Lib.hid hI0
  clear hA hI0
  go_enter Try.func18, Try.ntmps18
  go_wp2_with fail
  refine (hrep.out _ HI0.out).mono ?_
  rintro e w1 ⟨rfl, hI⟩
  obtain ⟨v, hv, hown⟩ := hI.out
  have hv0 := cell_of_one hv
  have hb := hI.below
  have Hown := Lib.hid hown
  have Hb := Lib.hid hb
  clear hI hv hown hb
  go_wp2
  go_ret
  exact ⟨_, rfl, Hown.out, Hb.out⟩
end Go.Proofs.Ytahhaiomdjlckaa
