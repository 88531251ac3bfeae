/-
  The walks of comparison of terms and lists of terms, in the program.
-/
import Derived.Test.YtahhaiomdjlckaaW1
namespace Go.Proofs.Ytahhaiomdjlckaa
set_option linter.unusedVariables false
set_option linter.unusedSimpArgs false
open Go.RowKit

theorem rank_q (k : Int) (w : World) : Calls Try.prog 72 #[.int .i64 k] w fun e w' => e = .returned (.int .i64 (rk k)) ∧ w' = w := (rank_any k w).mono fun _ _ h => ⟨h.1, h.2.symm⟩
theorem cmpI_q (a b : Int) (w : World) : Calls Try.prog 60 #[.int .i64 a, .int .i64 b] w fun e w' => e = .returned (.int .i64 (cmpI a b)) ∧ w' = w := (cmpI_any a b w).mono fun _ _ h => ⟨h.1, h.2.symm⟩
theorem cmpS_q (a b : ByteArray) (w : World) : Calls Try.prog 59 #[.string a, .string b] w fun e w' => e = .returned (.int .i64 (cmpS a b)) ∧ w' = w := (cmpS_any a b w).mono fun _ _ h => ⟨h.1, h.2.symm⟩

/-- a term as a value. -/
def tmv (a : Tm) (A : Option Addr) (c : Nat) : Value := .agg #[.int .i64 a.kd, .int .i64 a.it, .string a.nm, .slice A a.ts.length c]
def CmpSaid (n : Nat) : Prop := ∀ (a b : Tm) (A A' : Option Addr) (c c' : Nat) (w : World), SizeOf.sizeOf a ≤ n → TmsAt w A a.ts → TmsAt w A' b.ts →
  Calls Try.prog 68 #[tmv a A c, tmv b A' c'] w fun e w' => e = .returned (.int .i64 (cmpT a b)) ∧ Below w.heap.size w w'
def ListSaid (n : Nat) : Prop := ∀ (l m : List Tm) (A A' : Option Addr) (c c' : Nat) (w : World), SizeOf.sizeOf l ≤ n → l.length ≤ m.length → TmsAt w A l → TmsAt w A' m →
  Calls Try.prog 61 #[.slice A l.length c, .slice A' m.length c'] w fun e w' => e = .returned (.int .i64 (cmpL l m)) ∧ Below w.heap.size w w'
/-- the head of a round over two lists of terms. -/
def LstAt (l m : List Tm) (k : Nat) : Prop := k ≤ l.length ∧ cmpL (l.drop k) (m.drop k) = cmpL l m

set_option maxRecDepth 100000 in
set_option maxHeartbeats 1000000 in
theorem list_step (n : Nat) (ih : CmpSaid n) : ListSaid (n + 1) := by
  intro l m A A' c c' w hn hlm hA hA'
  have hl := hA.1
  have hm := hA'.1
  unfold maxLen at hl hm
  have HA := Lib.hid hA
  have HA' := Lib.hid hA'
  have Hih := Lib.hid ih
  clear hA hA' ih
  go_enter Try.func61, Try.ntmps61
  go_wp2
  go_loopw [9] (fun i wr => ∃ k : Nat, LstAt l m k ∧ i = .int .i64 k ∧ Below w.heap.size w wr) (fun i _ => l.length - (intOf i).toNat)
  case atStart => exact ⟨0, ⟨Nat.zero_le _, rfl⟩, rfl, Below.refl _ _⟩
  case round =>
    obtain ⟨k, hk, rfl, hb⟩ := hrel
    have hkl := hk.1
    have hk2 := Lib.hid hk.2
    by_cases hlt : k < l.length
    · obtain ⟨x, hx⟩ : ∃ x, l[k]? = some x := ⟨_, List.getElem?_eq_getElem hlt⟩
      obtain ⟨y, hy⟩ : ∃ y, m[k]? = some y := ⟨_, List.getElem?_eq_getElem (show k < m.length by omega)⟩
      obtain ⟨b, off, rfl, hblt, hx1⟩ := (HA.out.below hb).2 k x hx
      obtain ⟨b', off', rfl, hblt', hy1⟩ := (HA'.out.below hb).2 k y hy
      obtain ⟨⟨p0, _⟩, ⟨p1, _⟩, ⟨p2, _⟩, B, d, p3, hB⟩ := hx1.open_
      obtain ⟨⟨q0, _⟩, ⟨q1, _⟩, ⟨q2, _⟩, B', d', q3, hB'⟩ := hy1.open_
      have hsz : SizeOf.sizeOf x ≤ n := by
        have := List.sizeOf_lt_of_mem (List.mem_of_getElem? hx)
        omega
      have hdr : Below wr.heap.size wr wr.drew := (Below.refl _ _).drew
      have h0 := Hih.out x y B B' d d' wr.drew hsz (SlAt.below TmAt.stable hB hdr) (SlAt.below TmAt.stable hB' hdr)
      unfold tmv at h0
      have hcall := Lib.hid h0
      have hkm : k < m.length := by omega
      have hd : l.drop k = x :: l.drop (k + 1) := by
        rw [List.drop_eq_getElem_cons hlt]
        rw [List.getElem?_eq_getElem hlt] at hx
        rw [Option.some.inj hx]
      have hd' : m.drop k = y :: m.drop (k + 1) := by
        rw [List.drop_eq_getElem_cons hkm]
        rw [List.getElem?_eq_getElem hkm] at hy
        rw [Option.some.inj hy]
      have hk3 := hk2.out
      rw [hd, hd', cmpL] at hk3
      have hbs := hb.size
      by_cases hc : cmpT x y = 0
      · have hc1 : (cmpT x y != 0) = false := by simp [hc]
        rw [if_neg (by simp [hc])] at hk3
        have hk4 : LstAt l m (k + 1) := ⟨by omega, hk3⟩
        clear hx hy hB hB' hsz h0 hd hd' hk3 hc hk
        go_wp2
        go_still_tail 8, (by kernel_rfl)
        change wpList _ _ _ _ _ wr.drew
        go_wp2_with (go_at_call 68; refine hcall.out.mono ?_; rintro e w1 ⟨rfl, hb1⟩)
        go_roundw
        case rel => exact ⟨k + 1, hk4, by go_num, hb.trans ((hdr.trans hb1).mono hbs)⟩
        case measure => simp [intOf]; omega
      · have hc1 : (cmpT x y != 0) = true := by simp [hc]
        rw [if_pos hc] at hk3
        have hk4 := Lib.hid hk3
        clear hx hy hB hB' hsz h0 hd hd' hk3 hc hk
        go_wp2
        go_still_tail 8, (by kernel_rfl)
        change wpList _ _ _ _ _ wr.drew
        go_wp2_with (go_at_call 68; refine hcall.out.mono ?_; rintro e w1 ⟨rfl, hb1⟩)
        go_ret
        exact ⟨ret_int hk4.out, hb.trans ((hdr.trans hb1).mono hbs)⟩
    · have hk3 := hk2.out
      rw [List.drop_of_length_le (show l.length ≤ k by omega), cmpL] at hk3
      have hk4 := Lib.hid hk3
      clear hk3 hk
      go_wp2
      go_ret
      exact ⟨ret_int hk4.out, hb⟩
end Go.Proofs.Ytahhaiomdjlckaa
