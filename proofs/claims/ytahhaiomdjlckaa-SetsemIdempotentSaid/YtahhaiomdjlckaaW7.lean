/-
  The walk of the reference's comparison of lists; the recursion closed; the reference's comparison of constraints.
-/
import Derived.Test.YtahhaiomdjlckaaW6
namespace Go.Proofs.Ytahhaiomdjlckaa
set_option linter.unusedVariables false
set_option linter.unusedSimpArgs false
open Go.RowKit

set_option maxRecDepth 100000 in
set_option maxHeartbeats 2000000 in
theorem rlist_step (n : Nat) (ih : RCmpSaid n) : RListSaid (n + 1) := by
  intro l m A A' c c' w hn hlm hA hA'
  have hl := hA.1
  have hm := hA'.1
  unfold maxLen at hl hm
  have HA := Lib.hid hA
  have HA' := Lib.hid hA'
  have Hih := Lib.hid ih
  have Hlm := Lib.hid hlm
  clear hA hA' ih
  have hlm1 : l.length ≤ m.length := by omega
  have hlm2 : m.length ≤ l.length := by omega
  clear hlm
  go_enter Try.func57, Try.ntmps57
  go_wp2
  go_loopw [5, 6] (fun i u wr => ∃ k : Nat, LstAt l m k ∧ i = .int .i64 k ∧ Below w.heap.size w wr) (fun i _ _ => l.length - (intOf i).toNat)
  case atStart => exact ⟨0, ⟨Nat.zero_le _, rfl⟩, rfl, Below.refl _ _⟩
  case round =>
    obtain ⟨k, hk, rfl, hb⟩ := hrel
    have hkl := hk.1
    have hk2 := Lib.hid hk.2
    by_cases hlt : k < l.length
    · obtain ⟨x, hx⟩ : ∃ x, l[k]? = some x := ⟨_, List.getElem?_eq_getElem hlt⟩
      obtain ⟨y, hy⟩ : ∃ y, m[k]? = some y := ⟨_, List.getElem?_eq_getElem (show k < m.length by omega)⟩
      obtain ⟨b, off, rfl, hblt, hx1⟩ := (HA.out.below hb).2 k x hx
      obtain ⟨b', off', rfl, hblt', hy1⟩ := (HA'.out.below hb).2 k y hy
      obtain ⟨⟨p0, _⟩, ⟨p1, _⟩, ⟨p2, _⟩, B, d, p3, hB⟩ := hx1.open_
      obtain ⟨⟨q0, _⟩, ⟨q1, _⟩, ⟨q2, _⟩, B', d', q3, hB'⟩ := hy1.open_
      have hsz : SizeOf.sizeOf x ≤ n := by
        have := List.sizeOf_lt_of_mem (List.mem_of_getElem? hx)
        omega
      have hdr : Below wr.heap.size wr wr.drew := (Below.refl _ _).drew
      have h0 := Hih.out x y B B' d d' wr.drew hsz (SlAt.below TmAt.stable hB hdr) (SlAt.below TmAt.stable hB' hdr)
      unfold tmv at h0
      have hcall := Lib.hid h0
      have hkm : k < m.length := by omega
      have hd : l.drop k = x :: l.drop (k + 1) := by
        rw [List.drop_eq_getElem_cons hlt]
        rw [List.getElem?_eq_getElem hlt] at hx
        rw [Option.some.inj hx]
      have hd' : m.drop k = y :: m.drop (k + 1) := by
        rw [List.drop_eq_getElem_cons hkm]
        rw [List.getElem?_eq_getElem hkm] at hy
        rw [Option.some.inj hy]
      have hk3 := hk2.out
      rw [hd, hd', cmpL] at hk3
      have hbs := hb.size
      by_cases hc : cmpT x y = 0
      · have hc1 : (cmpT x y != 0) = false := by simp [hc]
        rw [if_neg (by simp [hc])] at hk3
        have hk4 : LstAt l m (k + 1) := ⟨by omega, hk3⟩
        clear hx hy hB hB' hsz h0 hd hd' hk3 hc hk
        go_wp2
        go_still_tail 8, (by kernel_rfl)
        change wpList _ _ _ _ _ wr.drew
        go_wp2_with (go_at_call 45; refine hcall.out.mono ?_; rintro e w1 ⟨rfl, hb1⟩)
        go_roundw
        case rel => exact ⟨k + 1, hk4, by go_num, hb.trans ((hdr.trans hb1).mono hbs)⟩
        case measure => simp [intOf]; omega
      · have hc1 : (cmpT x y != 0) = true := by simp [hc]
        rw [if_pos hc] at hk3
        have hk4 := Lib.hid hk3
        clear hx hy hB hB' hsz h0 hd hd' hk3 hc hk
        go_wp2
        go_still_tail 8, (by kernel_rfl)
        change wpList _ _ _ _ _ wr.drew
        go_wp2_with (go_at_call 45; refine hcall.out.mono ?_; rintro e w1 ⟨rfl, hb1⟩)
        go_ret
        exact ⟨ret_int hk4.out, hb.trans ((hdr.trans hb1).mono hbs)⟩
    · have hk3 := hk2.out
      rw [List.drop_of_length_le (show l.length ≤ k by omega), cmpL] at hk3
      have hz : cmpI l.length m.length = 0 := cmpI_zero.2 (by omega)
      have hk4 := Lib.hid (hz.trans hk3)
      clear hk3 hk hz
      go_wp2_with (go_at_call 56; refine (rI_any _ _ _).mono ?_; rintro e w' ⟨rfl, rfl⟩)
      go_ret
      exact ⟨ret_int hk4.out, hb⟩
theorem rcmp_list_all : ∀ n, RCmpSaid n ∧ RListSaid n := by
  intro n
  induction n with
  | zero =>
    refine ⟨fun a b A A' c c' w hn => ?_, fun l m A A' c c' w hn => ?_⟩
    · cases a; simp at hn
    · cases l <;> simp at hn
  | succ n ih => exact ⟨rcmp_step n ih.2, rlist_step n ih.1⟩
theorem rcmpT_any (a b : Tm) (A A' : Option Addr) (c c' : Nat) (w : World) (h : TmsAt w A a.ts) (h' : TmsAt w A' b.ts) :
    Calls Try.prog 45 #[tmv a A c, tmv b A' c'] w fun e w' => e = .returned (.int .i64 (cmpT a b)) ∧ Below w.heap.size w w' := (rcmp_list_all _).1 a b A A' c c' w (Nat.le_refl _) h h'
theorem rcmpL_any (l m : List Tm) (A A' : Option Addr) (c c' : Nat) (w : World) (hlm : l.length = m.length) (h : TmsAt w A l) (h' : TmsAt w A' m) :
    Calls Try.prog 57 #[.slice A l.length c, .slice A' m.length c'] w fun e w' => e = .returned (.int .i64 (cmpL l m)) ∧ Below w.heap.size w w' := (rcmp_list_all _).2 l m A A' c c' w (Nat.le_refl _) hlm h h'

set_option maxRecDepth 100000 in
set_option maxHeartbeats 2000000 in
theorem rcmpA_any (a b : At) (A A' : Option Addr) (c c' : Nat) (w : World) (hA : TmsAt w A a.ts) (hA' : TmsAt w A' b.ts) :
    Calls Try.prog 42 #[atv a A c, atv b A' c'] w fun e w' => e = .returned (.int .i64 (cmpA a b)) ∧ Below w.heap.size w w' := by
  have hl := hA.1
  have hm := hA'.1
  unfold maxLen at hl hm
  have HA := Lib.hid hA
  have HA' := Lib.hid hA'
  clear hA hA'
  have Heq := Lib.hid (cmpA_eq a b)
  have hbox : ∀ o o' : Obj, Below w.heap.size w ((w.alloc o).alloc o') := fun o o' => ((Below.refl _ _).alloc (Nat.le_refl _) _).alloc (by simp) _
  unfold atv
  by_cases k1 : cmpS a.nm b.nm = 0
  · have k1' : (cmpS a.nm b.nm == 0) = true := by simp [k1]
    by_cases k2 : cmpI a.ts.length b.ts.length = 0
    · have k2' : (cmpI a.ts.length b.ts.length == 0) = true := by simp [k2]
      have Heq3 := Lib.hid (Heq.out.trans (show _ = cmpL a.ts b.ts by simp [orI, k1, k2]))
      have hcall := Lib.hid (fun o o' => rcmpL_any a.ts b.ts A A' c c' ((w.alloc o).alloc o') (by have := cmpI_zero.1 k2; omega) (HA.out.below (hbox o o')) (HA'.out.below (hbox o o')))
      clear Heq k1 k2
      go_enter Try.func42, Try.ntmps42
      go_wp2_with (first | (go_at_call 56; refine (rI_any _ _ _).mono ?_; rintro e w' ⟨rfl, rfl⟩) | (go_at_call 55; refine (rS_any _ _ _).mono ?_; rintro e w' ⟨rfl, rfl⟩) | (go_at_call 57; refine (hcall.out _ _).mono ?_; rintro e w' ⟨rfl, hb1⟩))
      go_ret
      exact ⟨ret_int Heq3.out.symm, (hbox _ _).trans (hb1.mono (by simp; omega))⟩
    · have k2' : (cmpI a.ts.length b.ts.length == 0) = false := by simp [k2]
      have Heq3 := Lib.hid (Heq.out.trans (show _ = cmpI a.ts.length b.ts.length by simp [orI, k1, k2]))
      clear Heq k1 k2
      go_enter Try.func42, Try.ntmps42
      go_wp2_with (first | (go_at_call 56; refine (rI_any _ _ _).mono ?_; rintro e w' ⟨rfl, rfl⟩) | (go_at_call 55; refine (rS_any _ _ _).mono ?_; rintro e w' ⟨rfl, rfl⟩))
      go_ret
      exact ⟨ret_int Heq3.out.symm, hbox _ _⟩
  · have k1' : (cmpS a.nm b.nm == 0) = false := by simp [k1]
    have Heq3 := Lib.hid (Heq.out.trans (show _ = cmpS a.nm b.nm by simp [orI, k1]))
    clear Heq k1
    go_enter Try.func42, Try.ntmps42
    go_wp2_with (first | (go_at_call 56; refine (rI_any _ _ _).mono ?_; rintro e w' ⟨rfl, rfl⟩) | (go_at_call 55; refine (rS_any _ _ _).mono ?_; rintro e w' ⟨rfl, rfl⟩))
    go_ret
    exact ⟨ret_int Heq3.out.symm, hbox _ _⟩

set_option maxRecDepth 100000 in
set_option maxHeartbeats 2000000 in
theorem rsameA_any (a b : At) (A A' : Option Addr) (c c' : Nat) (w : World) (hA : TmsAt w A a.ts) (hA' : TmsAt w A' b.ts) :
    Calls Try.prog 24 #[atv a A c, atv b A' c'] w fun e w' => e = .returned (.bool (sameA a b)) ∧ Below w.heap.size w w' := by
  have hl := hA.1
  have hm := hA'.1
  unfold maxLen at hl hm
  have hbox : ∀ o o' : Obj, Below w.heap.size w ((w.alloc o).alloc o') := fun o o' => ((Below.refl _ _).alloc (Nat.le_refl _) _).alloc (by simp) _
  have hc0 := fun o o' => rcmpA_any a b A A' c c' ((w.alloc o).alloc o') (hA.below (hbox o o')) (hA'.below (hbox o o'))
  unfold atv at hc0
  have hcall := Lib.hid hc0
  clear hA hA' hc0
  unfold atv sameA
  go_enter Try.func24, Try.ntmps24
  go_wp2_with (go_at_call 42; refine (hcall.out _ _).mono ?_; rintro e w' ⟨rfl, hb1⟩)
  go_ret
  exact ⟨rfl, (hbox _ _).trans (hb1.mono (by simp; omega))⟩

set_option maxRecDepth 100000 in
set_option maxHeartbeats 2000000 in
theorem rsameT_any (a b : Tm) (A A' : Option Addr) (c c' : Nat) (w : World) (hA : TmsAt w A a.ts) (hA' : TmsAt w A' b.ts) :
    Calls Try.prog 29 #[tmv a A c, tmv b A' c'] w fun e w' => e = .returned (.bool (cmpT a b == 0)) ∧ Below w.heap.size w w' := by
  have hl := hA.1
  have hm := hA'.1
  unfold maxLen at hl hm
  have hbox : ∀ o o' : Obj, Below w.heap.size w ((w.alloc o).alloc o') := fun o o' => ((Below.refl _ _).alloc (Nat.le_refl _) _).alloc (by simp) _
  have hc0 := fun o o' => rcmpT_any a b A A' c c' ((w.alloc o).alloc o') (hA.below (hbox o o')) (hA'.below (hbox o o'))
  unfold tmv at hc0
  have hcall := Lib.hid hc0
  clear hA hA' hc0
  unfold tmv
  go_enter Try.func29, Try.ntmps29
  go_wp2_with (go_at_call 45; refine (hcall.out _ _).mono ?_; rintro e w' ⟨rfl, hb1⟩)
  go_ret
  exact ⟨rfl, (hbox _ _).trans (hb1.mono (by simp; omega))⟩
end Go.Proofs.Ytahhaiomdjlckaa
