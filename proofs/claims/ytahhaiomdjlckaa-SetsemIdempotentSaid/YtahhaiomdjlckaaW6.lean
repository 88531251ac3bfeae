/-
  The walk of the reference's comparison of terms.
-/
import Derived.Test.YtahhaiomdjlckaaW5
import Derived.Deep.RegionHeld3
import Derived.Deep.CutRange
namespace Go.Proofs.Ytahhaiomdjlckaa
set_option linter.unusedVariables false
set_option linter.unusedSimpArgs false
open Go.RowKit

/-- what is kept of the two boxes. -/
structure Boxes (a b : Tm) (A A' : Option Addr) (c c' : Nat) (w W : World) : Prop where
  below : Below w.heap.size w W
  s : w.heap.size + 1 < W.heap.size
  a0 : W.cell? ⟨w.heap.size, 0, none⟩ = some (.int .i64 a.kd)
  a1 : W.cell? ⟨w.heap.size, 1, none⟩ = some (.int .i64 a.it)
  a2 : W.cell? ⟨w.heap.size, 2, none⟩ = some (.string a.nm)
  a3 : W.cell? ⟨w.heap.size, 3, none⟩ = some (.slice A a.ts.length c)
  b0 : W.cell? ⟨w.heap.size + 1, 0, none⟩ = some (.int .i64 b.kd)
  b1 : W.cell? ⟨w.heap.size + 1, 1, none⟩ = some (.int .i64 b.it)
  b2 : W.cell? ⟨w.heap.size + 1, 2, none⟩ = some (.string b.nm)
  b3 : W.cell? ⟨w.heap.size + 1, 3, none⟩ = some (.slice A' b.ts.length c')
theorem Boxes.next {a b : Tm} {A A' : Option Addr} {c c' : Nat} {w W W' : World} (h : Boxes a b A A' c c' w W) (hb : Below W.heap.size W W') : Boxes a b A A' c c' w W' := by
  have s := h.s
  have k : ∀ j, W'.cell? ⟨w.heap.size, j, none⟩ = W.cell? ⟨w.heap.size, j, none⟩ := fun j => hb.cell (p := ⟨w.heap.size, j, none⟩) (by simp; omega)
  have k' : ∀ j, W'.cell? ⟨w.heap.size + 1, j, none⟩ = W.cell? ⟨w.heap.size + 1, j, none⟩ := fun j => hb.cell (p := ⟨w.heap.size + 1, j, none⟩) s
  exact ⟨h.below.trans (hb.mono h.below.size), Nat.lt_of_lt_of_le s hb.size, (k 0).trans h.a0, (k 1).trans h.a1, (k 2).trans h.a2, (k 3).trans h.a3, (k' 0).trans h.b0, (k' 1).trans h.b1, (k' 2).trans h.b2, (k' 3).trans h.b3⟩

theorem Boxes.all {a b : Tm} {A A' : Option Addr} {c c' : Nat} {w W : World} (h : Boxes a b A A' c c' w W) : Boxes a b A A' c c' w W ∧ W.cell? ⟨w.heap.size, 0, none⟩ = some (.int .i64 a.kd) ∧ W.cell? ⟨w.heap.size, 1, none⟩ = some (.int .i64 a.it) ∧ W.cell? ⟨w.heap.size, 2, none⟩ = some (.string a.nm) ∧ W.cell? ⟨w.heap.size, 3, none⟩ = some (.slice A a.ts.length c) ∧ W.cell? ⟨w.heap.size + 1, 0, none⟩ = some (.int .i64 b.kd) ∧ W.cell? ⟨w.heap.size + 1, 1, none⟩ = some (.int .i64 b.it) ∧ W.cell? ⟨w.heap.size + 1, 2, none⟩ = some (.string b.nm) ∧ W.cell? ⟨w.heap.size + 1, 3, none⟩ = some (.slice A' b.ts.length c') :=
  ⟨h, h.a0, h.a1, h.a2, h.a3, h.b0, h.b1, h.b2, h.b3⟩
def RCmpSaid (n : Nat) : Prop := ∀ (a b : Tm) (A A' : Option Addr) (c c' : Nat) (w : World), SizeOf.sizeOf a ≤ n → TmsAt w A a.ts → TmsAt w A' b.ts →
  Calls Try.prog 45 #[tmv a A c, tmv b A' c'] w fun e w' => e = .returned (.int .i64 (cmpT a b)) ∧ Below w.heap.size w w'
def RListSaid (n : Nat) : Prop := ∀ (l m : List Tm) (A A' : Option Addr) (c c' : Nat) (w : World), SizeOf.sizeOf l ≤ n → l.length = m.length → TmsAt w A l → TmsAt w A' m →
  Calls Try.prog 57 #[.slice A l.length c, .slice A' m.length c'] w fun e w' => e = .returned (.int .i64 (cmpL l m)) ∧ Below w.heap.size w w'

set_option maxRecDepth 100000 in
set_option maxHeartbeats 2000000 in
theorem rcmp_step (n : Nat) (ih : RListSaid n) : RCmpSaid (n + 1) := by
  intro a b A A' c c' w hn hA hA'
  have hl := hA.1
  have hm := hA'.1
  unfold maxLen at hl hm
  have HA := Lib.hid hA
  have HA' := Lib.hid hA'
  have Hih := Lib.hid ih
  have hsz := size_ts a
  clear hA hA' ih
  have Heq := Lib.hid (cmpT_eq a b)
  have hbox : ∀ o o' : Obj, Below w.heap.size w ((w.alloc o).alloc o') := fun o o' => ((Below.refl _ _).alloc (Nat.le_refl _) _).alloc (by simp) _
  have hk : ∀ (k i : Int) (n : ByteArray) (B : Option Addr) (m d : Nat) W, Boxes a b A A' c c' w W → Calls Try.prog 62 #[.agg #[.int .i64 k, .int .i64 i, .string n, .slice B m d]] W fun e w' => e = .returned (.int .i64 (rk k)) ∧ Boxes a b A A' c c' w w' :=
    fun k i n B m d W hW => (rK_any k i n B m d W).mono (by rintro e w' ⟨rfl, hb⟩; exact ⟨rfl, hW.next hb⟩)
  have Hk := Lib.hid hk
  clear hk
  unfold tmv
  go_enter Try.func45, Try.ntmps45
  go_wp2
  obtain ⟨V, hV⟩ : ∃ V, ((w.alloc (.cells #[.int .i64 a.kd, .int .i64 a.it, .string a.nm, .slice A a.ts.length c] 69)).alloc (.cells #[.int .i64 b.kd, .int .i64 b.it, .string b.nm, .slice A' b.ts.length c'] 69)) = V := ⟨_, rfl⟩
  have va : ∀ j, V.cell? ⟨w.heap.size, j, none⟩ = (#[.int .i64 a.kd, .int .i64 a.it, .string a.nm, .slice A a.ts.length c] : Array Value)[j]? := fun j => by rw [← hV]; exact cell_of_row _ _ j _ _ _ (heap_alloc2_old w _ _)
  have vb : ∀ j, V.cell? ⟨w.heap.size + 1, j, none⟩ = (#[.int .i64 b.kd, .int .i64 b.it, .string b.nm, .slice A' b.ts.length c'] : Array Value)[j]? := fun j => by rw [← hV]; exact cell_of_row _ _ j _ _ _ (heap_alloc2_new w _ _)
  have hS : Boxes a b A A' c c' w V := ⟨by rw [← hV]; exact hbox _ _, by rw [← hV]; simp, va 0, va 1, va 2, va 3, vb 0, vb 1, vb 2, vb 3⟩
  rw [hV]
  clear hV va vb hbox
  have ⟨hb, hs, a0, a1, a2, a3, b0, b1, b2, b3⟩ := hS
  have hS1 : Boxes a b A A' c c' w V.drew := hS.next (Below.refl _ _).drew
  go_cut [5] from 6 to 10 (fun s wx => s = .int .i64 (cmpI (rk a.kd) (rk b.kd)) ∧ Boxes a b A A' c c' w wx)
  case first =>
    go_region_with (first
      | (go_at_call 62; refine (Hk.out _ _ _ _ _ _ _ ?_).mono ?_; with_reducible assumption; rintro e w' ⟨rfl, hS'⟩; have ⟨hb, hs, a0, a1, a2, a3, b0, b1, b2, b3⟩ := hS')
      | (go_at_call 56; refine (rI_any _ _ _).mono ?_; rintro e w' ⟨rfl, rfl⟩))
    all_goals (go_wp2_with fail; go_meet)
    all_goals exact ⟨rfl, by with_reducible assumption⟩
  case rest =>
    obtain ⟨rfl, hX⟩ := hcut
    clear hS1 hS a0 a1 a2 a3 b0 b1 b2 b3 hb hs
    have ⟨hb, hs, a0, a1, a2, a3, b0, b1, b2, b3⟩ := hX
    have hr := rk_range a.kd
    by_cases h0 : cmpI (rk a.kd) (rk b.kd) = 0
    · have h1 : (cmpI (rk a.kd) (rk b.kd) != 0) = false := by simp [h0]
      have Heq2 := Heq.out
      rw [if_neg (by simp [h0])] at Heq2
      clear h0
      rcases hr with g | g | g | g
      · rw [if_pos (.inl g)] at Heq2
        have Heq3 := Lib.hid Heq2
        have r0 : (rk a.kd == 0) = true := by simp [g]
        have r1 : (rk a.kd == 1) = false := by simp [g]
        have r2 : (rk a.kd == 2) = false := by simp [g]
        clear Heq2 Heq g
        go_wp2_with (first | (go_at_call 62; refine (Hk.out _ _ _ _ _ _ _ hX).mono ?_; rintro e w1 ⟨rfl, hS'⟩; have ⟨_, _, e0, e1, e2, e3, f0, f1, f2, f3⟩ := hS') | (go_at_call 56; refine (rI_any _ _ _).mono ?_; rintro e w' ⟨rfl, rfl⟩))
        go_ret
        exact ⟨ret_int Heq3.out.symm, by with_reducible exact hS'.below⟩
      · rw [if_pos (.inr g)] at Heq2
        have Heq3 := Lib.hid Heq2
        have r0 : (rk a.kd == 0) = false := by simp [g]
        have r1 : (rk a.kd == 1) = true := by simp [g]
        have r2 : (rk a.kd == 2) = false := by simp [g]
        clear Heq2 Heq g
        go_wp2_with (first | (go_at_call 62; refine (Hk.out _ _ _ _ _ _ _ hX).mono ?_; rintro e w1 ⟨rfl, hS'⟩; have ⟨_, _, e0, e1, e2, e3, f0, f1, f2, f3⟩ := hS') | (go_at_call 56; refine (rI_any _ _ _).mono ?_; rintro e w' ⟨rfl, rfl⟩))
        go_ret
        exact ⟨ret_int Heq3.out.symm, by with_reducible exact hS'.below⟩
      · rw [if_neg (by omega), if_pos g] at Heq2
        have r0 : (rk a.kd == 0) = false := by simp [g]
        have r1 : (rk a.kd == 1) = false := by simp [g]
        have r2 : (rk a.kd == 2) = true := by simp [g]
        by_cases k1 : cmpI a.ts.length b.ts.length = 0
        · have k1' : (cmpI a.ts.length b.ts.length == 0) = true := by simp [k1]
          rw [if_neg (by simp [k1])] at Heq2
          have hle : a.ts.length = b.ts.length := by have := cmpI_zero.1 k1; omega
          by_cases k2 : cmpS a.nm b.nm = 0
          · have k2' : (cmpS a.nm b.nm == 0) = true := by simp [k2]
            rw [if_neg (by simp [k2])] at Heq2
            have Heq3 := Lib.hid Heq2
            have hcall := Lib.hid (fun W (hb : Below w.heap.size w W) => Hih.out a.ts b.ts A A' c c' W (by omega) hle (HA.out.below hb) (HA'.out.below hb))
            clear Heq2 Heq g k1 k2 hle
            go_wp2_with (first | (go_at_call 62; refine (Hk.out _ _ _ _ _ _ _ hX).mono ?_; rintro e w1 ⟨rfl, hS'⟩; have ⟨_, _, e0, e1, e2, e3, f0, f1, f2, f3⟩ := hS') | (go_at_call 56; refine (rI_any _ _ _).mono ?_; rintro e w' ⟨rfl, rfl⟩) | (go_at_call 55; refine (rS_any _ _ _).mono ?_; rintro e w' ⟨rfl, rfl⟩) | (go_at_call 57; refine (hcall.out _ hS'.below).mono ?_; rintro e w2 ⟨rfl, hb2⟩))
            go_ret
            exact ⟨ret_int Heq3.out.symm, hS'.below.trans (hb2.mono hS'.below.size)⟩
          · have k2' : (cmpS a.nm b.nm == 0) = false := by simp [k2]
            rw [if_pos k2] at Heq2
            have Heq3 := Lib.hid Heq2
            clear Heq2 Heq g k1 k2 hle
            go_wp2_with (first | (go_at_call 62; refine (Hk.out _ _ _ _ _ _ _ hX).mono ?_; rintro e w1 ⟨rfl, hS'⟩; have ⟨_, _, e0, e1, e2, e3, f0, f1, f2, f3⟩ := hS') | (go_at_call 56; refine (rI_any _ _ _).mono ?_; rintro e w' ⟨rfl, rfl⟩) | (go_at_call 55; refine (rS_any _ _ _).mono ?_; rintro e w' ⟨rfl, rfl⟩))
            go_ret
            exact ⟨ret_int Heq3.out.symm, by with_reducible exact hS'.below⟩
        · have k1' : (cmpI a.ts.length b.ts.length == 0) = false := by simp [k1]
          rw [if_pos k1] at Heq2
          have Heq3 := Lib.hid Heq2
          clear Heq2 Heq g k1
          go_wp2_with (first | (go_at_call 62; refine (Hk.out _ _ _ _ _ _ _ hX).mono ?_; rintro e w1 ⟨rfl, hS'⟩; have ⟨_, _, e0, e1, e2, e3, f0, f1, f2, f3⟩ := hS') | (go_at_call 56; refine (rI_any _ _ _).mono ?_; rintro e w' ⟨rfl, rfl⟩) | (go_at_call 55; refine (rS_any _ _ _).mono ?_; rintro e w' ⟨rfl, rfl⟩))
          go_ret
          exact ⟨ret_int Heq3.out.symm, by with_reducible exact hS'.below⟩
      · rw [if_neg (by omega), if_neg (by omega)] at Heq2
        have r0 : (rk a.kd == 0) = false := by simp [g]
        have r1 : (rk a.kd == 1) = false := by simp [g]
        have r2 : (rk a.kd == 2) = false := by simp [g]
        by_cases k1 : cmpI a.kd b.kd = 0
        · have k1' : (cmpI a.kd b.kd == 0) = true := by simp [k1]
          by_cases k2 : cmpI a.it b.it = 0
          · have k2' : (cmpI a.it b.it == 0) = true := by simp [k2]
            have Heq3 := Lib.hid (Heq2.trans (show _ = cmpS a.nm b.nm by simp [orI, k1, k2]))
            clear Heq2 Heq g k1 k2
            go_wp2_with (first | (go_at_call 62; refine (Hk.out _ _ _ _ _ _ _ hX).mono ?_; rintro e w1 ⟨rfl, hS'⟩; have ⟨_, _, e0, e1, e2, e3, f0, f1, f2, f3⟩ := hS') | (go_at_call 56; refine (rI_any _ _ _).mono ?_; rintro e w' ⟨rfl, rfl⟩) | (go_at_call 55; refine (rS_any _ _ _).mono ?_; rintro e w' ⟨rfl, rfl⟩))
            go_ret
            exact ⟨ret_int Heq3.out.symm, by with_reducible exact hS'.below⟩
          · have k2' : (cmpI a.it b.it == 0) = false := by simp [k2]
            have Heq3 := Lib.hid (Heq2.trans (show _ = cmpI a.it b.it by simp [orI, k1, k2]))
            clear Heq2 Heq g k1 k2
            go_wp2_with (first | (go_at_call 62; refine (Hk.out _ _ _ _ _ _ _ hX).mono ?_; rintro e w1 ⟨rfl, hS'⟩; have ⟨_, _, e0, e1, e2, e3, f0, f1, f2, f3⟩ := hS') | (go_at_call 56; refine (rI_any _ _ _).mono ?_; rintro e w' ⟨rfl, rfl⟩) | (go_at_call 55; refine (rS_any _ _ _).mono ?_; rintro e w' ⟨rfl, rfl⟩))
            go_ret
            exact ⟨ret_int Heq3.out.symm, by with_reducible exact hS'.below⟩
        · have k1' : (cmpI a.kd b.kd == 0) = false := by simp [k1]
          have Heq3 := Lib.hid (Heq2.trans (show _ = cmpI a.kd b.kd by simp [orI, k1]))
          clear Heq2 Heq g k1
          go_wp2_with (first | (go_at_call 62; refine (Hk.out _ _ _ _ _ _ _ hX).mono ?_; rintro e w1 ⟨rfl, hS'⟩; have ⟨_, _, e0, e1, e2, e3, f0, f1, f2, f3⟩ := hS') | (go_at_call 56; refine (rI_any _ _ _).mono ?_; rintro e w' ⟨rfl, rfl⟩) | (go_at_call 55; refine (rS_any _ _ _).mono ?_; rintro e w' ⟨rfl, rfl⟩))
          go_ret
          exact ⟨ret_int Heq3.out.symm, by with_reducible exact hS'.below⟩
    · have h1 : (cmpI (rk a.kd) (rk b.kd) != 0) = true := by simp [h0]
      have Heq2 := Heq.out
      rw [if_pos h0] at Heq2
      have Heq3 := Lib.hid Heq2
      clear h0 Heq2 Heq hr
      go_wp2
      go_ret
      exact ⟨ret_int Heq3.out.symm, hb⟩
end Go.Proofs.Ytahhaiomdjlckaa
