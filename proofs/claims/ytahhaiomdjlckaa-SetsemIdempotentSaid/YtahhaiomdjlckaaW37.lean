/-
  The walk of GreatRules once more: what is not great has few nodes.
-/
import Derived.Test.YtahhaiomdjlckaaW36
import Derived.Outline
namespace Go.Proofs.Ytahhaiomdjlckaa
set_option linter.unusedVariables false
set_option linter.unusedSimpArgs false
open Go.RowKit

/-- a rule of few nodes. -/
structure SmRl (most : Int) (x : Rl) : Prop where
  kp : (x.kp.length : Int) ≤ most ∧ (szA x.kp : Int) ≤ most
  rm : (x.rm.length : Int) ≤ most ∧ (szA x.rm : Int) ≤ most
  gd : (x.gd.length : Int) ≤ most ∧ (szG x.gd : Int) ≤ most
  bd : (x.bd.length : Int) ≤ most ∧ (szG x.bd : Int) ≤ most

set_option maxRecDepth 100000 in
set_option maxHeartbeats 4000000 in
theorem greatRulesSz_any (l : List Rl) (A : Option Addr) (c : Nat) (most : Int) (w : World) (hA : SlAt RlAt 6 w A l) (h0 : 0 ≤ most) (h1 : most ≤ 1000000) :
    Calls Try.prog 6 #[.slice A l.length c, .int .i64 most] w fun e w' => (∃ r, e = .returned (.bool r) ∧ (r = false → ∀ x ∈ l, SmRl most x)) ∧ Below w.heap.size w w' := by
  have hl := hA.1
  unfold maxLen at hl
  have HA := Lib.hid hA
  clear hA
  go_enter Try.func6, Try.ntmps6
  go_wp2
  go_loopw [5] (fun i wr => ∃ k : Nat, k ≤ l.length ∧ i = .int .i64 k ∧ Hid (∀ x ∈ l.take k, SmRl most x) ∧ Below w.heap.size w wr) (fun i _ => l.length - (intOf i).toNat)
  case atStart => exact ⟨0, Nat.zero_le _, rfl, Lib.hid (by simp), Below.refl _ _⟩
  case round =>
    obtain ⟨k, hk, rfl, Hall, hbel⟩ := hrel
    by_cases hlt : k < l.length
    · obtain ⟨x, hx⟩ : ∃ x, l[k]? = some x := ⟨_, List.getElem?_eq_getElem hlt⟩
      obtain ⟨b, off, rfl, hblt, ⟨p0, hns⟩, ⟨kA, kc, p1, s1⟩, ⟨rA, rc, p2, s2⟩, ⟨gA, gc, p3, s3⟩, ⟨bA, bc, p4, s4⟩, p5, _⟩ := (SlAt.below RlAt.stable HA.out hbel).2 k x hx
      have hk1 := s1.1
      have hk2 := s2.1
      unfold maxLen at hns hk1 hk2
      have Hx := Lib.hid hx
      have S1 := Lib.hid s1
      have S2 := Lib.hid s2
      have S3 := Lib.hid s3
      have S4 := Lib.hid s4
      have Hbel := Lib.hid hbel
      have hbox : Below wr.heap.size wr (wr.alloc (.cells #[.string x.nm, .slice kA x.kp.length kc, .slice rA x.rm.length rc, .slice gA x.gd.length gc, .slice bA x.bd.length bc, .int .i64 x.vs] 25)) := (Below.refl _ _).alloc (Nat.le_refl _) _
      clear hx s1 s2 s3 s4 hbel
      cases t20 : decide (most < (l.length : Int)) with
      | true =>
        go_wp2
        go_ret
        exact ⟨⟨_, rfl, fun h => by cases h⟩, Hbel.out.trans (hbox.mono Hbel.out.size)⟩
      | false =>
        obtain ⟨K, hK⟩ : ∃ K : Int, (x.kp.length : Int) = K := ⟨_, rfl⟩
        obtain ⟨R, hR⟩ : ∃ R : Int, (x.rm.length : Int) = R := ⟨_, rfl⟩
        obtain ⟨N, hN⟩ : ∃ N : Int, (x.nm.size : Int) = N := ⟨_, rfl⟩
        have HK := Lib.hid hK
        have HR := Lib.hid hR
        clear hk1 hk2 hns
        have HB0 := Lib.hid (Hbel.out.trans (hbox.mono Hbel.out.size))
        have Hbx := Lib.hid (heap_alloc_new wr (.cells #[.string x.nm, .slice kA x.kp.length kc, .slice rA x.rm.length rc, .slice gA x.gd.length gc, .slice bA x.bd.length bc, .int .i64 x.vs] 25))
        have Hbox := Lib.hid hbox
        clear hbox
        go_wp2_with fail
        · clear hK hR hN
          refine (greatAtomsSz_any x.kp kA kc most _ (S1.out.below AtAt.stable Hbox.out) h1 (by omega)).mono ?_
          rintro e w1 ⟨⟨r1, rfl, hr1⟩, hb1⟩
          have HB1 := Lib.hid (HB0.out.trans (hb1.mono HB0.out.size))
          have hbx1 := (hb1.block _ (lt_of_block Hbx.out)).trans Hbx.out
          have HX1 := Lib.hid (Hbox.out.trans (hb1.mono Hbox.out.size))
          have c2 : w1.cell? ⟨wr.heap.size, 2, none⟩ = some (.slice rA x.rm.length rc) := by rw [cell_of_row _ _ 2 _ _ _ hbx1]; rfl
          have l1 := lt_of_block hbx1
          have Hbx1 := Lib.hid hbx1
          clear hb1 hbx1
          cases r1 with
          | true =>
            go_wp2
            go_ret
            exact ⟨⟨_, rfl, fun h => by cases h⟩, HB1.out⟩
          | false =>
            have Hr1 := Lib.hid (hr1 rfl)
            clear hr1
            go_wp2_with fail
            refine (greatAtomsSz_any x.rm rA rc most _ (S2.out.below AtAt.stable HX1.out) h1 (by omega)).mono ?_
            rintro e w2 ⟨⟨r2, rfl, hr2⟩, hb2⟩
            have HB2 := Lib.hid (HB1.out.trans (hb2.mono HB1.out.size))
            have hbx2 := (hb2.block _ (lt_of_block Hbx1.out)).trans Hbx1.out
            have HX2 := Lib.hid (HX1.out.trans (hb2.mono HX1.out.size))
            have c3 : w2.cell? ⟨wr.heap.size, 3, none⟩ = some (.slice gA x.gd.length gc) := by rw [cell_of_row _ _ 3 _ _ _ hbx2]; rfl
            have l2 := lt_of_block hbx2
            have Hbx2 := Lib.hid hbx2
            clear hb2 hbx2
            cases r2 with
            | true =>
              go_wp2
              go_ret
              exact ⟨⟨_, rfl, fun h => by cases h⟩, HB2.out⟩
            | false =>
              have Hr2 := Lib.hid (hr2 rfl)
              clear hr2
              go_wp2_with fail
              refine (greatGoalsSz_any x.gd gA gc most _ (S3.out.below GlAt.stable HX2.out) h1 (by omega)).mono ?_
              rintro e w3 ⟨⟨r3, rfl, hr3⟩, hb3⟩
              have HB3 := Lib.hid (HB2.out.trans (hb3.mono HB2.out.size))
              have hbx3 := (hb3.block _ (lt_of_block Hbx2.out)).trans Hbx2.out
              have HX3 := Lib.hid (HX2.out.trans (hb3.mono HX2.out.size))
              have c4 : w3.cell? ⟨wr.heap.size, 4, none⟩ = some (.slice bA x.bd.length bc) := by rw [cell_of_row _ _ 4 _ _ _ hbx3]; rfl
              have l3 := lt_of_block hbx3
              clear hb3 hbx3
              cases r3 with
              | true =>
                go_wp2
                go_ret
                exact ⟨⟨_, rfl, fun h => by cases h⟩, HB3.out⟩
              | false =>
                have Hr3 := Lib.hid (hr3 rfl)
                clear hr3
                go_wp2_with fail
                refine (greatGoalsSz_any x.bd bA bc most _ (S4.out.below GlAt.stable HX3.out) h1 (by omega)).mono ?_
                rintro e w4 ⟨⟨r4, rfl, hr4⟩, hb4⟩
                have HB4 := Lib.hid (HB3.out.trans (hb4.mono HB3.out.size))
                clear hb4
                cases r4 with
                | true =>
                  go_wp2
                  go_ret
                  exact ⟨⟨_, rfl, fun h => by cases h⟩, HB4.out⟩
                | false =>
                  have Hr4 := Lib.hid (hr4 rfl)
                  clear hr4
                  have Hnext := Lib.hid (show ∀ y ∈ l.take (k + 1), SmRl most y from by
                    rw [List.take_add_one, Hx.out]
                    intro y hy
                    rcases List.mem_append.1 hy with hy | hy
                    · exact Hall.out y hy
                    · simp only [Option.toList_some, List.mem_singleton] at hy
                      subst hy; exact ⟨Hr1.out, Hr2.out, Hr3.out, Hr4.out⟩)
                  go_wp2
                  go_roundw
                  case rel => exact ⟨k + 1, by omega, by go_num, Hnext, HB4.out⟩
                  case measure => simp [intOf]; omega
        · go_ret
          exact ⟨.inr rfl, HB0.out⟩
    · go_wp2
      go_ret
      obtain rfl : k = l.length := by omega
      exact ⟨⟨_, rfl, fun _ => by have := Hall.out; rwa [List.take_length] at this⟩, hbel⟩
end Go.Proofs.Ytahhaiomdjlckaa
