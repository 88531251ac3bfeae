/-
  The walk of the examples that each statement of the layer asks.
-/
import Derived.Test.YtahhaiomdjlckaaW25
import Derived.Deep.RegionWith
import Derived.Deep.CutRange
import Derived.Outline
namespace Go.Proofs.Ytahhaiomdjlckaa
set_option linter.unusedVariables false
set_option linter.unusedSimpArgs false
open Go.RowKit

theorem zd_of {V W3 : World} (h : Below (V.alloc (.cells #[.string ⟨#[108, 101, 113]⟩, .int .i64 2] 29)).drew.heap.size (V.alloc (.cells #[.string ⟨#[108, 101, 113]⟩, .int .i64 2] 29)).drew W3) : W3.heap[V.heap.size]? = some (.cells #[.string ⟨#[108, 101, 113]⟩, .int .i64 2] 29 (0, 0)) := (h.block _ (by simp)).trans (heap_alloc_new V _)
theorem leq_sl {W : World} {b : Nat} (h : W.heap[b]? = some (.cells #[.string ⟨#[108, 101, 113]⟩, .int .i64 2] 29 (0, 0))) : SlAt DcAt 2 W (some ⟨b, 0, none⟩) [leqD] := dc_sl (d := leqD) h (by show 3 ≤ _; unfold maxLen; omega) (by unfold I64 leqD; simp)
set_option maxRecDepth 100000 in
set_option maxHeartbeats 4000000 in
theorem live_any (w : World) : Calls Try.prog 11 #[] w fun e w' => e = .returned (.bool true) ∧ Below w.heap.size w w' := by
  have hbd : Below w.heap.size w (w.alloc (.cells #[.string ⟨#[108, 101, 113]⟩, .int .i64 2] 29)) := (Below.refl _ _).alloc (Nat.le_refl _) _
  have HD := Lib.hid (heap_alloc_new w (.cells #[.string ⟨#[108, 101, 113]⟩, .int .i64 2] 29))
  go_enter Try.func11, Try.ntmps11
  go_wp2_with fail
  refine (rule_ex _).mono ?_
  rintro e w1 ⟨A1, n1, rfl, hs1, hb1⟩
  have H1 := Lib.hid (idem_call A1 n1 w1 hs1)
  have D1 := Lib.hid ((hb1.block _ (by simp)).trans HD.out)
  have Hb1 := Lib.hid (hbd.trans (hb1.mono (by simp)))
  clear hs1 hb1 HD
  go_wp2_with fail
  refine H1.out.mono ?_
  rintro e w2 ⟨rfl, hb2⟩
  have D2 := Lib.hid ((hb2.block _ (lt_of_block D1.out)).trans D1.out)
  have Hb2 := Lib.hid (Hb1.out.trans (hb2.mono Hb1.out.size))
  clear hb2 D1 Hb1 H1
  go_wp2_with fail
  obtain ⟨V, hV⟩ : ∃ V, V = w2.alloc (.cells #[.string ⟨#[108, 101, 113]⟩, .int .i64 2] 29) := ⟨_, rfl⟩
  rw [← hV]
  have D3 : V.heap[w.heap.size]? = some (.cells #[.string ⟨#[108, 101, 113]⟩, .int .i64 2] 29 (0, 0)) := by rw [hV]; exact (Below.heap_alloc _ _ _ (lt_of_block D2.out)).trans D2.out
  have E3 : V.heap[w2.heap.size]? = some (.cells #[.string ⟨#[108, 101, 113]⟩, .int .i64 2] 29 (0, 0)) := by rw [hV]; exact heap_alloc_new _ _
  have HbV : Hid (Below w.heap.size w V) := Lib.hid (by rw [hV]; exact Hb2.out.alloc Hb2.out.size _)
  have c0 : V.cell? ⟨w.heap.size, 0, none⟩ = some (.string ⟨#[108, 101, 113]⟩) := by rw [cell_of_row _ _ 0 _ _ _ D3]; rfl
  have c1 : V.cell? ⟨w.heap.size, 1, none⟩ = some (.int .i64 2) := by rw [cell_of_row _ _ 1 _ _ _ D3]; rfl
  have l0 := lt_of_block D3
  have HD3 := Lib.hid D3
  have HE3 := Lib.hid E3
  have hA1 : Below V.heap.size V V.drew := (Below.refl _ _).drew
  have hA2 : Below V.heap.size V (V.alloc (.cells #[.string ⟨#[108, 101, 113]⟩, .int .i64 2] 29)).drew := ((Below.refl _ _).alloc (Nat.le_refl _) _).drew
  clear hV D3 E3 Hb2 D2 hbd
  go_cut [4] from 14 to 19 (fun s wx => ∃ A c, s = .slice A 1 c ∧ SlAt DcAt 2 wx A [leqD] ∧ Below V.heap.size V wx)
  case first =>
    go_region_with (first
      | (go_at_call 33; refine (rule_ex _).mono ?_; rintro e w3 ⟨A3, n3, rfl, hs3, hb3⟩; have Hs3 := Lib.hid hs3; clear hs3; have hV3 : Below V.heap.size V w3 := (by first | (with_reducible exact hA2.trans (hb3.mono (by simp))) | exact hA1.trans hb3); have d0 := (hV3.cell (p := ⟨w.heap.size, 0, none⟩) l0).trans c0; have d1 := (hV3.cell (p := ⟨w.heap.size, 1, none⟩) l0).trans c1; have l3 := Nat.lt_of_lt_of_le l0 hV3.size; (first | ((with_reducible have hz := zd_of hb3); have Hz := Lib.hid hz; clear hz) | skip))
      | (go_at_call 13; (first
          | (with_reducible refine (sets_call _ _ _ (leq_sl ((Below.heap_alloc _ _ _ (lt_of_block Hz.out)).trans Hz.out)) (ex_sl (heap_alloc_new _ _) (Hs3.out.below AtAt.stable ((Below.refl _ _).alloc (Nat.le_refl _) _)))).mono ?_)
          | (with_reducible refine (sets_call _ _ _ (leq_sl (heap_alloc2_old _ _ _)) (ex_sl (heap_alloc2_new _ _ _) (Hs3.out.below AtAt.stable (((Below.refl _ _).alloc (Nat.le_refl _) _).alloc (by simp) _)))).mono ?_)
          | (with_reducible refine (sets_call _ _ _ (leq_sl (heap_alloc2_new _ _ _)) (ex_sl (heap_alloc2_old _ _ _) (Hs3.out.below AtAt.stable (((Below.refl _ _).alloc (Nat.le_refl _) _).alloc (by simp) _)))).mono ?_)); rintro e w4 ⟨A4, n4, rfl, hs4, hb4⟩; have Hs4 := Lib.hid hs4; clear hs4))
    all_goals (go_wp2_with fail; go_meet)
    all_goals (first
      | exact ⟨_, _, rfl, Hs4.out, (hV3.alloc hV3.size _).trans (hb4.mono (by have := hV3.size; simp; omega))⟩
      | exact ⟨_, _, rfl, Hs4.out, ((hV3.alloc hV3.size _).alloc (by have := hV3.size; simp; omega) _).trans (hb4.mono (by have := hV3.size; simp; omega))⟩)
  case rest =>
    obtain ⟨A4, n4, rfl, hs4, hVc⟩ := hcut
    obtain ⟨P0, hP0⟩ : ∃ P0, P0 = (wc.alloc (.cells #[.string ⟨#[112]⟩, .slice none 0 0] 52)).alloc (.cells #[.string ⟨#[113]⟩, .slice none 0 0] 52) := ⟨_, rfl⟩
    have HP0 := Lib.hid hP0
    have hcP : Below wc.heap.size wc P0 := by rw [hP0]; exact ((Below.refl _ _).alloc (Nat.le_refl _) _).alloc (by simp) _
    have p1 : P0.heap[wc.heap.size]? = some (.cells #[.string ⟨#[112]⟩, .slice none 0 0] 52 (0, 0)) := by rw [hP0]; exact heap_alloc2_old _ _ _
    have p2 : P0.heap[wc.heap.size + 1]? = some (.cells #[.string ⟨#[113]⟩, .slice none 0 0] 52 (0, 0)) := by rw [hP0]; exact heap_alloc2_new _ _ _
    have HP1 := Lib.hid p1
    have HP2 := Lib.hid p2
    have HcP := Lib.hid hcP
    have Hs4 := Lib.hid hs4
    have HVc := Lib.hid hVc
    clear hP0 hcP p1 p2 hs4 hVc c0 c1 hA1 hA2
    go_wp2_with fail
    have hIt : Below wc.heap.size wc (P0.alloc (.cells #[.int .i64 1, .string ⟨#[112]⟩, .slice none 0 0, .int .i64 4, .string ⟨#[113]⟩, .slice none 0 0, .int .i64 6, .string ⟨#[112]⟩, .slice none 0 0] 54)) := HcP.out.alloc HcP.out.size _
    rw [HP0.out] at hIt
    refine (twice_call _ _ (items_sl (by simpa using heap_alloc_new ((wc.alloc (.cells #[.string ⟨#[112]⟩, .slice none 0 0] 52)).alloc (.cells #[.string ⟨#[113]⟩, .slice none 0 0] 52)) (.cells #[.int .i64 1, .string ⟨#[112]⟩, .slice none 0 0, .int .i64 4, .string ⟨#[113]⟩, .slice none 0 0, .int .i64 6, .string ⟨#[112]⟩, .slice none 0 0] 54)))).mono ?_
    rintro e w5 ⟨A5, n5, rfl, hs5, hb5⟩
    have hc5 : Below wc.heap.size wc w5 := hIt.trans (hb5.mono (by simp; omega))
    have hP5 : ∀ {b : Nat} {o : Obj}, P0.heap[b]? = some o → w5.heap[b]? = some o := by
      intro b o h
      have hl := lt_of_block h
      rw [HP0.out] at h hl
      refine (hb5.block _ (by simp at hl ⊢; omega)).trans ((Below.heap_alloc _ _ _ hl).trans h)
    have g1 := hP5 HP1.out
    have g2 := hP5 HP2.out
    have g3 := (hc5.block _ (lt_of_block ((HVc.out.block _ l0).trans HD3.out))).trans ((HVc.out.block _ l0).trans HD3.out)
    have g4 := (hc5.block _ (lt_of_block ((HVc.out.block _ (lt_of_block HE3.out)).trans HE3.out))).trans ((HVc.out.block _ (lt_of_block HE3.out)).trans HE3.out)
    have a1 : w5.cell? ⟨wc.heap.size, 0, none⟩ = some (.string ⟨#[112]⟩) := by rw [cell_of_row _ _ 0 _ _ _ g1]; rfl
    have a2 : w5.cell? ⟨wc.heap.size, 1, none⟩ = some (.slice none 0 0) := by rw [cell_of_row _ _ 1 _ _ _ g1]; rfl
    have a3 : w5.cell? ⟨wc.heap.size + 1, 0, none⟩ = some (.string ⟨#[113]⟩) := by rw [cell_of_row _ _ 0 _ _ _ g2]; rfl
    have a4 : w5.cell? ⟨wc.heap.size + 1, 1, none⟩ = some (.slice none 0 0) := by rw [cell_of_row _ _ 1 _ _ _ g2]; rfl
    have a5 : w5.cell? ⟨w.heap.size, 0, none⟩ = some (.string ⟨#[108, 101, 113]⟩) := by rw [cell_of_row _ _ 0 _ _ _ g3]; rfl
    have a6 : w5.cell? ⟨w.heap.size, 1, none⟩ = some (.int .i64 2) := by rw [cell_of_row _ _ 1 _ _ _ g3]; rfl
    have a7 : w5.cell? ⟨w2.heap.size, 0, none⟩ = some (.string ⟨#[108, 101, 113]⟩) := by rw [cell_of_row _ _ 0 _ _ _ g4]; rfl
    have a8 : w5.cell? ⟨w2.heap.size, 1, none⟩ = some (.int .i64 2) := by rw [cell_of_row _ _ 1 _ _ _ g4]; rfl
    have l1 := lt_of_block g1
    have l2 := lt_of_block g2
    have l3 := lt_of_block g3
    have l4 := lt_of_block g4
    have hb4 := Lib.hid (Hs4.out.below DcAt.stable hc5)
    have Hs5 := Lib.hid hs5
    have HbF : Hid (Below w.heap.size w w5) := Lib.hid ((HbV.out.trans (HVc.out.mono HbV.out.size)).trans (hc5.mono (Nat.le_trans HbV.out.size HVc.out.size)))
    clear g1 g2 g3 g4 hP5 hc5 hb5 hIt hs5 HP0 HcP Hs4 HVc HP1 HP2
    go_wp2_with fail
    have hbA : ∀ o, Below w5.heap.size w5 (w5.alloc o) := fun o => (Below.refl _ _).alloc (Nat.le_refl _) _
    refine (sameDcs_any [leqD] A4 (some ⟨w5.heap.size, 0, none⟩) n4 1 _ (hb4.out.below DcAt.stable (hbA _)) (leq_sl (heap_alloc_new _ _))).mono ?_
    rintro e w6 ⟨rfl, n6, rfl⟩
    have hb6 : Below w5.heap.size w5 ((w5.alloc (.cells #[.string ⟨#[108, 101, 113]⟩, .int .i64 2] 29)).drewN n6) := below_drewN (hbA _) _
    obtain ⟨w6, hw6⟩ : ∃ w6, w6 = (w5.alloc (.cells #[.string ⟨#[108, 101, 113]⟩, .int .i64 2] 29)).drewN n6 := ⟨_, rfl⟩
    rw [← hw6] at hb6 ⊢
    clear hw6 hbA
    have Hs6 := Lib.hid (Hs5.out.below IntAt.stable hb6)
    have b1 := (hb6.cell (p := ⟨wc.heap.size, 0, none⟩) l1).trans a1
    have b2 := (hb6.cell (p := ⟨wc.heap.size, 1, none⟩) l1).trans a2
    have b3 := (hb6.cell (p := ⟨wc.heap.size + 1, 0, none⟩) l2).trans a3
    have b4 := (hb6.cell (p := ⟨wc.heap.size + 1, 1, none⟩) l2).trans a4
    have m1 := Nat.lt_of_lt_of_le l1 hb6.size
    have m2 := Nat.lt_of_lt_of_le l2 hb6.size
    have Hb6 := Lib.hid hb6
    clear a1 a2 a3 a4 a5 a6 a7 a8 hb6
    go_wp2_with fail
    have hbA : ∀ o, Below w6.heap.size w6 (w6.alloc o) := fun o => (Below.refl _ _).alloc (Nat.le_refl _) _
    refine (sameInts_any [6] A5 (some ⟨w6.heap.size, 0, none⟩) n5 1 _ (Hs6.out.below IntAt.stable (hbA _)) (six_sl (heap_alloc_new _ _))).mono ?_
    rintro e w7 ⟨rfl, n7, rfl⟩
    have hb7 : Below w6.heap.size w6 ((w6.alloc (.cells #[.int .i64 6] 3)).drewN n7) := below_drewN (hbA _) _
    obtain ⟨w7, hw7⟩ : ∃ w7, w7 = (w6.alloc (.cells #[.int .i64 6] 3)).drewN n7 := ⟨_, rfl⟩
    rw [← hw7] at hb7 ⊢
    clear hw7 hbA
    have d1 := (hb7.cell (p := ⟨wc.heap.size, 0, none⟩) m1).trans b1
    have d2 := (hb7.cell (p := ⟨wc.heap.size, 1, none⟩) m1).trans b2
    have d3 := (hb7.cell (p := ⟨wc.heap.size + 1, 0, none⟩) m2).trans b3
    have d4 := (hb7.cell (p := ⟨wc.heap.size + 1, 1, none⟩) m2).trans b4
    have k1 := Nat.lt_of_lt_of_le m1 hb7.size
    have k2 := Nat.lt_of_lt_of_le m2 hb7.size
    have Hb7 := Lib.hid hb7
    clear b1 b2 b3 b4 hb7
    go_wp2_with fail
    refine (merge_call _ _ (ats_sl (heap_alloc_new _ _))).mono ?_
    rintro e w8 ⟨A8, n8, rfl, hb8⟩
    have Hb8 := Lib.hid hb8
    clear hb8
    go_wp2
    go_ret
    have q7 := HbF.out.trans ((Hb6.out.trans (Hb7.out.mono Hb6.out.size)).mono HbF.out.size)
    exact ⟨rfl, (q7.alloc q7.size _).trans (Hb8.out.mono (by have := q7.size; simp; omega))⟩
end Go.Proofs.Ytahhaiomdjlckaa
