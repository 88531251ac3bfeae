/-
  The walk of ShiftRule, in the reference of layer 9.
-/
import Derived.Test.YtahhaiomdjlckaaW45
namespace Go.Proofs.Ytahhaiomdjlckaa
set_option linter.unusedVariables false
set_option linter.unusedSimpArgs false
open Go.RowKit
attribute [local go_sem ↓] Go.wp_at_zero Go.wp_at_succ

set_option maxRecDepth 100000 in
set_option maxHeartbeats 4000000 in
theorem shRule_any (r : Rl) (kA rA gA bA : Option Addr) (kc rc gc bc : Nat) (k : Int) (w : World) (hk : SlAt AtAt 2 w kA r.kp) (hr : SlAt AtAt 2 w rA r.rm) (hg : SlAt GlAt 3 w gA r.gd) (hbd : SlAt GlAt 3 w bA r.bd)
    (hsk : Sm k) (h1 : szA r.kp ≤ 100000) (h2 : szA r.rm ≤ 100000) (h3 : szG r.gd ≤ 100000) (h4 : szG r.bd ≤ 100000) :
    Calls Try.prog 9 #[rlv r kA rA gA bA kc rc gc bc, .int .i64 k] w fun e w' => (∃ A1 A2 A3 A4 c1 c2 c3 c4, e = .returned (rlv (shRl k r) A1 A2 A3 A4 c1 c2 c3 c4) ∧ SlAt AtAt 2 w' A1 (shRl k r).kp ∧ SlAt AtAt 2 w' A2 (shRl k r).rm ∧ SlAt GlAt 3 w' A3 (shRl k r).gd ∧ SlAt GlAt 3 w' A4 (shRl k r).bd) ∧ Below w.heap.size w w' := by
  have hw0 : Below w.heap.size w ((w.alloc (.cells #[.string r.nm, .slice kA r.kp.length kc, .slice rA r.rm.length rc, .slice gA r.gd.length gc, .slice bA r.bd.length bc, .int .i64 r.vs] 25)).alloc (.cells #[.string ⟨#[]⟩, .slice none 0 0, .slice none 0 0, .slice none 0 0, .slice none 0 0, .int .i64 0] 25)).drew := (((Below.refl _ _).alloc (Nat.le_refl _) _).alloc (by simp) _).drew
  have hc0 : Below (w.heap.size + 2) ((w.alloc (.cells #[.string r.nm, .slice kA r.kp.length kc, .slice rA r.rm.length rc, .slice gA r.gd.length gc, .slice bA r.bd.length bc, .int .i64 r.vs] 25)).alloc (.cells #[.string ⟨#[]⟩, .slice none 0 0, .slice none 0 0, .slice none 0 0, .slice none 0 0, .int .i64 0] 25)) ((w.alloc (.cells #[.string r.nm, .slice kA r.kp.length kc, .slice rA r.rm.length rc, .slice gA r.gd.length gc, .slice bA r.bd.length bc, .int .i64 r.vs] 25)).alloc (.cells #[.string ⟨#[]⟩, .slice none 0 0, .slice none 0 0, .slice none 0 0, .slice none 0 0, .int .i64 0] 25)).drew := (Below.refl _ _).drew
  have b0 : ((w.alloc (.cells #[.string r.nm, .slice kA r.kp.length kc, .slice rA r.rm.length rc, .slice gA r.gd.length gc, .slice bA r.bd.length bc, .int .i64 r.vs] 25)).alloc (.cells #[.string ⟨#[]⟩, .slice none 0 0, .slice none 0 0, .slice none 0 0, .slice none 0 0, .int .i64 0] 25)).heap[w.heap.size]? = some (.cells #[.string r.nm, .slice kA r.kp.length kc, .slice rA r.rm.length rc, .slice gA r.gd.length gc, .slice bA r.bd.length bc, .int .i64 r.vs] 25 (0, 0)) := heap_alloc2_old _ _ _
  have r0 : ((w.alloc (.cells #[.string r.nm, .slice kA r.kp.length kc, .slice rA r.rm.length rc, .slice gA r.gd.length gc, .slice bA r.bd.length bc, .int .i64 r.vs] 25)).alloc (.cells #[.string ⟨#[]⟩, .slice none 0 0, .slice none 0 0, .slice none 0 0, .slice none 0 0, .int .i64 0] 25)).heap[w.heap.size + 1]? = some (.cells #[.string ⟨#[]⟩, .slice none 0 0, .slice none 0 0, .slice none 0 0, .slice none 0 0, .int .i64 0] 25 (0, 0)) := heap_alloc2_new _ _ _
  have hext : ∀ W, Below w.heap.size w W → Ext w (hides W [w.heap.size + 1]) := fun W hW => by
    have h := Ext.step (w := w) (w' := W) (L := []) (L' := [w.heap.size + 1]) hW.size (fun b hb _ => hW.block b hb) (fun b hb => .inr (by simp at hb; omega))
    rwa [hides_nil] at h
  have HIkp := Lib.hid (fun W (hW : Below w.heap.size w W) => hk.ext AtAt.ext (hext W hW))
  have HIrm := Lib.hid (fun W (hW : Below w.heap.size w W) => hr.ext AtAt.ext (hext W hW))
  have HIgd := Lib.hid (fun W (hW : Below w.heap.size w W) => hg.ext GlAt.ext (hext W hW))
  have HIbd := Lib.hid (fun W (hW : Below w.heap.size w W) => hbd.ext GlAt.ext (hext W hW))
  have HLL : Hid (∀ W, Below (w.heap.size + 2) ((w.alloc (.cells #[.string r.nm, .slice kA r.kp.length kc, .slice rA r.rm.length rc, .slice gA r.gd.length gc, .slice bA r.bd.length bc, .int .i64 r.vs] 25)).alloc (.cells #[.string ⟨#[]⟩, .slice none 0 0, .slice none 0 0, .slice none 0 0, .slice none 0 0, .int .i64 0] 25)) W → ∀ g ∈ [w.heap.size + 1], g < W.heap.size) := Lib.hid (fun W hW g hg => by
    have := hW.size
    simp at this hg
    omega)
  have HM : Hid (∀ W, Below (w.heap.size + 2) ((w.alloc (.cells #[.string r.nm, .slice kA r.kp.length kc, .slice rA r.rm.length rc, .slice gA r.gd.length gc, .slice bA r.bd.length bc, .int .i64 r.vs] 25)).alloc (.cells #[.string ⟨#[]⟩, .slice none 0 0, .slice none 0 0, .slice none 0 0, .slice none 0 0, .int .i64 0] 25)) W → w.heap.size + 2 ≤ W.heap.size) := Lib.hid (fun W hW => by
    have := hW.size
    simpa using this)
  have HS : Hid (∀ w' : World, Below (w.heap.size + 1) ((w.alloc (.cells #[.string r.nm, .slice kA r.kp.length kc, .slice rA r.rm.length rc, .slice gA r.gd.length gc, .slice bA r.bd.length bc, .int .i64 r.vs] 25)).alloc (.cells #[.string ⟨#[]⟩, .slice none 0 0, .slice none 0 0, .slice none 0 0, .slice none 0 0, .int .i64 0] 25)) w' → (w'.cell? ⟨w.heap.size, 0, none⟩ = some (.string r.nm) ∧ w'.cell? ⟨w.heap.size, 1, none⟩ = some (.slice kA r.kp.length kc) ∧ w'.cell? ⟨w.heap.size, 2, none⟩ = some (.slice rA r.rm.length rc) ∧ w'.cell? ⟨w.heap.size, 3, none⟩ = some (.slice gA r.gd.length gc) ∧ w'.cell? ⟨w.heap.size, 4, none⟩ = some (.slice bA r.bd.length bc) ∧ w'.cell? ⟨w.heap.size, 5, none⟩ = some (.int .i64 r.vs))) := Lib.hid (fun w' hb => by
    have hb2 := (hb.block w.heap.size (by simp)).trans b0
    exact cells_six hb2)
  have HGm : Hid (∀ (w4 : World) (A1 A2 A3 A4 : Option Addr) (c1 c2 c3 c4 : Nat), Below (w.heap.size + 2) ((w.alloc (.cells #[.string r.nm, .slice kA r.kp.length kc, .slice rA r.rm.length rc, .slice gA r.gd.length gc, .slice bA r.bd.length bc, .int .i64 r.vs] 25)).alloc (.cells #[.string ⟨#[]⟩, .slice none 0 0, .slice none 0 0, .slice none 0 0, .slice none 0 0, .int .i64 0] 25)) w4 → Below (w.heap.size + 1) ((w.alloc (.cells #[.string r.nm, .slice kA r.kp.length kc, .slice rA r.rm.length rc, .slice gA r.gd.length gc, .slice bA r.bd.length bc, .int .i64 r.vs] 25)).alloc (.cells #[.string ⟨#[]⟩, .slice none 0 0, .slice none 0 0, .slice none 0 0, .slice none 0 0, .int .i64 0] 25)) ((((((w4.setCell ⟨w.heap.size + 1, 0, none⟩ (.string r.nm)).setCell ⟨w.heap.size + 1, 1, none⟩ (.slice A1 r.kp.length c1)).setCell ⟨w.heap.size + 1, 2, none⟩ (.slice A2 r.rm.length c2)).setCell ⟨w.heap.size + 1, 3, none⟩ (.slice A3 r.gd.length c3)).setCell ⟨w.heap.size + 1, 4, none⟩ (.slice A4 r.bd.length c4)).setCell ⟨w.heap.size + 1, 5, none⟩ (.int .i64 r.vs))) := Lib.hid (fun w4 A1 A2 A3 A4 c1 c2 c3 c4 h => ((((((h.mono (by omega)).setCell (by simp) _).setCell (by simp) _).setCell (by simp) _).setCell (by simp) _).setCell (by simp) _).setCell (by simp) _)
  have HR0 := Lib.hid r0
  have HB0 := Lib.hid hw0
  have HC0 := Lib.hid hc0
  have HK := Lib.hid hsk
  have HZkp := Lib.hid h1
  have HZrm := Lib.hid h2
  have HZgd := Lib.hid h3
  have HZbd := Lib.hid h4
  clear hk hr hg hbd hext hw0 hc0 b0 r0 hsk h1 h2 h3 h4
  unfold rlv
  go_enter Try.func9, Try.ntmps9
  go_wp2_with fail
  go_region_held3 (fun w' => w'.cell? ⟨w.heap.size, 0, none⟩ = some (.string r.nm) ∧ w'.cell? ⟨w.heap.size, 1, none⟩ = some (.slice kA r.kp.length kc) ∧ w'.cell? ⟨w.heap.size, 2, none⟩ = some (.slice rA r.rm.length rc) ∧ w'.cell? ⟨w.heap.size, 3, none⟩ = some (.slice gA r.gd.length gc) ∧ w'.cell? ⟨w.heap.size, 4, none⟩ = some (.slice bA r.bd.length bc) ∧ w'.cell? ⟨w.heap.size, 5, none⟩ = some (.int .i64 r.vs)) (first | (with_reducible exact HS.out _ HG.out) | (with_reducible exact HS.out _ (HC4.out.mono (by omega))) | (with_reducible exact HS.out _ (HC3.out.mono (by omega))) | (with_reducible exact HS.out _ (HC2.out.mono (by omega))) | (with_reducible exact HS.out _ (HC1.out.mono (by omega))) | (with_reducible exact HS.out _ (HC0.out.mono (by omega))) | go_keep) ((first
    | (go_at_call 31; refine (shGoals_any r.bd bA bc k _ [w.heap.size + 1] (HIbd.out _ HB3.out) HK.out HZbd.out (HLL.out _ HC3.out)).mono ?_; rintro e w4 ⟨⟨A4, c4, rfl, hA4⟩, hb4⟩; have HB4 := Lib.hid (HB3.out.trans (hb4.mono HB3.out.size)); have HC4 := Lib.hid (HC3.out.trans (hb4.mono (HM.out _ HC3.out))); have HA4 := Lib.hid hA4; have Hb4 := Lib.hid hb4; have ⟨s0, s1, s2, s3, s4, s5⟩ := HS.out w4 (HC4.out.mono (by omega)); clear hA4 hb4; have hr := (HC4.out.block _ (by simp)).trans HR0.out; have ⟨r0, r1, r2, r3, r4, r5⟩ := cells_six hr; have f0 : w4.frozen? ⟨w.heap.size + 1, 0, none⟩ = false := free_of_row hr; have f1 : w4.frozen? ⟨w.heap.size + 1, 1, none⟩ = false := free_of_row hr; have f2 : w4.frozen? ⟨w.heap.size + 1, 2, none⟩ = false := free_of_row hr; have f3 : w4.frozen? ⟨w.heap.size + 1, 3, none⟩ = false := free_of_row hr; have f4 : w4.frozen? ⟨w.heap.size + 1, 4, none⟩ = false := free_of_row hr; have f5 : w4.frozen? ⟨w.heap.size + 1, 5, none⟩ = false := free_of_row hr; have lr := lt_of_block hr; have Hr := Lib.hid hr; clear hr; have HG := Lib.hid (HGm.out w4 A1 A2 A3 A4 c1 c2 c3 c4 HC4.out))
    | (go_at_call 31; refine (shGoals_any r.gd gA gc k _ [w.heap.size + 1] (HIgd.out _ HB2.out) HK.out HZgd.out (HLL.out _ HC2.out)).mono ?_; rintro e w3 ⟨⟨A3, c3, rfl, hA3⟩, hb3⟩; have HB3 := Lib.hid (HB2.out.trans (hb3.mono HB2.out.size)); have HC3 := Lib.hid (HC2.out.trans (hb3.mono (HM.out _ HC2.out))); have HA3 := Lib.hid hA3; have Hb3 := Lib.hid hb3; have ⟨s0, s1, s2, s3, s4, s5⟩ := HS.out w3 (HC3.out.mono (by omega)); clear hA3 hb3)
    | (go_at_call 30; refine (shAtoms_any r.rm rA rc k _ [w.heap.size + 1] (HIrm.out _ HB1.out) HK.out HZrm.out (HLL.out _ HC1.out)).mono ?_; rintro e w2 ⟨⟨A2, c2, rfl, hA2⟩, hb2⟩; have HB2 := Lib.hid (HB1.out.trans (hb2.mono HB1.out.size)); have HC2 := Lib.hid (HC1.out.trans (hb2.mono (HM.out _ HC1.out))); have HA2 := Lib.hid hA2; have Hb2 := Lib.hid hb2; have ⟨s0, s1, s2, s3, s4, s5⟩ := HS.out w2 (HC2.out.mono (by omega)); clear hA2 hb2)
    | (go_at_call 30; refine (shAtoms_any r.kp kA kc k _ [w.heap.size + 1] (HIkp.out _ HB0.out) HK.out HZkp.out (HLL.out _ HC0.out)).mono ?_; rintro e w1 ⟨⟨A1, c1, rfl, hA1⟩, hb1⟩; have HB1 := Lib.hid (HB0.out.trans (hb1.mono HB0.out.size)); have HC1 := Lib.hid (HC0.out.trans (hb1.mono (HM.out _ HC0.out))); have HA1 := Lib.hid hA1; have Hb1 := Lib.hid hb1; have ⟨s0, s1, s2, s3, s4, s5⟩ := HS.out w1 (HC1.out.mono (by omega)); clear hA1 hb1)
    | fail "no arm"))
  have hF : ((((((w4.setCell ⟨w.heap.size + 1, 0, none⟩ (.string r.nm)).setCell ⟨w.heap.size + 1, 1, none⟩ (.slice A1 r.kp.length c1)).setCell ⟨w.heap.size + 1, 2, none⟩ (.slice A2 r.rm.length c2)).setCell ⟨w.heap.size + 1, 3, none⟩ (.slice A3 r.gd.length c3)).setCell ⟨w.heap.size + 1, 4, none⟩ (.slice A4 r.bd.length c4)).setCell ⟨w.heap.size + 1, 5, none⟩ (.int .i64 r.vs)).heap[w.heap.size + 1]? = some (.cells #[.string r.nm, .slice A1 r.kp.length c1, .slice A2 r.rm.length c2, .slice A3 r.gd.length c3, .slice A4 r.bd.length c4, .int .i64 r.vs] 25 (0, 0)) := (set_block (set_block (set_block (set_block (set_block (set_block Hr.out))))))
  have ⟨g0, g1, g2, g3, g4, g5⟩ := cells_six hF
  have hext : Ext (hides w4 [w.heap.size + 1]) ((((((w4.setCell ⟨w.heap.size + 1, 0, none⟩ (.string r.nm)).setCell ⟨w.heap.size + 1, 1, none⟩ (.slice A1 r.kp.length c1)).setCell ⟨w.heap.size + 1, 2, none⟩ (.slice A2 r.rm.length c2)).setCell ⟨w.heap.size + 1, 3, none⟩ (.slice A3 r.gd.length c3)).setCell ⟨w.heap.size + 1, 4, none⟩ (.slice A4 r.bd.length c4)).setCell ⟨w.heap.size + 1, 5, none⟩ (.int .i64 r.vs)) := by
    have h := Ext.step (w := w4) (w' := ((((((w4.setCell ⟨w.heap.size + 1, 0, none⟩ (.string r.nm)).setCell ⟨w.heap.size + 1, 1, none⟩ (.slice A1 r.kp.length c1)).setCell ⟨w.heap.size + 1, 2, none⟩ (.slice A2 r.rm.length c2)).setCell ⟨w.heap.size + 1, 3, none⟩ (.slice A3 r.gd.length c3)).setCell ⟨w.heap.size + 1, 4, none⟩ (.slice A4 r.bd.length c4)).setCell ⟨w.heap.size + 1, 5, none⟩ (.int .i64 r.vs))) (L := [w.heap.size + 1]) (L' := []) (by simp) (fun b hb hn => by
      have n2 : b ≠ w.heap.size + 1 := fun e => hn (by simp [e])
      iterate 6 rw [Below.heap_setCell _ _ _ _ (by simpa using n2)]) (fun b hb => by simp at hb)
    rwa [hides_nil] at h
  have hfin : Below w.heap.size w ((((((w4.setCell ⟨w.heap.size + 1, 0, none⟩ (.string r.nm)).setCell ⟨w.heap.size + 1, 1, none⟩ (.slice A1 r.kp.length c1)).setCell ⟨w.heap.size + 1, 2, none⟩ (.slice A2 r.rm.length c2)).setCell ⟨w.heap.size + 1, 3, none⟩ (.slice A3 r.gd.length c3)).setCell ⟨w.heap.size + 1, 4, none⟩ (.slice A4 r.bd.length c4)).setCell ⟨w.heap.size + 1, 5, none⟩ (.int .i64 r.vs)) := ((((((HB4.out).setCell (by simp) _).setCell (by simp) _).setCell (by simp) _).setCell (by simp) _).setCell (by simp) _).setCell (by simp) _
  have hE3 := Ext.trans (Ext.below Hb4.out) hext
  have hE2 := Ext.trans (Ext.below Hb3.out) hE3
  have hE1 := Ext.trans (Ext.below Hb2.out) hE2
  have F1 := Lib.hid (HA1.out.ext AtAt.ext hE1)
  have F2 := Lib.hid (HA2.out.ext AtAt.ext hE2)
  have F3 := Lib.hid (HA3.out.ext GlAt.ext hE3)
  have F4 := Lib.hid (HA4.out.ext GlAt.ext hext)
  have HF := Lib.hid hfin
  clear hF hext hE1 hE2 hE3 hfin
  go_wp2
  refine bodyPost_ret (v := .agg #[.string r.nm, .slice A1 r.kp.length c1, .slice A2 r.rm.length c2, .slice A3 r.gd.length c3, .slice A4 r.bd.length c4, .int .i64 r.vs]) (by simp [results, Try.results9, go_sem, g0, g1, g2, g3, g4, g5]) rfl ⟨⟨A1, A2, A3, A4, c1, c2, c3, c4, ?_, F1.out, F2.out, F3.out, F4.out⟩, HF.out⟩
  show Ending.returned (.agg #[.string r.nm, .slice A1 r.kp.length c1, .slice A2 r.rm.length c2, .slice A3 r.gd.length c3, .slice A4 r.bd.length c4, .int .i64 r.vs]) = .returned (.agg #[.string r.nm, .slice A1 (r.kp.map (shAt k)).length c1, .slice A2 (r.rm.map (shAt k)).length c2, .slice A3 (r.gd.map (shGl k)).length c3, .slice A4 (r.bd.map (shGl k)).length c4, .int .i64 r.vs])
  rw [List.length_map, List.length_map, List.length_map, List.length_map]
end Go.Proofs.Ytahhaiomdjlckaa
