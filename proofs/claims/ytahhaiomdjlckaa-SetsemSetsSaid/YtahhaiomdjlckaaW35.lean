/-
  The walk of the law SetsemSets.
-/
import Derived.Test.YtahhaiomdjlckaaW34
import Derived.Test.YtahhaiomdjlckaaW30
import Derived.Test.YtahhaiomdjlckaaW26
import Derived.Outline
namespace Go.Proofs.Ytahhaiomdjlckaa
set_option linter.unusedVariables false
set_option linter.unusedSimpArgs false
open Go.RowKit

theorem isSet_true {rs : List Rl} {d : Dc} (h : isSet rs d = true) : ∃ o0 o1 t, sel d.nm d.ar (evs rs) = o0 :: o1 :: t ∧ (o0.rule != o1.rule) = false ∧ o0.kept = false ∧ o1.kept = true := by
  by_cases hs : (sel d.nm d.ar (evs rs)).length < 2
  · rw [isSet_short hs] at h; cases h
  · obtain ⟨o0, o1, t, hsel⟩ := two_of (l := sel d.nm d.ar (evs rs)) (by omega)
    rw [isSet_two hsel] at h
    split at h
    · cases h
    · rename_i hn
      have hn' : (o0.rule != o1.rule || o0.kept || !o1.kept) = false := by simpa using hn
      simp only [Bool.or_eq_false_iff, Bool.not_eq_false'] at hn'
      exact ⟨o0, o1, t, hsel, hn'.1.1, hn'.1.2, hn'.2⟩
theorem setsU_all {rs : List Rl} {ds : List Dc} {k : Nat} {d : Dc} (h : d ∈ setsU rs ds k) : isSet rs d = true := (List.mem_filter.1 h).2

set_option maxRecDepth 100000 in
set_option maxHeartbeats 4000000 in
theorem setsemSets_walk (dA rA : Option Addr) (dc rc : Nat) (ds : List Dc) (rs : List Rl) (w : World) (hds : SlAt DcAt 2 w dA ds) (hrs : SlAt RlAt 6 w rA rs) :
    Calls Try.prog 4 #[.agg #[.slice dA ds.length dc, .slice rA rs.length rc]] w fun e w' => e = .returned (.bool true) ∧ Below w.heap.size w w' := by
  have Hds := Lib.hid hds
  have Hrs := Lib.hid hrs
  have hbox : Below w.heap.size w (w.alloc (.cells #[.slice dA ds.length dc, .slice rA rs.length rc] 39)) := (Below.refl _ _).alloc (Nat.le_refl _) _
  have Hbx := Lib.hid (heap_alloc_new w (.cells #[.slice dA ds.length dc, .slice rA rs.length rc] 39))
  have hg := great_any dA rA dc rc ds rs (w.alloc (.cells #[.slice dA ds.length dc, .slice rA rs.length rc] 39)) (hds.below DcAt.stable hbox) (hrs.below RlAt.stable hbox)
  have Hg := Lib.hid hg
  have Hbox := Lib.hid hbox
  clear hds hrs hg hbox
  go_enter Try.func4, Try.ntmps4
  go_wp2_with fail
  refine Hg.out.mono ?_
  rintro e w1 ⟨⟨r, rfl, hr⟩, hb1⟩
  have HB1 := Lib.hid (Hbox.out.trans (hb1.mono Hbox.out.size))
  have hbx1 := (hb1.block _ (lt_of_block Hbx.out)).trans Hbx.out
  have Hbx1 := Lib.hid hbx1
  cases r with
  | true =>
    clear hbx1 hr hb1
    go_wp2
    go_ret
    exact ⟨rfl, HB1.out⟩
  | false =>
    obtain ⟨hd60, hok⟩ := hr rfl
    have Hok := Lib.hid hok
    have c0 : w1.cell? ⟨w.heap.size, 0, none⟩ = some (.slice dA ds.length dc) := by rw [cell_of_row _ _ 0 _ _ _ hbx1]; rfl
    have c1 : w1.cell? ⟨w.heap.size, 1, none⟩ = some (.slice rA rs.length rc) := by rw [cell_of_row _ _ 1 _ _ _ hbx1]; rfl
    have l1 := lt_of_block hbx1
    clear hr hb1 hbx1 hok Hg
    obtain ⟨S, hS⟩ : ∃ S, S = setsU rs ds ds.length := ⟨_, rfl⟩
    have hSl : S.length ≤ 1000 := by rw [hS]; have := setsU_len rs ds ds.length; omega
    have HS := Lib.hid hS
    have hs1 := fun W (h1 : SlAt DcAt 2 W dA ds) (h2 : SlAt RlAt 6 W rA rs) => sets_any dA rA dc rc ds rs W h1 h2 Hok.out (by omega)
    have hs2 := fun W (h1 : SlAt DcAt 2 W dA ds) (h2 : SlAt RlAt 6 W rA rs) => rsets_any dA rA dc rc ds rs W h1 h2 Hok.out (by omega)
    rw [← hS] at hs1 hs2
    have Hs1 := Lib.hid hs1
    have Hs2 := Lib.hid hs2
    clear hS hs1 hs2
    go_wp2_with fail
    refine (Hs1.out w1 (Hds.out.below DcAt.stable HB1.out) (Hrs.out.below RlAt.stable HB1.out)).mono ?_
    rintro e w2 ⟨v2, rfl, hown2, hb2⟩
    obtain ⟨A2, n2, rfl, hsl2⟩ := hown2.form (RAt := DcAt) (by decide) (fun b o cs x _ hc hr => RDc.at_ b o cs x hc hr)
    have HB2 := Lib.hid (HB1.out.trans (hb2.mono HB1.out.size))
    have hbx2 := (hb2.block _ l1).trans Hbx1.out
    have Hbx2 := Lib.hid hbx2
    have Hsl2 := Lib.hid hsl2
    have d0 : w2.cell? ⟨w.heap.size, 0, none⟩ = some (.slice dA ds.length dc) := by rw [cell_of_row _ _ 0 _ _ _ hbx2]; rfl
    have d1 : w2.cell? ⟨w.heap.size, 1, none⟩ = some (.slice rA rs.length rc) := by rw [cell_of_row _ _ 1 _ _ _ hbx2]; rfl
    have l2 := lt_of_block hbx2
    clear hown2 hb2 hbx2 hsl2 c0 c1
    go_wp2_with fail
    refine (Hs2.out w2 (Hds.out.below DcAt.stable HB2.out) (Hrs.out.below RlAt.stable HB2.out)).mono ?_
    rintro e w3 ⟨v3, rfl, hown3, hb3⟩
    obtain ⟨A3, n3, rfl, hsl3⟩ := hown3.form (RAt := DcAt) (by decide) (fun b o cs x _ hc hr => RDc.at_ b o cs x hc hr)
    have HB3 := Lib.hid (HB2.out.trans (hb3.mono HB2.out.size))
    have Hbx3 := Lib.hid ((hb3.block _ l2).trans Hbx2.out)
    have Hsl3 := Lib.hid (Hsl2.out.below DcAt.stable hb3)
    have h0 := Lib.hid (sameDcs_any S A2 A3 n2 n3 w3 Hsl3.out hsl3)
    clear hown3 hb3 hsl3 d0 d1
    go_wp2_with fail
    refine h0.out.mono ?_
    rintro e w4 ⟨rfl, n4, hw4⟩
    have hb4 : Below w3.heap.size w3 w4 := by rw [hw4]; exact below_drewN (Below.refl _ _) _
    have HB4 := Lib.hid (HB3.out.trans (hb4.mono HB3.out.size))
    have Hbx4 := Lib.hid ((hb4.block _ (lt_of_block Hbx3.out)).trans Hbx3.out)
    have Hsl4 := Lib.hid (Hsl3.out.below DcAt.stable hb4)
    clear hb4 hw4 h0
    go_wp2
    go_loopw [4, 5] (fun i _ wr => ∃ k : Nat, k ≤ S.length ∧ i = .int .i64 k ∧ Below w4.heap.size w4 wr) (fun i _ _ => S.length - (intOf i).toNat)
    case atStart => exact ⟨0, Nat.zero_le _, rfl, Below.refl _ _⟩
    case round =>
      obtain ⟨k, hk, rfl, hbr⟩ := hrel
      have Hbr := Lib.hid hbr
      have HBr := Lib.hid (HB4.out.trans (hbr.mono HB4.out.size))
      by_cases hlt : k < S.length
      · obtain ⟨d, hd⟩ : ∃ d, S[k]? = some d := ⟨_, List.getElem?_eq_getElem hlt⟩
        have his : isSet rs d = true := setsU_all (by rw [← HS.out]; exact List.mem_of_getElem? hd)
        obtain ⟨o0, o1, t, hsel, t58, t40, t46⟩ := isSet_true his
        obtain ⟨b, off, rfl, hblt, ⟨p0, p0s⟩, p1, p1s⟩ := (Hsl4.out.below DcAt.stable hbr).2 k d hd
        have hbxr := (hbr.block _ (lt_of_block Hbx4.out)).trans Hbx4.out
        have q0 : wr.cell? ⟨w.heap.size, 0, none⟩ = some (.slice dA ds.length dc) := by rw [cell_of_row _ _ 0 _ _ _ hbxr]; rfl
        have q1 : wr.cell? ⟨w.heap.size, 1, none⟩ = some (.slice rA rs.length rc) := by rw [cell_of_row _ _ 1 _ _ _ hbxr]; rfl
        have lr := lt_of_block hbxr
        have hdr : Below wr.heap.size wr wr.drew := (Below.refl _ _).drew
        have hof := callsIn_wide.1 (of_any dA rA ds.length dc rc rs d.nm d.ar wr.drew ((Hrs.out.below RlAt.stable HBr.out).below RlAt.stable hdr) Hok.out)
        have Hof := Lib.hid hof
        have Hsel := Lib.hid hsel
        clear hd his hsel hbxr hbr hof
        go_wp2
        go_still_tail 11, (by kernel_rfl)
        change wpList _ _ _ _ _ wr.drew
        go_wp2_with fail
        refine Hof.out.mono ?_
        rintro e w5 ⟨v5, rfl, hown5, hb5⟩
        obtain ⟨A5, n5, rfl⟩ := hown5.shape
        have hlen : 2 ≤ (sel d.nm d.ar (evs rs)).length := by rw [Hsel.out]; simp
        have t35 : decide (((sel d.nm d.ar (evs rs)).length : Int) < 2) = false := by rw [decide_eq_false_iff_not]; omega
        obtain ⟨g, o, cs0, rfl, hg, e0, hc0⟩ := hown5.at_ (by decide) (k := 0) (x := o0) (by rw [Hsel.out]; rfl)
        obtain ⟨g', o', cs1, hgo, _, e1, hc1⟩ := hown5.at_ (by decide) (k := 1) (x := o1) (by rw [Hsel.out]; rfl)
        simp only [Option.some.injEq, Addr.mk.injEq, and_true] at hgo
        obtain ⟨rfl, rfl⟩ := hgo
        unfold ROc at e0 e1
        subst e0 e1
        have r0 : w5.cell? ⟨g, o, none⟩ = some (.int .i64 o0.rule) := by have := hc0 0 (by decide); simpa using this
        have r2 : w5.cell? ⟨g, o + 2, none⟩ = some (.bool false) := by have := hc0 2 (by decide); rw [t40] at this; simpa using this
        have r3 : w5.cell? ⟨g, o + 3, none⟩ = some (.int .i64 o1.rule) := by have := hc1 0 (by decide); simpa using this
        have r5 : w5.cell? ⟨g, o + 3 + 2, none⟩ = some (.bool true) := by have := hc1 2 (by decide); rw [t46] at this; simpa using this
        have Hb5 := Lib.hid (Hbr.out.trans ((hdr.trans hb5).mono Hbr.out.size))
        clear hown5 hb5 hc0 hc1 t40 t46
        go_wp2
        go_quiet (fail)
        go_wp2
        go_roundw
        case rel => exact ⟨k + 1, by omega, by go_num, below_drewN Hb5.out _⟩
        case measure => simp [intOf]; omega
      · clear hbr
        go_wp2_with fail
        refine (live_any _).mono ?_
        rintro e w10 ⟨rfl, hb10⟩
        go_wp2
        go_ret
        exact ⟨rfl, HBr.out.trans (hb10.mono HBr.out.size)⟩
end Go.Proofs.Ytahhaiomdjlckaa
