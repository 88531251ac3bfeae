/-
  The walk of Sets, in the program.
-/
import Derived.Test.YtahhaiomdjlckaaSetsP
import Derived.Outline
import Derived.Deep.RegionWith
import Derived.Deep.Cut
namespace Go.Proofs.Ytahhaiomdjlckaa
set_option linter.unusedVariables false
set_option linter.unusedSimpArgs false
open Go.RowKit

theorem Try.infoDecl : (Try.prog.info? 29).map (fun i => (i.zero, i.size, i.bytes)) = some (some (.agg #[.string ⟨#[]⟩, .int .i64 0]), 2, 24) := by kernel_rfl

theorem z_of {V W3 : World} (h : Below (V.alloc (.cells #[.string ⟨#[]⟩, .int .i64 0] 29)).drew.heap.size (V.alloc (.cells #[.string ⟨#[]⟩, .int .i64 0] 29)).drew W3) : W3.heap[V.heap.size]? = some (.cells #[.string ⟨#[]⟩, .int .i64 0] 29 (0, 0)) ∧
    W3.cell? ⟨V.heap.size, 0, none⟩ = some (.string ⟨#[]⟩) ∧ W3.cell? ⟨V.heap.size, 1, none⟩ = some (.int .i64 0) ∧ W3.frozen? ⟨V.heap.size, 0, none⟩ = false ∧ W3.frozen? ⟨V.heap.size, 1, none⟩ = false := by
  have hz : W3.heap[V.heap.size]? = some (.cells #[.string ⟨#[]⟩, .int .i64 0] 29 (0, 0)) := (h.block _ (by simp)).trans (heap_alloc_new V _)
  refine ⟨hz, ?_, ?_, ?_, ?_⟩
  · rw [cell_of_row _ _ 0 _ _ _ hz]; rfl
  · rw [cell_of_row _ _ 1 _ _ _ hz]; rfl
  · simp [World.frozen?, hz]
  · simp [World.frozen?, hz]
set_option maxRecDepth 100000 in
set_option maxHeartbeats 4000000 in
theorem sets_any (dA rA : Option Addr) (dc rc : Nat) (ds : List Dc) (rs : List Rl) (w : World) (hds : SlAt DcAt 2 w dA ds) (hrs : SlAt RlAt 6 w rA rs) (hok : RsOk rs) (hdn : ds.length ≤ 1000) :
    Calls Try.prog 13 #[.agg #[.slice dA ds.length dc, .slice rA rs.length rc]] w fun e w' => ∃ v, e = .returned v ∧ Owned RDc 29 2 w w' v (setsU rs ds ds.length) ∧ Below w.heap.size w w' := by
  obtain ⟨i0, hi, hz0, hz1, hz2⟩ := info_parts Try.infoDecl
  have Hi := Lib.hid hi
  have Hz0 := Lib.hid hz0
  have Hz1 := Lib.hid hz1
  have Hz2 := Lib.hid hz2
  have Hds := Lib.hid hds
  have Hrs := Lib.hid hrs
  have Hok := Lib.hid hok
  have hbox : Below w.heap.size w (w.alloc (.cells #[.slice dA ds.length dc, .slice rA rs.length rc] 39)) := (Below.refl _ _).alloc (Nat.le_refl _) _
  have HB0 := Lib.hid (heap_alloc_new w (.cells #[.slice dA ds.length dc, .slice rA rs.length rc] 39))
  clear hi hz0 hz1 hz2 hds hrs hok
  go_enter Try.func13, Try.ntmps13
  go_wp2
  go_loopw [3, 12] (fun v i wr => ∃ k : Nat, k ≤ ds.length ∧ i = .int .i64 k ∧ Hid (Owned RDc 29 2 w wr v (setsU rs ds k)) ∧ wr.heap[w.heap.size]? = some (.cells #[.slice dA ds.length dc, .slice rA rs.length rc] 39 (0, 0)) ∧ Below w.heap.size w wr) (fun _ i _ => ds.length - (intOf i).toNat)
  case atStart => exact ⟨0, Nat.zero_le _, rfl, Lib.hid Owned.nil, HB0.out, hbox⟩
  case round =>
    obtain ⟨k, hk, rfl, hown, hbx, hbel⟩ := hrel
    by_cases hlt : k < ds.length
    · obtain ⟨d, hd⟩ : ∃ d, ds[k]? = some d := ⟨_, List.getElem?_eq_getElem hlt⟩
      obtain ⟨b, off, rfl, hblt, ⟨p0, p0s⟩, p1, p1s⟩ := (SlAt.below DcAt.stable Hds.out hbel).2 k d hd
      have Hd := Lib.hid hd
      have c0 : wr.cell? ⟨w.heap.size, 0, none⟩ = some (.slice (some ⟨b, off, none⟩) ds.length dc) := by rw [cell_of_row _ _ 0 _ _ _ hbx]; rfl
      have c1 : wr.cell? ⟨w.heap.size, 1, none⟩ = some (.slice rA rs.length rc) := by rw [cell_of_row _ _ 1 _ _ _ hbx]; rfl
      have lbx := lt_of_block hbx
      have hb1 : Below wr.heap.size wr (wr.alloc (.cells #[.string d.nm, .int .i64 d.ar] 29)) := (Below.refl _ _).alloc (Nat.le_refl _) _
      have hcall := Lib.hid (callsIn_wide.1 (of_any (some ⟨b, off, none⟩) rA ds.length dc rc rs d.nm d.ar (wr.alloc (.cells #[.string d.nm, .int .i64 d.ar] 29)) ((SlAt.below RlAt.stable Hrs.out hbel).below RlAt.stable hb1) Hok.out))
      have HB1 := Lib.hid (heap_alloc_new wr (.cells #[.string d.nm, .int .i64 d.ar] 29))
      have Hbx := Lib.hid hbx
      have Hb1 := Lib.hid hb1
      clear hd hbx hb1
      go_wp2_with fail
      refine hcall.out.mono ?_
      rintro e w2 ⟨v6, rfl, hown6, hb2⟩
      obtain ⟨A6, n6, rfl⟩ := hown6.shape
      have hw2 : Below wr.heap.size wr w2 := Hb1.out.trans (hb2.mono Hb1.out.size)
      have HownX := Lib.hid (hown.out.below hw2)
      have Hbox2 := Lib.hid ((hw2.block _ lbx).trans Hbx.out)
      have Hbel2 := Lib.hid (hbel.trans (hw2.mono hbel.size))
      have HD2 := Lib.hid ((hb2.block _ (by simp)).trans HB1.out)
      have Hown6 := Lib.hid hown6
      clear hcall hown hown6 hb2 hw2 c0 p0 p1
      by_cases hshort : (sel d.nm d.ar (evs rs)).length < 2
      · have t24 : decide (((sel d.nm d.ar (evs rs)).length : Int) < 2) = true := by rw [decide_eq_true_eq]; omega
        have HNo := Lib.hid (setsU_no Hd.out (isSet_short hshort))
        clear hshort
        go_wp2
        go_quiet (fail)
        go_wp2
        go_roundw
        case rel => exact ⟨k + 1, by omega, by go_num, Lib.hid (HNo.out ▸ HownX.out.below (below_drewN (Below.refl _ _) _)), Hbox2.out, below_drewN Hbel2.out _⟩
        case measure => simp [intOf]; omega
      · obtain ⟨o0, o1, t, hsel⟩ := two_of (l := sel d.nm d.ar (evs rs)) (by omega)
        have t24 : decide (((sel d.nm d.ar (evs rs)).length : Int) < 2) = false := by rw [decide_eq_false_iff_not]; omega
        have hlen : 2 ≤ (sel d.nm d.ar (evs rs)).length := by omega
        have his := isSet_two hsel
        obtain ⟨k0, r0, hk0, hr0⟩ := sel_rule (rs := rs) (nm := d.nm) (ar := d.ar) (o := o0) (by rw [hsel]; simp)
        obtain ⟨g, o, cs0, rfl, hg, e0, hc0⟩ := Hown6.out.at_ (by decide) (k := 0) (x := o0) (by rw [hsel]; rfl)
        obtain ⟨g', o', cs1, hgo, _, e1, hc1⟩ := Hown6.out.at_ (by decide) (k := 1) (x := o1) (by rw [hsel]; rfl)
        simp only [Option.some.injEq, Addr.mk.injEq, and_true] at hgo
        obtain ⟨rfl, rfl⟩ := hgo
        have hk0l : k0 < rs.length := (List.getElem?_eq_some_iff.1 hr0).1
        unfold ROc at e0 e1
        subst e0 e1
        rw [hk0] at hc0
        have q0 : w2.cell? ⟨g, o, none⟩ = some (.int .i64 k0) := by have := hc0 0 (by decide); simpa using this
        have q2 : w2.cell? ⟨g, o + 2, none⟩ = some (.bool o0.kept) := by have := hc0 2 (by decide); simpa using this
        have q3 : w2.cell? ⟨g, o + 3, none⟩ = some (.int .i64 o1.rule) := by have := hc1 0 (by decide); simpa using this
        have q5 : w2.cell? ⟨g, o + 3 + 2, none⟩ = some (.bool o1.kept) := by have := hc1 2 (by decide); simpa using this
        rw [hk0] at his
        have His := Lib.hid his
        have Hr0 := Lib.hid hr0
        clear hsel his hc0 hc1 hshort hr0 hk0
        cases t34 : ((k0 : Int) != o1.rule) with
        | true =>
          have HNo := Lib.hid (setsU_no Hd.out (His.out.trans (by rw [t34]; rfl)))
          go_wp2
          go_quiet (fail)
          go_wp2
          go_roundw
          case rel => exact ⟨k + 1, by omega, by go_num, Lib.hid (HNo.out ▸ HownX.out.below (below_drewN (Below.refl _ _) _)), Hbox2.out, below_drewN Hbel2.out _⟩
          case measure => simp [intOf]; omega
        | false =>
          cases t40 : o0.kept with
          | true =>
            have HNo := Lib.hid (setsU_no Hd.out (His.out.trans (by rw [t34, t40]; rfl)))
            rw [t40] at q2
            go_wp2
            go_quiet (fail)
            go_wp2
            go_roundw
            case rel => exact ⟨k + 1, by omega, by go_num, Lib.hid (HNo.out ▸ HownX.out.below (below_drewN (Below.refl _ _) _)), Hbox2.out, below_drewN Hbel2.out _⟩
            case measure => simp [intOf]; omega
          | false =>
            cases t46 : o1.kept with
            | false =>
              have HNo := Lib.hid (setsU_no Hd.out (His.out.trans (by rw [t34, t40, t46]; rfl)))
              rw [t40] at q2
              rw [t46] at q5
              go_wp2
              go_quiet (fail)
              go_wp2
              go_roundw
              case rel => exact ⟨k + 1, by omega, by go_num, Lib.hid (HNo.out ▸ HownX.out.below (below_drewN (Below.refl _ _) _)), Hbox2.out, below_drewN Hbel2.out _⟩
              case measure => simp [intOf]; omega
            | true =>
              rw [t40] at q2
              rw [t46] at q5
              go_wp2
              go_quiet (fail)
              go_wp2_with fail
              obtain ⟨V, hV⟩ : ∃ V, V = w2.drewN nq := ⟨_, rfl⟩
              rw [← hV]
              have hVb : Below w2.heap.size w2 V := by rw [hV]; exact below_drewN (Below.refl _ _) nq
              clear hV
              have hbxV := (hVb.block _ (lt_of_block Hbox2.out)).trans Hbox2.out
              have c1V : V.cell? ⟨w.heap.size, 1, none⟩ = some (.slice rA rs.length rc) := by rw [cell_of_row _ _ 1 _ _ _ hbxV]; rfl
              have q0V := (hVb.cell (p := ⟨g, o, none⟩) hg).trans q0
              have lVx := lt_of_block hbxV
              have lVg : g < V.heap.size := Nat.lt_of_lt_of_le hg hVb.size
              have hwV : Below w.heap.size w V := Hbel2.out.trans (hVb.mono Hbel2.out.size)
              obtain ⟨rb, ro, rfl, hrb, ⟨m0, _⟩, ⟨kA, kc, m1, hk1⟩, ⟨mA, mc, m2, hk2⟩, ⟨gA, gc, m3, hk3⟩, ⟨bA, bc, m4, hk4⟩, m5, _⟩ := (Hrs.out.below RlAt.stable hwV).2 k0 r0 Hr0.out
              have Hcall : Hid (∀ W, Below V.heap.size V W → Calls Try.prog 7 #[.agg #[.string r0.nm, .slice kA r0.kp.length kc, .slice mA r0.rm.length mc, .slice gA r0.gd.length gc, .slice bA r0.bd.length bc, .int .i64 r0.vs]] W fun e w' => e = .returned (.tuple #[.agg #[.string (idem r0).1.nm, .int .i64 (idem r0).1.ar], .bool (idem r0).2]) ∧ Below W.heap.size W w') :=
                Lib.hid (fun W hb => idem_any r0 kA mA gA bA kc mc gc bc W (hk1.below AtAt.stable hb) (hk2.below AtAt.stable hb) (hk3.below GlAt.stable hb) (hk4.below GlAt.stable hb))
              have hA1 : Below V.heap.size V V.drew := (Below.refl _ _).drew
              have hA2 : Below V.heap.size V (V.alloc (.cells #[.string ⟨#[]⟩, .int .i64 0] 29)).drew := ((Below.refl _ _).alloc (Nat.le_refl _) _).drew
              have HV := Lib.hid hVb
              clear hbxV q0 q2 q3 q5 hk1 hk2 hk3 hk4 hVb
              go_cut [7, 8] from 49 to 60 (fun p s wx => ∃ Bx : Nat, p = .pointer (some ⟨Bx, 0, none⟩) ∧ s = .bool (idem r0).2 ∧ wx.heap[Bx]? = some (.cells #[.string (idem r0).1.nm, .int .i64 (idem r0).1.ar] 29 (0, 0)) ∧ Below V.heap.size V wx)
              case first =>
                go_region_with (go_at_call 7; refine (Hcall.out _ ?_).mono ?_; with_reducible assumption; rintro e w3 ⟨rfl, hb3⟩; (first | ((with_reducible have Hz := z_of hb3); have ⟨z0, z1, z2, z3⟩ := Hz.2; have Hz1 := Lib.hid Hz.1; clear Hz) | skip))
                all_goals (go_wp2_with fail; go_meet)
                all_goals (first | exact ⟨_, rfl, rfl, two_set Hz1.out, ((hA2.trans (hb3.mono (by simp))).setCell (by simp) _).setCell (by simp) _⟩ | exact ⟨_, rfl, rfl, heap_alloc_new _ _, (hA1.trans hb3).alloc (by have := hb3.size; simpa using this) _⟩)
              case rest =>
                obtain ⟨Bx, rfl, rfl, hBx, hVx⟩ := hcut
                have hwx := HV.out.trans (hVx.mono HV.out.size)
                have hDx := (hwx.block _ (lt_of_block HD2.out)).trans HD2.out
                have HownY := Lib.hid (HownX.out.below hwx)
                have HboxY := Lib.hid ((hwx.block _ (lt_of_block Hbox2.out)).trans Hbox2.out)
                have HbelY := Lib.hid (Hbel2.out.trans (hwx.mono Hbel2.out.size))
                have y0 : wc.cell? ⟨Bx, 0, none⟩ = some (.string (idem r0).1.nm) := by rw [cell_of_row _ _ 0 _ _ _ hBx]; rfl
                have y1 : wc.cell? ⟨Bx, 1, none⟩ = some (.int .i64 (idem r0).1.ar) := by rw [cell_of_row _ _ 1 _ _ _ hBx]; rfl
                have u0 : wc.cell? ⟨wr.heap.size, 0, none⟩ = some (.string d.nm) := by rw [cell_of_row _ _ 0 _ _ _ hDx]; rfl
                have u1 : wc.cell? ⟨wr.heap.size, 1, none⟩ = some (.int .i64 d.ar) := by rw [cell_of_row _ _ 1 _ _ _ hDx]; rfl
                have lx := lt_of_block hDx
                have lBx := lt_of_block hBx
                have His2 := Lib.hid (His.out.trans (by rw [t34, t40, t46]; simp only [Bool.or_self, Bool.not_true, Bool.false_eq_true, if_false, Int.toNat_natCast, Hr0.out]) : isSet rs d = ((idem r0).2 && dcEq (idem r0).1 d))
                clear hA1 hA2 Hcall hBx hDx hVx hwx c1V q0V m0 m1 m2 m3 m4 m5
                obtain ⟨A3, n3, rfl⟩ := HownY.out.shape
                cases hok2 : (idem r0).2 with
                | false =>
                  have HNo := Lib.hid (setsU_no Hd.out (His2.out.trans (by rw [hok2]; rfl)))
                  go_wp2
                  go_roundw
                  case rel => exact ⟨k + 1, by omega, by go_num, Lib.hid (HNo.out ▸ HownY.out), HboxY.out, HbelY.out⟩
                  case measure => simp [intOf]; omega
                | true =>
                  have hbA : Below wc.heap.size wc (wc.alloc (.cells #[.string d.nm, .int .i64 d.ar] 29)) := (Below.refl _ _).alloc (Nat.le_refl _) _
                  have OwnT := Lib.hid (HownY.out.below hbA)
                  have SrcT := Lib.hid (Srcs.one_el (R := RDc) (sz := 2) (w0 := w) (w := wc.alloc (.cells #[.string d.nm, .int .i64 d.ar] 29)) (x := d) (cs := [.string d.nm, .int .i64 d.ar]) (A := ⟨wc.heap.size, 0, none⟩) rfl (RDc.one (w := w) ⟨rfl, p0s, p1s⟩) ⟨rfl, p0s, p1s⟩ (cells_at (heap_alloc_new _ _)))
                  have HbelT := Lib.hid (HbelY.out.trans (hbA.mono HbelY.out.size))
                  have HbxT := Lib.hid ((Below.heap_alloc wc (.cells #[.string d.nm, .int .i64 d.ar] 29) _ (lt_of_block HboxY.out)).trans HboxY.out)
                  have hsl := setsU_len rs ds k
                  have C1 : Hid ((setsU rs ds k).length + [d].length ≤ maxLen) := Lib.hid (by unfold maxLen; simp; omega)
                  have C2 : Hid (((setsU rs ds k).length + [d].length) * 24 ≤ 140737488355328) := Lib.hid (by simp; omega)
                  clear hbA hsl
                  go_wp2_with (at_builtin; refine wpList_append_sl (l2 := [d]) rfl _ _ 37 rfl i0 _ 24 Try.underlying37 Hi.out Hz0.out Hz1.out Hz2.out rfl (by decide) rfl OwnT.out rfl SrcT.out C1.out C2.out HbelT.out ?_; intro v4 w4 hown4 hb4 hg4; have Hown4 := Lib.hid hown4; have Hb4 := Lib.hid hb4; have Hbx4 := Lib.hid (OwnT.out.other hg4 HbxT.out (by decide)); clear hown4 hb4 hg4)
                  · have e1 : (idem r0).1.nm.toList = d.nm.toList := by assumption
                    have e2 : (idem r0).1.ar = d.ar := by assumption
                    have hyes := setsU_yes Hd.out (His2.out.trans (by unfold dcEq; rw [hok2, ba_ext e1, e2]; simp))
                    have HYes : Hid (Owned RDc 29 2 w w4 v4 (setsU rs ds (k + 1))) := Lib.hid (hyes ▸ Hown4.out)
                    go_roundw
                    case rel => exact ⟨k + 1, by omega, by go_num, HYes, Hbx4.out, Hb4.out⟩
                    case measure => simp [intOf]; omega
                  · have e2 : ¬ (idem r0).1.ar = d.ar := by assumption
                    have HNo := Lib.hid (setsU_no Hd.out (His2.out.trans (by unfold dcEq; rw [hok2]; simp [e2])))
                    go_roundw
                    case rel => exact ⟨k + 1, by omega, by go_num, Lib.hid (HNo.out ▸ HownY.out), HboxY.out, HbelY.out⟩
                    case measure => simp [intOf]; omega
                  · have e1 : ¬ (idem r0).1.nm.toList = d.nm.toList := by assumption
                    have HNo := Lib.hid (setsU_no Hd.out (His2.out.trans (by unfold dcEq; rw [hok2, decide_eq_false (fun h => e1 (by rw [h]))]; simp)))
                    go_roundw
                    case rel => exact ⟨k + 1, by omega, by go_num, Lib.hid (HNo.out ▸ HownY.out), HboxY.out, HbelY.out⟩
                    case measure => simp [intOf]; omega
    · go_wp2
      go_ret
      obtain rfl : k = ds.length := by omega
      exact ⟨_, rfl, hown.out, hbel⟩
end Go.Proofs.Ytahhaiomdjlckaa
