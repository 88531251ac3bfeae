/-
  The walk of All, in the reference.
-/
import Derived.Test.YtahhaiomdjlckaaW23
import Derived.Outline
namespace Go.Proofs.Ytahhaiomdjlckaa
set_option linter.unusedVariables false
set_option linter.unusedSimpArgs false
open Go.RowKit

theorem roc_one {w : World} {cs : List Value} {x : Oc} (h : ROc w cs x) : ∀ u ∈ cs, u.oneCell' = true := by
  unfold ROc at h
  subst h
  intro u hu
  simp only [List.mem_cons, List.not_mem_nil, or_false] at hu
  rcases hu with rfl | rfl | rfl <;> rfl
set_option maxRecDepth 100000 in
set_option maxHeartbeats 4000000 in
theorem rall_any (dA rA : Option Addr) (dn dc rc : Nat) (rs : List Rl) (w : World) (hrs : SlAt RlAt 6 w rA rs) (hok : RsOk rs) :
    Calls Try.prog 51 #[.agg #[.slice dA dn dc, .slice rA rs.length rc]] w fun e w' => ∃ v, e = .returned v ∧ Owned ROc 46 3 w w' v ((evs rs).map oc) ∧ Below w.heap.size w w' := by
  obtain ⟨i0, hi, hz0, hz1, hz2⟩ := info_parts Try.infoOcc
  have hevs := evs_le hok
  have hl := hrs.1
  unfold maxLen at hl
  have Hi := Lib.hid hi
  have Hz0 := Lib.hid hz0
  have Hz1 := Lib.hid hz1
  have Hz2 := Lib.hid hz2
  have Hrs := Lib.hid hrs
  have Hok := Lib.hid hok
  have hbox : Below w.heap.size w (w.alloc (.cells #[.slice dA dn dc, .slice rA rs.length rc] 39)) := (Below.refl _ _).alloc (Nat.le_refl _) _
  have HB0 := Lib.hid (heap_alloc_new w (.cells #[.slice dA dn dc, .slice rA rs.length rc] 39))
  clear hi hz0 hz1 hz2 hrs hok
  go_enter Try.func51, Try.ntmps51
  go_wp2
  go_loopw [3, 4, 5, 6] (fun v i _ _ wr => ∃ k : Nat, k ≤ rs.length ∧ i = .int .i64 k ∧ Hid (Owned ROc 46 3 w wr v ((evUpto rs k).map oc)) ∧ wr.heap[w.heap.size]? = some (.cells #[.slice dA dn dc, .slice rA rs.length rc] 39 (0, 0)) ∧ Below w.heap.size w wr) (fun _ i _ _ _ => rs.length - (intOf i).toNat)
  case atStart => exact ⟨0, Nat.zero_le _, rfl, Lib.hid Owned.nil, HB0.out, hbox⟩
  case round =>
    obtain ⟨i, hil, rfl, hown, hbx, hbel⟩ := hrel
    have c1 : wr.cell? ⟨w.heap.size, 1, none⟩ = some (.slice rA rs.length rc) := by rw [cell_of_row _ _ 1 _ _ _ hbx]; rfl
    have lbx := lt_of_block hbx
    by_cases hlt : i < rs.length
    · obtain ⟨r, hr⟩ : ∃ r, rs[i]? = some r := ⟨_, List.getElem?_eq_getElem hlt⟩
      have hrn := Hok.out.h r (List.mem_of_getElem? hr)
      obtain ⟨b, off, rfl, hblt, ⟨q0, _⟩, ⟨kA, kc, q1, hk⟩, ⟨mA, mc, q2, hm⟩, _⟩ := (SlAt.below RlAt.stable Hrs.out hbel).2 i r hr
      have hmono := evUpto_mono (rs := rs) (i := i + 1) (j := rs.length) (by omega)
      have hsucc := evUpto_succ hr
      have hlen : (evUpto rs (i + 1)).length = (evUpto rs i).length + nh r := by rw [hsucc, List.length_append, evDown_len]
      have hlen2 : (evUpto rs i).length + nh r ≤ (evs rs).length := by unfold evs; omega
      have hnh : nh r = r.kp.length + r.rm.length := rfl
      have hkl : r.kp.length ≤ 1000 := by omega
      have hml : r.rm.length ≤ 1000 := by omega
      have Hsucc := Lib.hid hsucc
      have Hnh := Lib.hid hnh
      have Hbx := Lib.hid hbx
      clear hr hk hm hmono hsucc hlen hnh hbx
      go_wp2
      clear c1
      obtain ⟨wo, hwo⟩ : ∃ W, W = wr := ⟨_, rfl⟩
      subst hwo
      go_loopw [3, 6] (fun v z wr => ∃ (z' : Int) (j : Nat), z = .int .i64 z' ∧ z' = (r.kp.length : Int) + r.rm.length - 1 - j ∧ j ≤ r.kp.length + r.rm.length ∧ Hid (Owned ROc 46 3 w wr v ((evUpto rs i ++ evDown i r j).map oc)) ∧ Hid (wr.heap[w.heap.size]? = some (.cells #[.slice dA dn dc, .slice (some ⟨b, off, none⟩) rs.length rc] 39 (0, 0))) ∧ Below w.heap.size w wr) (fun _ z _ => (intOf z + 1).toNat)
      case atStart => exact ⟨_, 0, rfl, by omega, Nat.zero_le _, Lib.hid (by simp only [evDown, List.append_nil]; exact hown.out), Hbx, hbel⟩
      case round =>
        obtain ⟨z, j, rfl, hz, hj, HO, HX, hb2⟩ := hrel
        by_cases hlt' : j < r.kp.length + r.rm.length
        · obtain ⟨k, rfl⟩ : ∃ k : Nat, z = k := Int.eq_ofNat_of_zero_le (by omega)
          have hkj : k + 1 + j = r.kp.length + r.rm.length := by omega
          have Hkj := Lib.hid hkj
          have hk2000 : k ≤ 2000 := by omega
          have hev : oc (ev i r (nh r - 1 - j)) = ⟨i, k, decide (k < r.kp.length)⟩ := by
            rw [show nh r - 1 - j = k by have := Hnh.out; omega]; rfl
          have hstep : (evUpto rs i ++ evDown i r (j + 1)).map oc = (evUpto rs i ++ evDown i r j).map oc ++ [⟨i, k, decide (k < r.kp.length)⟩] := by
            rw [← hev]; simp [evDown]
          have Hstep := Lib.hid hstep
          have hbA : Below wr.heap.size wr (wr.alloc (.cells #[.int .i64 i, .int .i64 k, .bool (decide (k < r.kp.length))] 46)) := (Below.refl _ _).alloc (Nat.le_refl _) _
          have OwnT := Lib.hid (HO.out.below hbA)
          have SrcT := Lib.hid (Srcs.one_el (R := ROc) (sz := 3) (w0 := w) (w := wr.alloc (.cells #[.int .i64 i, .int .i64 k, .bool (decide (k < r.kp.length))] 46)) (x := ⟨i, k, decide (k < r.kp.length)⟩) (cs := [.int .i64 i, .int .i64 k, .bool (decide (k < r.kp.length))]) (A := ⟨wr.heap.size, 0, none⟩) rfl (roc_one (w := w) (x := ⟨i, k, decide (k < r.kp.length)⟩) rfl) rfl (cells_at (heap_alloc_new _ _)))
          have HbelT := Lib.hid (hb2.trans (hbA.mono hb2.size))
          have HbxT := Lib.hid ((Below.heap_alloc wr (.cells #[.int .i64 i, .int .i64 k, .bool (decide (k < r.kp.length))] 46) _ (lt_of_block HX.out)).trans HX.out)
          have hll : ((evUpto rs i ++ evDown i r j).map oc).length = (evUpto rs i).length + j := by rw [List.length_map, List.length_append, evDown_len]
          have C1 : Hid (((evUpto rs i ++ evDown i r j).map oc).length + [(⟨i, k, decide (k < r.kp.length)⟩ : Oc)].length ≤ maxLen) := Lib.hid (by rw [hll]; unfold maxLen; have := Hnh.out; simp; omega)
          have C2 : Hid ((((evUpto rs i ++ evDown i r j).map oc).length + [(⟨i, k, decide (k < r.kp.length)⟩ : Oc)].length) * 24 ≤ 140737488355328) := Lib.hid (by rw [hll]; have := Hnh.out; simp; omega)
          clear hz hkj hev hstep hbA hll
          go_wp2_with (at_builtin; refine wpList_append_sl (l2 := [(⟨i, k, decide (k < r.kp.length)⟩ : Oc)]) rfl _ _ 43 rfl i0 _ 24 Try.underlying43 Hi.out Hz0.out Hz1.out Hz2.out rfl (by decide) rfl OwnT.out rfl SrcT.out C1.out C2.out HbelT.out ?_; intro v4 w4 hown4 hb4 hg4; have Hown4 := Lib.hid hown4; have Hb4 := Lib.hid hb4; have Hbx4 := Lib.hid (OwnT.out.other hg4 HbxT.out (by decide)); clear hown4 hb4 hg4)
          go_roundw
          case rel => exact ⟨_, j + 1, rfl, by have := Hkj.out; omega, by omega, Lib.hid (Hstep.out ▸ Hown4.out), Hbx4, Hb4.out⟩
          case measure => simp [intOf]
        · obtain rfl : j = r.kp.length + r.rm.length := by omega
          have hz1 : z < 0 := by omega
          clear hz
          go_wp2
          go_roundw
          case rel => exact ⟨i + 1, by omega, by go_num, Lib.hid (by rw [Hsucc.out, Hnh.out]; exact HO.out), HX.out, hb2⟩
          case measure => simp [intOf]; omega
    · go_wp2
      go_ret
      obtain rfl : i = rs.length := by omega
      exact ⟨_, rfl, hown.out, hbel⟩
end Go.Proofs.Ytahhaiomdjlckaa
