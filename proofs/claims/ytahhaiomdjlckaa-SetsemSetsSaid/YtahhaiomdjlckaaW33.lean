/-
  The walk of Of, in the reference.
-/
import Derived.Test.YtahhaiomdjlckaaW31
import Derived.Test.YtahhaiomdjlckaaSetsP
import Derived.Deep.RegionWith
import Derived.Deep.DrawnRows
import Derived.Deep.CutRange
import Derived.Outline
namespace Go.Proofs.Ytahhaiomdjlckaa
set_option linter.unusedVariables false
set_option linter.unusedSimpArgs false
open Go.RowKit
attribute [local go_sem ↓] Go.wp_at_zero Go.wp_at_succ

theorem evDown_full (i : Nat) (r : Rl) : ∀ j, j ≤ nh r → ∀ x, x ∈ evDown i r j → ∃ k, k < nh r ∧ x = ev i r k
  | 0, _, x, h => by simp [evDown] at h
  | j + 1, hj, x, h => by
    simp only [evDown, List.mem_append, List.mem_singleton] at h
    rcases h with h | rfl
    · exact evDown_full i r j (by omega) x h
    · exact ⟨nh r - 1 - j, by omega, rfl⟩
theorem evUpto_full (rs : List Rl) : ∀ i x, x ∈ evUpto rs i → ∃ (j : Nat) (r : Rl) (k : Nat), rs[j]? = some r ∧ k < nh r ∧ x = ev j r k
  | 0, x, h => by simp [evUpto] at h
  | i + 1, x, h => by
    simp only [evUpto, List.mem_append] at h
    rcases h with h | h
    · exact evUpto_full rs i x h
    · split at h
      · rename_i r hr
        obtain ⟨k, hk, rfl⟩ := evDown_full i r _ (Nat.le_refl _) x h
        exact ⟨i, r, k, hr, hk, rfl⟩
      · simp at h
theorem sel_take {nm : ByteArray} {ar : Int} {l : List Ev} {i : Nat} {x : Ev} (h : l[i]? = some x) : sel nm ar (l.take (i + 1)) = if hit nm ar x then sel nm ar (l.take i) ++ [oc x] else sel nm ar (l.take i) := by
  rw [List.take_add_one, h]
  exact sel_snoc nm ar (l.take i) x

theorem Owned.rebase {α : Type} {R : World → List Value → α → Prop} {t : TypeId} {sz : Nat} {w0 w1 w : World} {v : Value} {l : List α} (h : Owned R t sz w1 w v l) (hb : w0.heap.size ≤ w1.heap.size) (hR : ∀ cs x, R w1 cs x → R w0 cs x) : Owned R t sz w0 w v l := by
  obtain ⟨css, h1, h2, h3, h4, h5⟩ := h
  refine ⟨css, h1, h2, fun k x cs hx hc => hR _ _ (h3 k x cs hx hc), h4, ?_⟩
  rcases h5 with h5 | ⟨g, cap, cur, e, hB, rest⟩
  · exact .inl h5
  · exact .inr ⟨g, cap, cur, e, Nat.le_trans hb hB, rest⟩
theorem za_of {V W3 : World} (h : Below (V.alloc (.cells #[.string ⟨#[]⟩, .slice none 0 0] 52)).drew.heap.size (V.alloc (.cells #[.string ⟨#[]⟩, .slice none 0 0] 52)).drew W3) : W3.heap[V.heap.size]? = some (.cells #[.string ⟨#[]⟩, .slice none 0 0] 52 (0, 0)) ∧
    W3.cell? ⟨V.heap.size, 0, none⟩ = some (.string ⟨#[]⟩) ∧ W3.cell? ⟨V.heap.size, 1, none⟩ = some (.slice none 0 0) ∧ W3.frozen? ⟨V.heap.size, 0, none⟩ = false ∧ W3.frozen? ⟨V.heap.size, 1, none⟩ = false := by
  have hz : W3.heap[V.heap.size]? = some (.cells #[.string ⟨#[]⟩, .slice none 0 0] 52 (0, 0)) := (h.block _ (by simp)).trans (heap_alloc_new V _)
  refine ⟨hz, ?_, ?_, ?_, ?_⟩
  · rw [cell_of_row _ _ 0 _ _ _ hz]; rfl
  · rw [cell_of_row _ _ 1 _ _ _ hz]; rfl
  · simp [World.frozen?, hz]
  · simp [World.frozen?, hz]
set_option maxRecDepth 100000 in
set_option maxHeartbeats 4000000 in
theorem rof_any (dA rA : Option Addr) (dn dc rc : Nat) (rs : List Rl) (nm : ByteArray) (ar : Int) (w : World) (hrs : SlAt RlAt 6 w rA rs) (hok : RsOk rs) :
    Calls Try.prog 34 #[.agg #[.slice dA dn dc, .slice rA rs.length rc], .string nm, .int .i64 ar] w fun e w' => ∃ v, e = .returned v ∧ Owned ROc 46 3 w w' v (sel nm ar (evs rs)) ∧ Below w.heap.size w w' := by
  obtain ⟨i0, hi, hz0, hz1, hz2⟩ := info_parts Try.infoOcc
  have hevs := evs_le hok
  have hl := hrs.1
  unfold maxLen at hl
  have Hi := Lib.hid hi
  have Hz0 := Lib.hid hz0
  have Hz1 := Lib.hid hz1
  have Hz2 := Lib.hid hz2
  have Hrs := Lib.hid hrs
  have Hok := Lib.hid hok
  have hbox : Below w.heap.size w (w.alloc (.cells #[.slice dA dn dc, .slice rA rs.length rc] 39)) := (Below.refl _ _).alloc (Nat.le_refl _) _
  have HB0 := Lib.hid (heap_alloc_new w (.cells #[.slice dA dn dc, .slice rA rs.length rc] 39))
  have hall := rall_any dA rA dn dc rc rs (w.alloc (.cells #[.slice dA dn dc, .slice rA rs.length rc] 39)) (hrs.below RlAt.stable hbox) hok
  have Hall := Lib.hid hall
  have Hbox := Lib.hid hbox
  clear hi hz0 hz1 hz2 hrs hok hall hbox
  go_enter Try.func34, Try.ntmps34
  go_wp2_with fail
  refine Hall.out.mono ?_
  rintro e w1 ⟨v8, rfl, hown8, hb1⟩
  obtain ⟨A8, n8, rfl⟩ := hown8.shape
  obtain ⟨E, hE⟩ : ∃ E, E = evs rs := ⟨_, rfl⟩
  rw [← hE] at hown8 hevs ⊢
  have hEl : ((E.map oc).length) = E.length := List.length_map _
  rw [hEl]
  have HE := Lib.hid hE
  have Hown8 := Lib.hid hown8
  have Hbx1 := Lib.hid ((hb1.block _ (by simp)).trans HB0.out)
  have Hb1 := Lib.hid (Hbox.out.trans (hb1.mono Hbox.out.size))
  clear hE hown8 hb1 hEl
  go_wp2
  go_loopw [7, 9] (fun v i wr => ∃ k : Nat, k ≤ E.length ∧ i = .int .i64 k ∧ Hid (Owned ROc 46 3 w1 wr v (sel nm ar (E.take k))) ∧ Below w1.heap.size w1 wr) (fun _ i _ => E.length - (intOf i).toNat)
  case atStart => exact ⟨0, Nat.zero_le _, rfl, Lib.hid Owned.nil, Below.refl _ _⟩
  case round =>
    obtain ⟨i, hil, rfl, hown, hb2⟩ := hrel
    have hbel := Hb1.out.trans (hb2.mono Hb1.out.size)
    by_cases hlt : i < E.length
    · obtain ⟨x, hx⟩ : ∃ x, E[i]? = some x := ⟨_, List.getElem?_eq_getElem hlt⟩
      have Hx := Lib.hid (sel_take (nm := nm) (ar := ar) hx)
      obtain ⟨ri, r, k, hr, hk, rfl⟩ := evUpto_full rs _ x (by have := List.mem_of_getElem? hx; rw [HE.out] at this; exact this)
      obtain ⟨g, o, cs, rfl, hg, hcs, hc⟩ := Hown8.out.at_ (by decide) (k := i) (x := oc (ev ri r k)) (by rw [List.getElem?_map, hx]; rfl)
      unfold ROc at hcs
      subst hcs
      have hrn := Hok.out.h r (List.mem_of_getElem? hr)
      have hnh : nh r = r.kp.length + r.rm.length := rfl
      have hril : ri < rs.length := (List.getElem?_eq_some_iff.1 hr).1
      have hg1 := Nat.lt_of_lt_of_le hg hb2.size
      have q0 : wr.cell? ⟨g, o + i * 3, none⟩ = some (.int .i64 ri) := (hb2.cell (p := ⟨g, o + i * 3, none⟩) hg).trans (hc 0 (by decide))
      have q1 : wr.cell? ⟨g, o + i * 3 + 1, none⟩ = some (.int .i64 k) := (hb2.cell (p := ⟨g, o + i * 3 + 1, none⟩) hg).trans (hc 1 (by decide))
      have q2 : wr.cell? ⟨g, o + i * 3 + 2, none⟩ = some (.bool (decide (k < r.kp.length))) := (hb2.cell (p := ⟨g, o + i * 3 + 2, none⟩) hg).trans (hc 2 (by decide))
      have hbx2 := (hb2.block _ (lt_of_block Hbx1.out)).trans Hbx1.out
      have q3 : wr.cell? ⟨w.heap.size, 1, none⟩ = some (.slice rA rs.length rc) := by rw [cell_of_row _ _ 1 _ _ _ hbx2]; rfl
      have lbx := lt_of_block hbx2
      obtain ⟨rb, ro, rfl, hrb, ⟨m0, _⟩, ⟨kA, kc, m1, hk1⟩, ⟨mA, mc, m2, hk2⟩, ⟨gA, gc, m3, hk3⟩, ⟨bA, bc, m4, hk4⟩, m5, _⟩ := (Hrs.out.below RlAt.stable hbel).2 ri r hr
      have Hcall : Hid (∀ W, Below wr.heap.size wr W → Calls Try.prog 52 #[.agg #[.string r.nm, .slice kA r.kp.length kc, .slice mA r.rm.length mc, .slice gA r.gd.length gc, .slice bA r.bd.length bc, .int .i64 r.vs]] W fun e w' => ∃ A c, e = .returned (.slice A (nh r) c) ∧ Below W.heap.size W w' ∧ ∃ g' o' B d, A = some ⟨g', o', none⟩ ∧ g' < w'.heap.size ∧ w'.cell? ⟨g', o' + k * 2, none⟩ = some (.string (hdAt r k).nm) ∧ w'.cell? ⟨g', o' + k * 2 + 1, none⟩ = some (.slice B (hdAt r k).ts.length d)) :=
        Lib.hid (fun W hb => (rheads_any r kA mA gA bA kc mc gc bc W (hk1.below AtAt.stable hb) (hk2.below AtAt.stable hb) (by omega) (by omega)).mono (by
          rintro e w' ⟨v, rfl, hown, hb'⟩
          obtain ⟨A, c, rfl⟩ := hown.shape
          obtain ⟨g', o', cs, rfl, hg', ⟨B, d, rfl, _, _⟩, hcs⟩ := hown.at_ (by decide) (hdAt_get hk)
          exact ⟨_, c, by rw [List.length_append]; rfl, hb', g', o', B, d, rfl, hg', hcs 0 (by decide), hcs 1 (by decide)⟩))
      have hri0 : (0 : Int) ≤ (ri : Int) := Int.natCast_nonneg _
      have hri1 : (ri : Int) < (rs.length : Int) := by omega
      have hi0' : (0 : Int) ≤ (i : Int) := Int.natCast_nonneg _
      have hi1' : (i : Int) < (E.length : Int) := by omega
      have hk0' : (0 : Int) ≤ (k : Int) := Int.natCast_nonneg _
      have hk1' : (k : Int) < (nh r : Int) := by omega
      have hA1 : Below wr.heap.size wr wr.drew := (Below.refl _ _).drew
      have hA2 : Below wr.heap.size wr (wr.alloc (.cells #[.string ⟨#[]⟩, .slice none 0 0] 52)).drew := ((Below.refl _ _).alloc (Nat.le_refl _) _).drew
      have Hown := Lib.hid hown.out
      have Hbel := Lib.hid hbel
      have Hb2 := Lib.hid hb2
      have Hr := Lib.hid hr
      have Hnh := Lib.hid hnh
      have HS : Hid (∀ w' : World, Below wr.heap.size wr w' → (w'.cell? ⟨w.heap.size, 1, none⟩ = some (.slice (some ⟨rb, ro, none⟩) rs.length rc) ∧ w'.cell? ⟨g, o + i * 3, none⟩ = some (.int .i64 ri) ∧ w'.cell? ⟨g, o + i * 3 + 1, none⟩ = some (.int .i64 k) ∧ w'.cell? ⟨rb, ro + ri * 6, none⟩ = some (.string r.nm) ∧ w'.cell? ⟨rb, ro + ri * 6 + 1, none⟩ = some (.slice kA r.kp.length kc) ∧ w'.cell? ⟨rb, ro + ri * 6 + 2, none⟩ = some (.slice mA r.rm.length mc) ∧ w'.cell? ⟨rb, ro + ri * 6 + 3, none⟩ = some (.slice gA r.gd.length gc) ∧ w'.cell? ⟨rb, ro + ri * 6 + 4, none⟩ = some (.slice bA r.bd.length bc) ∧ w'.cell? ⟨rb, ro + ri * 6 + 5, none⟩ = some (.int .i64 r.vs))) := Lib.hid (fun w' hb => ⟨(hb.cell (p := ⟨_, _, none⟩) lbx).trans q3, (hb.cell (p := ⟨_, _, none⟩) hg1).trans q0, (hb.cell (p := ⟨_, _, none⟩) hg1).trans q1, (hb.cell (p := ⟨_, _, none⟩) hrb).trans m0, (hb.cell (p := ⟨_, _, none⟩) hrb).trans m1, (hb.cell (p := ⟨_, _, none⟩) hrb).trans m2, (hb.cell (p := ⟨_, _, none⟩) hrb).trans m3, (hb.cell (p := ⟨_, _, none⟩) hrb).trans m4, (hb.cell (p := ⟨_, _, none⟩) hrb).trans m5⟩)
      clear hx hk1 hk2 hk3 hk4 hc hbx2 hown hbel hb2 hr hnh hk hrn
      go_wp2_with fail
      go_cut [10] from 19 to 35 (fun p wx => ∃ (Bx : Nat) (B : Option Addr) (d : Nat), p = .pointer (some ⟨Bx, 0, none⟩) ∧ wx.heap[Bx]? = some (.cells #[.string (hdAt r k).nm, .slice B (hdAt r k).ts.length d] 52 (0, 0)) ∧ Below wr.heap.size wr wx)
      case first =>
        go_region_with ((go_at_call 52; refine (Hcall.out _ ?_).mono ?_; with_reducible assumption; rintro e w3 ⟨A3, c3, rfl, hb3, g', o', B, d, rfl, hg', e0, e1⟩; have hV3 : Below wr.heap.size wr w3 := (by first | (with_reducible exact hA2.trans (hb3.mono (by simp))) | exact hA1.trans (hb3.mono (by simp))); have ⟨s0, s1, s2, s3, s4, s5, s6, s7, s8⟩ := HS.out w3 hV3; have lg3 := Nat.lt_of_lt_of_le hg1 hV3.size; have lr3 := Nat.lt_of_lt_of_le hrb hV3.size; have lw3 := Nat.lt_of_lt_of_le lbx hV3.size; (first | ((with_reducible have Hz := za_of hb3); have ⟨z0, z1, z2, z3⟩ := Hz.2; have Hz1 := Lib.hid Hz.1; have lz := lt_of_block Hz.1; clear Hz) | skip)))
        all_goals (go_wp2_with fail; go_meet)
        all_goals (first
          | exact ⟨_, _, _, rfl, two_set Hz1.out, (hV3.setCell (by simp) _).setCell (by simp) _⟩
          | exact ⟨_, _, _, rfl, heap_alloc_new _ _, hV3.alloc hV3.size _⟩)
      case rest =>
        obtain ⟨Bx, B, d, rfl, hBx, hVx⟩ := hcut
        have n0 : wc.cell? ⟨Bx, 0, none⟩ = some (.string (hdAt r k).nm) := by rw [cell_of_row _ _ 0 _ _ _ hBx]; rfl
        have n1 : wc.cell? ⟨Bx, 1, none⟩ = some (.slice B (hdAt r k).ts.length d) := by rw [cell_of_row _ _ 1 _ _ _ hBx]; rfl
        have lBx := lt_of_block hBx
        have lgx := Nat.lt_of_lt_of_le hg1 hVx.size
        have e0 := (hVx.cell (p := ⟨g, o + i * 3, none⟩) hg1).trans q0
        have e1 := (hVx.cell (p := ⟨g, o + i * 3 + 1, none⟩) hg1).trans q1
        have e2 := (hVx.cell (p := ⟨g, o + i * 3 + 2, none⟩) hg1).trans q2
        have HownX := Lib.hid (Hown.out.below hVx)
        obtain ⟨A7, n7, rfl⟩ := HownX.out.shape
        have Hb2X := Lib.hid (Hb2.out.trans (hVx.mono Hb2.out.size))
        have hbA : Below wc.heap.size wc (wc.alloc (.cells #[.int .i64 ri, .int .i64 k, .bool (decide (k < r.kp.length))] 46)) := (Below.refl _ _).alloc (Nat.le_refl _) _
        have OwnT := Lib.hid (HownX.out.below hbA)
        have SrcT := Lib.hid (Srcs.one_el (R := ROc) (sz := 3) (w0 := w1) (w := wc.alloc (.cells #[.int .i64 ri, .int .i64 k, .bool (decide (k < r.kp.length))] 46)) (x := oc (ev ri r k)) (cs := [.int .i64 ri, .int .i64 k, .bool (decide (k < r.kp.length))]) (A := ⟨wc.heap.size, 0, none⟩) rfl (roc_one (w := w1) (x := oc (ev ri r k)) rfl) rfl (cells_at (heap_alloc_new _ _)))
        have HbelT := Lib.hid (Hb2X.out.trans (hbA.mono Hb2X.out.size))
        have hsl : (sel nm ar (E.take i)).length ≤ i := Nat.le_trans (sel_len nm ar _) (by rw [List.length_take]; omega)
        have C1 : Hid ((sel nm ar (E.take i)).length + [oc (ev ri r k)].length ≤ maxLen) := Lib.hid (by unfold maxLen; simp; omega)
        have C2 : Hid (((sel nm ar (E.take i)).length + [oc (ev ri r k)].length) * 24 ≤ 140737488355328) := Lib.hid (by simp; omega)
        clear hBx hVx hbA hsl q0 q1 q2 q3 m0 m1 m2 m3 m4 m5 hA1 hA2
        go_wp2_with (at_builtin; refine wpList_append_sl (l2 := [oc (ev ri r k)]) rfl _ _ 43 rfl i0 _ 24 Try.underlying43 Hi.out Hz0.out Hz1.out Hz2.out rfl (by decide) rfl OwnT.out rfl SrcT.out C1.out C2.out HbelT.out ?_; intro v4 w4 hown4 hb4 hg4; have Hown4 := Lib.hid hown4; have Hb4 := Lib.hid hb4; have Hg4 := Lib.hid hg4; clear hown4 hb4 hg4)
        · have h1 : (hdAt r k).nm.toList = nm.toList := by assumption
          have h2 : ((hdAt r k).ts.length : Int) == ar := by assumption
          have hyes := Hx.out.trans (if_pos (by show hit nm ar (ev ri r k) = true; unfold hit ev; simp only; rw [ba_ext h1, h2]; simp))
          go_roundw
          case rel => exact ⟨i + 1, by omega, by go_num, Lib.hid (hyes ▸ Hown4.out), Hb4.out⟩
          case measure => simp [intOf]; omega
        · have h2 : (((hdAt r k).ts.length : Int) == ar) = false := by assumption
          have hno := Hx.out.trans (if_neg (by show ¬ hit nm ar (ev ri r k) = true; unfold hit ev; simp only; rw [h2]; simp))
          go_roundw
          case rel => exact ⟨i + 1, by omega, by go_num, Lib.hid (hno ▸ HownX.out), Hb2X.out⟩
          case measure => simp [intOf]; omega
        · have h1 : ¬ (hdAt r k).nm.toList = nm.toList := by assumption
          have hno := Hx.out.trans (if_neg (by
            show ¬ hit nm ar (ev ri r k) = true
            unfold hit ev
            simp only
            rw [decide_eq_false (fun h => h1 (by rw [h]))]; simp))
          go_roundw
          case rel => exact ⟨i + 1, by omega, by go_num, Lib.hid (hno ▸ HownX.out), Hb2X.out⟩
          case measure => simp [intOf]; omega
    · go_wp2
      go_ret
      obtain rfl : i = E.length := by omega
      refine ⟨_, rfl, ?_, hbel⟩
      have := hown.out
      rw [List.take_length] at this
      rw [← HE.out]
      exact this.rebase Hb1.out.size (fun _ _ h => h)
end Go.Proofs.Ytahhaiomdjlckaa
