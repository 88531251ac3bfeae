/-
  The walk of the law SetsemMerges.
-/
import Derived.Test.YtahhaiomdjlckaaW26
import Derived.Test.YtahhaiomdjlckaaMrgPlain
namespace Go.Proofs.Ytahhaiomdjlckaa
set_option linter.unusedVariables false
set_option linter.unusedSimpArgs false
open Go.RowKit

def RIt (w : World) (cs : List Value) (x : It) : Prop := ∃ A c, cs = [.int .i64 x.id, .string x.at_.nm, .slice A x.at_.ts.length c] ∧ I64 x.id ∧ x.at_.nm.size ≤ maxLen ∧ TmsAt w A x.at_.ts
theorem RIt.at_ {w0 w : World} (hb : Below w0.heap.size w0 w) (b o : Nat) (cs : List Value) (x : It) (hc : ∀ j, j < 3 → w.cell? ⟨b, o + j, none⟩ = cs[j]?) (h : RIt w0 cs x) : ItAt w b o x := by
  obtain ⟨A, c, rfl, h1, h2, h3⟩ := h
  exact ⟨⟨hc 0 (by omega), h1⟩, ⟨hc 1 (by omega), h2⟩, A, c, hc 2 (by omega), h3.below hb⟩
theorem RIt.one {w : World} {cs : List Value} {x : It} (h : RIt w cs x) : ∀ u ∈ cs, u.oneCell' = true := by
  obtain ⟨A, c, rfl, _⟩ := h
  intro u hu
  simp only [List.mem_cons, List.not_mem_nil, or_false] at hu
  rcases hu with rfl | rfl | rfl <;> rfl
theorem Try.infoItem : (Try.prog.info? 54).map (fun i => (i.zero, i.size, i.bytes)) = some (some (.agg #[.int .i64 0, .string ⟨#[]⟩, .slice none 0 0]), 3, 48) := by kernel_rfl
/-- the constraints with identifiers. -/
def itemsU (l : List At) : Nat → List It
  | 0 => []
  | k + 1 => itemsU l k ++ ((l[k]?).map (fun x => ⟨2 * (k : Int) + 1, x⟩)).toList
theorem itemsU_succ {l : List At} {k : Nat} {x : At} (h : l[k]? = some x) : itemsU l (k + 1) = itemsU l k ++ [⟨2 * (k : Int) + 1, x⟩] := by simp [itemsU, h]
theorem itemsU_at (l : List At) : ∀ k, (itemsU l k).map It.at_ = l.take k
  | 0 => rfl
  | k + 1 => by
    simp only [itemsU, List.map_append, itemsU_at l k, List.take_add_one]
    cases l[k]? <;> rfl
theorem itemsU_len (l : List At) : ∀ k, k ≤ l.length → (itemsU l k).length = k := fun k h => by
  have := congrArg List.length (itemsU_at l k)
  rw [List.length_map, List.length_take] at this; omega
theorem items_all (l : List At) : (itemsU l l.length).map It.at_ = l := by rw [itemsU_at, List.take_length]

set_option maxRecDepth 100000 in
set_option maxHeartbeats 4000000 in
theorem setsemMerges_walk (l : List At) (A : Option Addr) (c : Nat) (w : World) (hA : SlAt AtAt 2 w A l) :
    Calls Try.prog 5 #[.slice A l.length c] w fun e w' => e = .returned (.bool true) ∧ Below w.heap.size w w' := by
  obtain ⟨i0, hi, hz0, hz1, hz2⟩ := info_parts Try.infoItem
  have hl := hA.1
  unfold maxLen at hl
  have Hi := Lib.hid hi
  have Hz0 := Lib.hid hz0
  have Hz1 := Lib.hid hz1
  have Hz2 := Lib.hid hz2
  have HA := Lib.hid hA
  clear hi hz0 hz1 hz2 hA
  go_enter Try.func5, Try.ntmps5
  go_wp2_with fail
  refine (greatAtoms_any l A c 300 w HA.out).mono ?_
  rintro e w1 ⟨⟨r, rfl⟩, hb1⟩
  cases r with
  | true =>
    go_wp2
    go_ret
    exact ⟨rfl, hb1⟩
  | false =>
    cases h60 : decide ((60 : Int) < (l.length : Int)) with
    | true =>
      go_wp2
      go_ret
      exact ⟨rfl, hb1⟩
    | false =>
      have hl60 : l.length ≤ 60 := by
        rw [decide_eq_false_iff_not] at h60; omega
      go_wp2
      go_loopw [3, 4] (fun v i wr => ∃ k : Nat, k ≤ l.length ∧ i = .int .i64 k ∧ Hid (Owned RIt 54 3 w wr v (itemsU l k)) ∧ Below w.heap.size w wr) (fun _ i _ => l.length - (intOf i).toNat)
      case atStart => exact ⟨0, Nat.zero_le _, rfl, Lib.hid Owned.nil, hb1⟩
      case round =>
        obtain ⟨k, hk, rfl, hown, hbel⟩ := hrel
        by_cases hlt : k < l.length
        · obtain ⟨x, hx⟩ : ∃ x, l[k]? = some x := ⟨_, List.getElem?_eq_getElem hlt⟩
          obtain ⟨b, off, rfl, hblt, ⟨p0, p0s⟩, B, d, p1, hB⟩ := HA.out.2 k x hx
          have q0 := (hbel.cell (p := ⟨b, off + k * 2, none⟩) hblt).trans p0
          have q1 := (hbel.cell (p := ⟨b, off + k * 2 + 1, none⟩) hblt).trans p1
          have hlb := Nat.lt_of_lt_of_le hblt hbel.size
          have Hx := Lib.hid (itemsU_succ hx)
          have hR : RIt w [.int .i64 (2 * (k : Int) + 1), .string x.nm, .slice B x.ts.length d] ⟨2 * (k : Int) + 1, x⟩ := ⟨B, d, rfl, (by show I64 (2 * (k : Int) + 1); unfold I64; omega), p0s, hB⟩
          have hbA : Below wr.heap.size wr (wr.alloc (.cells #[.int .i64 (2 * (k : Int) + 1), .string x.nm, .slice B x.ts.length d] 54)) := (Below.refl _ _).alloc (Nat.le_refl _) _
          have OwnT := Lib.hid (hown.out.below hbA)
          have SrcT := Lib.hid (Srcs.one_el (R := RIt) (sz := 3) (w0 := w) (w := wr.alloc (.cells #[.int .i64 (2 * (k : Int) + 1), .string x.nm, .slice B x.ts.length d] 54)) (x := ⟨2 * (k : Int) + 1, x⟩) (A := ⟨wr.heap.size, 0, none⟩) rfl hR.one hR (cells_at (heap_alloc_new _ _)))
          have HbelT := Lib.hid (hbel.trans (hbA.mono hbel.size))
          have hil := itemsU_len l k (by omega)
          have C1 : Hid ((itemsU l k).length + [(⟨2 * (k : Int) + 1, x⟩ : It)].length ≤ maxLen) := Lib.hid (by unfold maxLen; simp; omega)
          have C2 : Hid (((itemsU l k).length + [(⟨2 * (k : Int) + 1, x⟩ : It)].length) * 48 ≤ 140737488355328) := Lib.hid (by simp; omega)
          clear hx hbA hR p0 p1 hil hB hown
          go_wp2_with (at_builtin; refine wpList_append_sl (l2 := [(⟨2 * (k : Int) + 1, x⟩ : It)]) rfl _ _ 49 rfl i0 _ 48 Try.underlying49 Hi.out Hz0.out Hz1.out Hz2.out rfl (by decide) rfl OwnT.out rfl SrcT.out C1.out C2.out HbelT.out ?_; intro v4 w4 hown4 hb4 hg4; have Hown4 := Lib.hid hown4; have Hb4 := Lib.hid hb4; clear hown4 hb4 hg4)
          go_roundw
          case rel => exact ⟨k + 1, by omega, by go_num, Lib.hid (Hx.out ▸ Hown4.out), Hb4.out⟩
          case measure => simp [intOf]; omega
        · obtain rfl : k = l.length := by omega
          obtain ⟨IA, Ic, rfl, hits⟩ := hown.out.form (RAt := ItAt) (by decide) (fun b o cs x _ hc hr => RIt.at_ hbel b o cs x hc hr)
          have hil := itemsU_len l l.length (Nat.le_refl _)
          rw [hil]
          have Hits := Lib.hid hits
          have HbW := Lib.hid hbel
          clear hown hits hbel
          go_wp2_with fail
          obtain ⟨its, hits⟩ : ∃ its, its = itemsU l l.length := ⟨_, rfl⟩
          have hmap : its.map It.at_ = l := by rw [hits]; exact items_all l
          rw [← hits] at Hits hil
          obtain ⟨T, hT⟩ : ∃ T, T = twc its its.length := ⟨_, rfl⟩
          obtain ⟨M, hM⟩ : ∃ M, M = mrg l l.length := ⟨_, rfl⟩
          have htm : T.length + M.length = l.length := by
            have := twc_mrg its its.length (Nat.le_refl _)
            rw [hmap, ← hT, hil, ← hM] at this; exact this
          have HM := Lib.hid hM
          have hMM : (mrg M M.length).length = M.length := by rw [hM]; exact mrg_mrg l
          have HMM := Lib.hid hMM
          have h0 := twice_any its IA Ic wr Hits.out (by omega)
          rw [← hT, hil] at h0
          have hrt := fun W (h : SlAt ItAt 3 W IA its) => rtwice_any its IA Ic W h (by omega)
          rw [← hT, hil] at hrt
          have Hrt := Lib.hid hrt
          have hm0 := fun W (h : SlAt AtAt 2 W A l) => merge_any l A c W h (by omega)
          have hrm := fun W (h : SlAt AtAt 2 W A l) => rmerge_any l A c W h (by omega)
          rw [← hM] at hm0 hrm
          have Hm0 := Lib.hid hm0
          have Hrm := Lib.hid hrm
          have HL : ((T.length : Int) + (M.length : Int) != (l.length : Int)) = false := by simp only [bne_eq_false_iff_eq]; omega
          clear hits hmap hT hM hMM hrt hm0 hrm
          refine h0.mono ?_
          rintro e w2 ⟨v2, rfl, hown2, hb2⟩
          obtain ⟨TA, Tc, rfl, hst⟩ := hown2.form (RAt := IntAt) (by decide) (fun b o cs x _ hc hr => RI.at_ b o cs x hc hr)
          have Hst := Lib.hid hst
          have Hits2 := Lib.hid (Hits.out.below ItAt.stable hb2)
          have Hb2 := Lib.hid (HbW.out.trans (hb2.mono HbW.out.size))
          clear h0 hst hown2 hb2
          go_wp2_with fail
          refine (Hm0.out w2 (HA.out.below AtAt.stable Hb2.out)).mono ?_
          rintro e w3 ⟨v3, rfl, hown3, hb3⟩
          obtain ⟨MA, Mc, rfl, hsm⟩ := hown3.form (RAt := AtAt) (by decide) (fun b o cs x _ hc hr => RA.at_ hb3 b o cs x hc hr)
          have Hsm := Lib.hid hsm
          have Hst3 := Lib.hid (Hst.out.below IntAt.stable hb3)
          have Hits3 := Lib.hid (Hits2.out.below ItAt.stable hb3)
          have Hb3 := Lib.hid (Hb2.out.trans (hb3.mono Hb2.out.size))
          clear hsm hown3 hb3
          go_wp2_with fail
          refine (Hrt.out w3 Hits3.out).mono ?_
          rintro e w4 ⟨v4, rfl, hown4, hb4⟩
          obtain ⟨TA', Tc', rfl, hst'⟩ := hown4.form (RAt := IntAt) (by decide) (fun b o cs x _ hc hr => RI.at_ b o cs x hc hr)
          have h0 := Lib.hid (sameInts_any T TA TA' Tc Tc' w4 (Hst3.out.below IntAt.stable hb4) hst')
          have Hsm4 := Lib.hid (Hsm.out.below AtAt.stable hb4)
          have Hb4 := Lib.hid (Hb3.out.trans (hb4.mono Hb3.out.size))
          clear hst' hown4 hb4
          go_wp2_with fail
          refine h0.out.mono ?_
          rintro e w5 ⟨rfl, n5, hw5⟩
          have hb5 : Below w4.heap.size w4 w5 := by rw [hw5]; exact below_drewN (Below.refl _ _) _
          have Hsm5 := Lib.hid (Hsm4.out.below AtAt.stable hb5)
          have Hb5 := Lib.hid (Hb4.out.trans (hb5.mono Hb4.out.size))
          clear hb5 hw5 h0
          go_wp2_with fail
          refine (Hrm.out w5 (HA.out.below AtAt.stable Hb5.out)).mono ?_
          rintro e w6 ⟨v6, rfl, hown6, hb6⟩
          obtain ⟨MA', Mc', rfl, hsm'⟩ := hown6.form (RAt := AtAt) (by decide) (fun b o cs x _ hc hr => RA.at_ hb6 b o cs x hc hr)
          have h0 := Lib.hid (sameAtoms_any M MA MA' Mc Mc' w6 (Hsm5.out.below AtAt.stable hb6) hsm')
          have Hsm6 := Lib.hid (Hsm5.out.below AtAt.stable hb6)
          have Hb6 := Lib.hid (Hb5.out.trans (hb6.mono Hb5.out.size))
          clear hsm' hown6 hb6
          go_wp2_with fail
          refine h0.out.mono ?_
          rintro e w7 ⟨rfl, hb7⟩
          have Hsm7 := Lib.hid (Hsm6.out.below AtAt.stable hb7)
          have Hb7 := Lib.hid (Hb6.out.trans (hb7.mono Hb6.out.size))
          clear hb7 h0
          have h0 := merge_any M MA Mc w7 Hsm7.out (by omega)
          have H0 := Lib.hid h0
          clear h0
          go_wp2_with fail
          refine H0.out.mono ?_
          rintro e w8 ⟨v8, rfl, hown8, hb8⟩
          obtain ⟨XA, Xc, hX⟩ := hown8.shape
          rw [HMM.out] at hX
          subst hX
          have Hsm8 := Lib.hid (Hsm7.out.below AtAt.stable hb8)
          have Hb8 := Lib.hid (Hb7.out.trans (hb8.mono Hb7.out.size))
          clear hb8 hown8 H0
          go_wp2
          have HC := Lib.hid (fun (i : Nat) (x : At) (h : l[i]? = some x) => (by rw [HM.out]; exact cnt_mrg h : cnt M x M.length = 1))
          have hM60 : M.length ≤ 60 := by omega
          clear HL hil htm
          go_loopw [7, 8, 9] (fun i _ _ wr => ∃ k : Nat, k ≤ l.length ∧ i = .int .i64 k ∧ Below w8.heap.size w8 wr) (fun i _ _ _ => l.length - (intOf i).toNat)
          case atStart => exact ⟨0, Nat.zero_le _, rfl, Below.refl _ _⟩
          case round =>
            obtain ⟨i, hi', rfl, hb9⟩ := hrel
            have Hsm9 := Lib.hid (Hsm8.out.below AtAt.stable hb9)
            have Hb9 := Lib.hid (Hb8.out.trans (hb9.mono Hb8.out.size))
            by_cases hil : i < l.length
            · obtain ⟨x, hx⟩ : ∃ x, l[i]? = some x := ⟨_, List.getElem?_eq_getElem hil⟩
              have HCx := Lib.hid (HC.out i x hx)
              obtain ⟨b, off, rfl, hblt, ⟨x0, x0s⟩, B, d, x1, hB⟩ := (HA.out.below AtAt.stable Hb9.out).2 i x hx
              have HB := Lib.hid hB
              clear hx hB
              obtain ⟨wo, hwo⟩ : ∃ W, W = wr := ⟨_, rfl⟩
              subst hwo
              have Hs9 := Lib.hid hb9
              clear hb9
              go_wp2
              go_loopw [8, 9] (fun n j wr' => ∃ q : Nat, q ≤ M.length ∧ j = .int .i64 q ∧ n = .int .i64 (cnt M x q) ∧ Below wo.heap.size wo wr') (fun _ j _ => M.length - (intOf j).toNat)
              case atStart => exact ⟨0, Nat.zero_le _, rfl, rfl, Below.refl _ _⟩
              case round =>
                obtain ⟨q, hq, rfl, rfl, hbq⟩ := hrel
                have hcq : cnt M x q ≤ q := by
                  unfold cnt
                  exact Nat.le_trans (List.length_filter_le _ _) (by rw [List.length_take]; omega)
                by_cases hqM : q < M.length
                · obtain ⟨y, hy⟩ : ∃ y, M[q]? = some y := ⟨_, List.getElem?_eq_getElem hqM⟩
                  have hcs := cnt_succ (x := x) hy
                  obtain ⟨b', off', rfl, hblt', ⟨y0, y0s⟩, B', d', y1, hB'⟩ := (Hsm9.out.below AtAt.stable hbq).2 q y hy
                  have p0 := (hbq.cell (p := ⟨b, off + i * 2, none⟩) hblt).trans x0
                  have p1 := (hbq.cell (p := ⟨b, off + i * 2 + 1, none⟩) hblt).trans x1
                  have hbr := Nat.lt_of_lt_of_le hblt hbq.size
                  have hdr : Below wr.heap.size wr wr.drew := (Below.refl _ _).drew
                  have h0 := rsameA_any y x B' B d' d wr.drew (TmsAt.below hB' hdr) (TmsAt.below HB.out (hbq.trans (hdr.mono hbq.size)))
                  unfold atv at h0
                  have Hbq := Lib.hid hbq
                  cases hs : sameA y x with
                  | true =>
                    rw [hs] at h0 hcs
                    have hcall := Lib.hid h0
                    have Hcs := Lib.hid hcs
                    clear hy hB' h0 hs hcs hbq
                    go_wp2
                    go_still_tail 8, (by kernel_rfl)
                    change wpList _ _ _ _ _ wr.drew
                    go_wp2_with (go_at_call 24; refine hcall.out.mono ?_; rintro e w9 ⟨rfl, hb10⟩)
                    go_roundw
                    case rel => exact ⟨q + 1, by omega, by go_num, by rw [Hcs.out]; go_num, Hbq.out.trans ((hdr.trans hb10).mono Hbq.out.size)⟩
                    case measure => simp [intOf]; omega
                  | false =>
                    rw [hs] at h0 hcs
                    have hcall := Lib.hid h0
                    have Hcs := Lib.hid hcs
                    clear hy hB' h0 hs hcs hbq
                    go_wp2
                    go_still_tail 8, (by kernel_rfl)
                    change wpList _ _ _ _ _ wr.drew
                    go_wp2_with (go_at_call 24; refine hcall.out.mono ?_; rintro e w9 ⟨rfl, hb10⟩)
                    go_roundw
                    case rel => exact ⟨q + 1, by omega, by go_num, by rw [Hcs.out]; simp, Hbq.out.trans ((hdr.trans hb10).mono Hbq.out.size)⟩
                    case measure => simp [intOf]; omega
                · obtain rfl : q = M.length := by omega
                  have hc1 : ((cnt M x M.length : Nat) : Int) = 1 := by rw [HCx.out]; rfl
                  rw [hc1]
                  clear hc1 hcq
                  go_wp2
                  go_roundw
                  case rel => exact ⟨i + 1, by omega, by go_num, Hs9.out.trans (hbq.mono Hs9.out.size)⟩
                  case measure => simp [intOf]; omega
            · clear hb9
              go_wp2_with fail
              refine (live_any _).mono ?_
              rintro e w10 ⟨rfl, hb10⟩
              go_wp2
              go_ret
              exact ⟨rfl, Hb9.out.trans (hb10.mono Hb9.out.size)⟩
end Go.Proofs.Ytahhaiomdjlckaa
