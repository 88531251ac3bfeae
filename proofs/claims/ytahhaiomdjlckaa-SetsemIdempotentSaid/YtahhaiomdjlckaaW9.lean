/-
  The walk of repeated constraints, in the reference.
-/
import Derived.Test.YtahhaiomdjlckaaW8
namespace Go.Proofs.Ytahhaiomdjlckaa
set_option linter.unusedVariables false
set_option linter.unusedSimpArgs false
open Go.RowKit

theorem Try.infoInt : (Try.prog.info? 3).map (fun i => (i.zero, i.size, i.bytes)) = some (some (.int .i64 0), 1, 8) := by kernel_rfl

set_option maxRecDepth 100000 in
set_option maxHeartbeats 2000000 in
theorem rtwice_any (l : List It) (A : Option Addr) (c : Nat) (w : World) (hA : SlAt ItAt 3 w A l) (h60 : l.length ≤ 60) :
    Calls Try.prog 21 #[.slice A l.length c] w fun e w' => ∃ v, e = .returned v ∧ Owned RI 3 1 w w' v (twc l l.length) ∧ Below w.heap.size w w' := by
  obtain ⟨i0, hi, hz0, hz1, hz2⟩ := info_parts Try.infoInt
  have Hi := Lib.hid hi
  have Hz0 := Lib.hid hz0
  have Hz1 := Lib.hid hz1
  have Hz2 := Lib.hid hz2
  clear hi hz0 hz1 hz2
  have HA := Lib.hid hA
  clear hA
  go_enter Try.func21, Try.ntmps21
  go_wp2
  go_loopw [3, 4, 5, 6] (fun v i _ _ wr => ∃ k : Nat, k ≤ l.length ∧ i = .int .i64 k ∧ Hid (Owned RI 3 1 w wr v (twc l k)) ∧ Below w.heap.size w wr) (fun _ i _ _ _ => l.length - (intOf i).toNat)
  case atStart => exact ⟨0, Nat.zero_le _, rfl, Lib.hid Owned.nil, Below.refl _ _⟩
  case round =>
    obtain ⟨i, hil, rfl, hown, hbel⟩ := hrel
    by_cases hlt : i < l.length
    · obtain ⟨x, hx⟩ : ∃ x, l[i]? = some x := ⟨_, List.getElem?_eq_getElem hlt⟩
      obtain ⟨b, off, rfl, hblt, ⟨xi, xis⟩, ⟨x0, x0s⟩, B, d, x1, hB⟩ := HA.out.2 i x hx
      have HB := Lib.hid hB
      clear hB
      have Hagn := Lib.hid (agn_at (l := l.map It.at_) (i := i) (x := x.at_) (by simp [hx]))
      have Hx := Lib.hid hx
      clear hx
      go_wp2
      obtain ⟨wo, hwo⟩ : ∃ W, W = wr := ⟨_, rfl⟩
      subst hwo
      go_loopw [5, 6] (fun g j wr' => ∃ k : Nat, k ≤ i ∧ j = .int .i64 k ∧ g = .bool (((l.map It.at_).take k).any (fun y => sameA y x.at_)) ∧ Below wo.heap.size wo wr') (fun _ j _ => i - (intOf j).toNat)
      case atStart => exact ⟨0, Nat.zero_le _, rfl, rfl, Below.refl _ _⟩
      case round =>
        obtain ⟨k, hki, rfl, rfl, hb⟩ := hrel
        have hbw := hbel.trans (hb.mono hbel.size)
        by_cases hlt' : k < i
        · obtain ⟨y, hy⟩ : ∃ y, l[k]? = some y := ⟨_, List.getElem?_eq_getElem (by omega)⟩
          obtain ⟨b', off', hbo, hblt', ⟨yi, yis⟩, ⟨y0, y0s⟩, B', d', y1, hB'⟩ := HA.out.2 k y hy
          simp only [Option.some.injEq, Addr.mk.injEq, and_true] at hbo
          obtain ⟨rfl, rfl⟩ := hbo
          have Hy := Lib.hid (any_take_succ (l := l.map It.at_) (k := k) (y := y.at_) (x := x.at_) (by simp [hy]))
          have hkl : k < l.length := by omega
          clear hy
          have p0 := (hbw.cell (p := ⟨b, off + i * 3 + 1, none⟩) hblt).trans x0
          have p1 := (hbw.cell (p := ⟨b, off + i * 3 + 1 + 1, none⟩) hblt).trans x1
          have q0 := (hbw.cell (p := ⟨b, off + k * 3 + 1, none⟩) hblt).trans y0
          have q1 := (hbw.cell (p := ⟨b, off + k * 3 + 1 + 1, none⟩) hblt).trans y1
          have hbr : b < wr.heap.size := Nat.lt_of_lt_of_le hblt hbw.size
          have hdr : Below wr.heap.size wr wr.drew := (Below.refl _ _).drew
          have h0 := rsameA_any y.at_ x.at_ B' B d' d wr.drew (TmsAt.below hB' (hbw.trans (hdr.mono hbw.size))) (TmsAt.below HB.out (hbw.trans (hdr.mono hbw.size)))
          unfold atv at h0
          have hcall := Lib.hid h0
          clear h0 hB'
          have hbs := hb.size
          cases hg : ((l.map It.at_).take k).any (fun y => sameA y x.at_) with
          | true =>
            have Hg := Lib.hid hg
            clear hg
            have hnx : ((l.map It.at_).take (k + 1)).any (fun y => sameA y x.at_) = true := Hy.out.trans (by rw [Hg.out]; rfl)
            have Hnx := Lib.hid hnx
            clear hnx
            go_wp2
            go_quiet (fail)
            go_wp2
            go_roundw
            case rel => exact ⟨k + 1, by omega, by go_num, by rw [Hnx.out], below_drewN hb _⟩
            case measure => simp [intOf]; omega
          | false =>
            have Hg := Lib.hid hg
            clear hg
            go_wp2
            go_still_tail 12, (by kernel_rfl)
            change wpList _ _ _ _ _ wr.drew
            go_wp2_with (go_at_call 24; refine hcall.out.mono ?_; rintro e w1 ⟨rfl, hb1⟩)
            go_roundw
            case rel => exact ⟨k + 1, by omega, by go_num, by rw [Hy.out, Hg.out]; rfl, hb.trans ((hdr.trans hb1).mono hbs)⟩
            case measure => simp [intOf]; omega
        · have hki2 : k = i := by omega
          subst hki2
          rw [← Hagn.out]
          have hown1 := hown.out.below hb
          have hmrg : twc l (k + 1) = if agn (l.map It.at_) k then twc l k ++ [x.id] else twc l k := by simp only [twc, Hx.out]; rfl
          clear hown
          cases hg : agn (l.map It.at_) k with
          | false =>
            rw [hg, if_neg (by simp)] at hmrg
            rw [← hmrg] at hown1
            have Hown := Lib.hid hown1
            clear hg hmrg hown1
            go_wp2
            go_roundw
            case rel => exact ⟨k + 1, by omega, by go_num, Hown, hbw⟩
            case measure => simp [intOf]; omega
          | true =>
            rw [hg, if_pos rfl] at hmrg
            obtain ⟨css, c1, c2, c3, hrow⟩ := hown1
            have pi := (hbw.cell (p := ⟨b, off + k * 3, none⟩) hblt).trans xi
            have p0 := (hbw.cell (p := ⟨b, off + k * 3 + 1, none⟩) hblt).trans x0
            have p1 := (hbw.cell (p := ⟨b, off + k * 3 + 1 + 1, none⟩) hblt).trans x1
            have hbr : b < wr.heap.size := Nat.lt_of_lt_of_le hblt hbw.size
            have hi := Hi.out
            have hz0 := Hz0.out
            have hz1 := Hz1.out
            have hz2 := Hz2.out
            have hml := twc_len l k
            have Hrow := Lib.hid hrow
            have Hmrg := Lib.hid hmrg
            have C1 := Lib.hid c1
            have C2 := Lib.hid c2
            have C3 := Lib.hid c3
            clear hg hmrg hrow c1 c2 c3
            go_wp2_with (at_builtin; refine wpList_append_own _ rfl _ _ 55 rfl w.heap.size 3 i0 _ 1 8 Try.underlying55 hi hz0 hz1 hz2 rfl (by decide) _ _ _ rfl (Hrow.out.alloc _) ⟨wr.heap.size, 0, none⟩ 1 1 [.int .i64 x.id] rfl rfl ?c1 ?c2 ?c3 ?c4 ?c5 ?_)
            case c1 => exact cells_at (heap_alloc_new _ _)
            case c2 => intro u hu; simp only [List.mem_cons, List.not_mem_nil, or_false] at hu; rw [hu]; rfl
            case c3 => unfold maxLen; omega
            case c4 => omega
            case c5 => have := hbw.size; simp; omega
            intro v2 w2 hown2 hg2 _
            have hlt2 := World.ownsRow.lt Hrow.out
            have hbel2 : Below w.heap.size w w2 := Below.grown (hbw.alloc hbw.size _) hg2 (by have := hbw.size; simp; omega) (fun g hg => (hlt2 g hg).1)
            have Hown2 : Hid (Owned RI 3 1 w w2 v2 (twc l (k + 1))) := Lib.hid (Hmrg.out ▸ Owned.snoc C1.out C2.out C3.out ⟨rfl, xis⟩ rfl hown2)
            clear hown2 hg2 hlt2 hi hz0 hz1 hz2
            go_wp2
            go_roundw
            case rel => exact ⟨k + 1, by omega, by go_num, Hown2, hbel2⟩
            case measure => simp [intOf]; omega
    · go_wp2
      go_ret
      have : i = l.length := by omega
      subst this
      exact ⟨_, rfl, hown.out, hbel⟩
end Go.Proofs.Ytahhaiomdjlckaa
