/-
  The walk of the statement TokenCovers.
-/
import Derived.Test.YtmahhaabhaigiaaDoorCovPlain
namespace Go.Proofs.YtmahhaabhaigiaaDoor
open Go.RowKit

theorem gap_quiet {s : ByteArray} {a b : Int} {w : World} (hs : s.size ≤ maxLen) (h : gapB s a b = true) :
    Calls Tryd.prog 16 #[.string s, .int .i64 a, .int .i64 b] w fun e w' => e = .returned (.bool true) ∧ w' = w := by
  have := gap_any s a b w hs
  rw [h] at this
  exact this.mono fun _ _ ⟨h1, h2⟩ => ⟨h1, h2.symm⟩

set_option maxRecDepth 100000 in
set_option maxHeartbeats 2000000 in
theorem tokenCovers_walk (s : ByteArray) (w : World) (hs : s.size ≤ maxLen) (htab : Tab w) :
    Calls Tryd.prog 5 #[.string s] w fun e w' => e = .returned (.bool true) ∧ Below w.heap.size w w' := by
  have Hgr := Lib.hid (great_any s)
  have hpos := htab.pos
  by_cases hg : (3000 < s.size ∧ s.size ≤ 16384) ∨ 20000 < s.size
  · rw [decide_eq_true hg] at Hgr
    clear hg
    go_enter Tryd.func5, Tryd.ntmps5
    go_wp2_with (first | (go_at_call 12; refine (live_any _ htab).mono ?_; rintro e w1 ⟨rfl, hb⟩) | (go_at_call 9; refine (Hgr.out _).mono ?_; rintro e w' ⟨rfl, rfl⟩))
    go_ret
    exact ⟨rfl, hb⟩
  · rw [decide_eq_false hg] at Hgr
    clear hg
    have Hsc := Lib.hid (fun w => scan_any s w hs)
    have Hcase := Lib.hid (scanR_cases s)
    generalize scanR s = R at *
    go_enter Tryd.func5, Tryd.ntmps5
    go_wp2_with (first | (go_at_call 12; refine (live_any _ htab).mono ?_; rintro e w1 ⟨rfl, hb⟩) | (go_at_call 9; refine (Hgr.out _).mono ?_; rintro e w' ⟨rfl, rfl⟩))
    have htab1 := htab.below hpos hb
    refine (Hsc.out _ htab1).mono ?_
    rintro e w2 ⟨v, rfl, hown, hb2⟩
    have hb3 := Lib.hid (hb.trans (hb2.mono hb.size))
    have htab2 := htab1.below (Nat.lt_of_lt_of_le hpos hb.size) hb2
    have hsz2 := hb3.out.size
    clear hb hb2 htab htab1
    rcases Hcase.out with ⟨l, rfl, hch⟩ | ⟨nx, er, rfl, he, hn0, hn1⟩
    · obtain ⟨A, c, rfl, ht, hl⟩ := hown.form
      dsimp only at hl ht
      obtain ⟨rl, hrl, hk0, hl0⟩ := chain_last hch
      obtain ⟨g, rfl, hg, c0, hdum1, hdum2⟩ := ht _ rl hrl
      clear hdum1 hdum2
      rw [hk0] at c0
      have hcov := CovAt.start hch
      have Ht := Lib.hid ht
      have hll := hl
      unfold maxLen at hl
      have hl1 : ((l.length : Int) == 0) = false := beq_eq_false_iff_ne.2 (by omega)
      clear hrl hk0 ht hown hch
      go_wp2
      clear c0
      go_loopw [6, 7] (fun x i wr => ∃ k a : Nat, CovAt s l k a ∧ i = .int .i64 k ∧ x = .int .i64 a ∧ Below w2.heap.size w2 wr) (fun _ i _ => l.length - (intOf i).toNat)
      case atStart => exact ⟨0, 0, hcov, rfl, rfl, Below.refl _ _⟩
      case round =>
        obtain ⟨k, a, hk, rfl, rfl, hbel⟩ := hrel
        have hkle := hk.1
        by_cases hlt : k < l.length
        · obtain ⟨kd, p, tx, hn, hlk, g1, g2, g3, g4, g5, g6, hk2⟩ := hk.step hlt
          have Hn := Lib.hid (fun w => nextR_any s a w hs)
          rw [hn] at Hn
          have hs16 : s.size ≤ 16384 := g3
          have htab3 := htab2.below (by omega) hbel
          have hbsz := hbel.size
          clear hn hk
          obtain ⟨g', hge, _, d0, d1, d2⟩ := Ht.out k _ hlk
          obtain rfl : g = g' := by injection hge with h; injection h
          have hcell := fun j => hbel.cell (p := ⟨g, j, none⟩) hg
          rw [← hcell] at d0 d1 d2
          go_wp2_with fail
          refine (Hn.out _ htab3).mono ?_
          rintro e w3 ⟨rfl, hb⟩
          unfold NR.v tri tokv
          have hgr : g < wr.heap.size := by omega
          have hcell2 := fun j => hb.cell (p := ⟨g, j, none⟩) hgr
          rw [← hcell2] at d0 d1 d2
          have hb3s := hb.size
          have hg3 : g < w3.heap.size := by omega
          have Hb4 := Lib.hid ((hbel.trans (hb.mono hbsz)).alloc (by omega) (.cells #[.int .i64 kd, .int .i64 p, .string tx] 24))
          clear hcell hcell2 hge hbel hb htab3 hlk Hn
          go_wp2_with fail
          have e1 : IntKind.i64.wrap ((s.size : Int) - p) = (s.size : Int) - p := IntWalk.i64_in _ (by omega)
          have e2 : IntKind.i64.wrap ((p : Int) + tx.size) = (p : Int) + tx.size := IntWalk.i64_in _ (by omega)
          have e3 : ((p : Int) + tx.size).toNat = p + tx.size := by omega
          have hd1 : decide ((s.size : Int) - p < tx.size) = false := by simp; omega
          have hz : ((tx.size : Int) == 0) = (kd == 0) := by
            rw [Bool.eq_iff_iff, beq_iff_eq, beq_iff_eq]
            exact ⟨fun h => g6.2 (by omega), fun h => by have := g6.1 h; omega⟩
          clear g6
          go_quiet ((go_at_call 16; exact Calls.quiet_of_same (gap_quiet hs g4)))
          clear e1 e2 e3 hd1 hz
          go_wp2
          go_roundw
          case rel => exact ⟨k + 1, p + tx.size, hk2, by go_num, by go_num, below_drewN Hb4.out _⟩
          case measure => simp [intOf]; omega
        · have hae := hk.end_ hlt
          go_wp2
          go_ret
          exact ⟨ret_bool (by simp), hb3.out.trans (hbel.mono hsz2)⟩
    · obtain ⟨A, c, rfl, ht, hl⟩ := hown.form
      have he1 : (er != 0) = true := by simp [he]
      clear he
      go_wp2
      go_ret
      exact ⟨rfl, hb3.out⟩
end Go.Proofs.YtmahhaabhaigiaaDoor
