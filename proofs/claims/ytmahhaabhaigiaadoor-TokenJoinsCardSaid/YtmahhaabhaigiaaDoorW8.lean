/-
  The walks of the statements TokenNext, TokenScan, TokenSymbols.
-/
import Derived.Test.YtmahhaabhaigiaaDoorW7
namespace Go.Proofs.YtmahhaabhaigiaaDoor
open Go.RowKit

/-- a block that the call has laid lies still behind a later call. -/
theorem kept_cells {w1 w2 : World} {cs : Array Value} {t : TypeId} (hb : Below (w1.alloc (.cells cs t)).heap.size (w1.alloc (.cells cs t)) w2) : ∀ j, w2.cell? ⟨w1.heap.size, j, none⟩ = cs[j]? := by
  intro j
  refine (hb.cell (p := ⟨w1.heap.size, j, none⟩) (by simp)).trans ?_
  exact cell_of_row _ _ _ _ _ _ (heap_alloc_new _ _)

set_option maxHeartbeats 1000000 in
theorem tokenNext_walk (s : ByteArray) (a : Int) (w : World) (hs : s.size ≤ maxLen) (htab : Tab w) :
    Calls Tryd.prog 3 #[.string s, .int .i64 a] w fun e w' => e = .returned (.bool true) ∧ Below w.heap.size w w' := by
  have Hgr := Lib.hid (great_any s)
  by_cases hg : (3000 < s.size ∧ s.size ≤ 16384) ∨ 20000 < s.size
  · rw [decide_eq_true hg] at Hgr
    clear hg
    go_enter Tryd.func3, Tryd.ntmps3
    go_wp2_with (go_at_call 9; refine (Hgr.out _).mono ?_; rintro e w' ⟨rfl, rfl⟩)
    go_ret
    exact ⟨rfl, Below.refl _ _⟩
  · rw [decide_eq_false hg] at Hgr
    clear hg
    have Hn := Lib.hid (fun w => nextR_any s a w hs)
    have Hr := Lib.hid (fun w => rnextR_any s a w hs)
    generalize nextR s a = r at *
    have hpos := htab.pos
    go_enter Tryd.func3, Tryd.ntmps3
    go_wp2_with (first | (go_at_call 9; refine (Hgr.out _).mono ?_; rintro e w' ⟨rfl, rfl⟩) | (go_at_call 10; refine (Hn.out _ htab).mono ?_; rintro e w1 ⟨rfl, hb⟩; unfold NR.v tri tokv))
    refine (Hr.out _).mono ?_
    rintro e w2 ⟨rfl, hb2⟩
    unfold NR.v tri tokv
    have hk := kept_cells hb2
    have c0 := hk 0
    have c1 := hk 1
    have c2 := hk 2
    simp at c0 c1 c2
    have hb3 := (hb.alloc hb.size _).trans (hb2.mono (by have := hb.size; simp; omega))
    have hlt12 : w1.heap.size < w2.heap.size := by have := hb2.size; simp at this; omega
    have Hb3 := Lib.hid hb3
    have htab2 : Tab (w2.alloc (.cells #[.int .i64 r.kd, .int .i64 r.at_, .string r.tx] 24)) := htab.below hpos (hb3.alloc hb3.size _)
    clear hb hb2 hk hb3 htab
    go_wp2_with (go_at_call 12; refine (live_any _ htab2).mono ?_; rintro e w3 ⟨rfl, hb4⟩)
    go_ret
    exact ⟨rfl, (Hb3.out.alloc Hb3.out.size _).trans (hb4.mono (by have := Hb3.out.size; simp; omega))⟩

set_option maxHeartbeats 1000000 in
theorem tokenScan_walk (s : ByteArray) (w : World) (hs : s.size ≤ maxLen) (htab : Tab w) :
    Calls Tryd.prog 4 #[.string s] w fun e w' => e = .returned (.bool true) ∧ Below w.heap.size w w' := by
  have Hgr := Lib.hid (great_any s)
  by_cases hg : (3000 < s.size ∧ s.size ≤ 16384) ∨ 20000 < s.size
  · rw [decide_eq_true hg] at Hgr
    clear hg
    go_enter Tryd.func4, Tryd.ntmps4
    go_wp2_with (go_at_call 9; refine (Hgr.out _).mono ?_; rintro e w' ⟨rfl, rfl⟩)
    go_ret
    exact ⟨rfl, Below.refl _ _⟩
  · rw [decide_eq_false hg] at Hgr
    have h2 : s.size ≤ 20000 := by omega
    clear hg
    have Hn := Lib.hid (fun w => scan_any s w hs)
    have Hr := Lib.hid (fun w => rscan_any s w h2)
    generalize scanR s = r at *
    obtain ⟨l, nx, er⟩ := r
    have hpos := htab.pos
    go_enter Tryd.func4, Tryd.ntmps4
    go_wp2_with (go_at_call 9; refine (Hgr.out _).mono ?_; rintro e w' ⟨rfl, rfl⟩)
    refine (Hn.out _ htab).mono ?_
    rintro e w1 ⟨v, rfl, hown, hb⟩
    obtain ⟨A, c, rfl, ht, hl⟩ := hown.form
    go_wp2_with fail
    refine (Hr.out _).mono ?_
    rintro e w2 ⟨v, rfl, hown2, hb2⟩
    obtain ⟨A2, c2, rfl, ht2, _⟩ := hown2.form
    have hb3 := Lib.hid (hb.trans (hb2.mono hb.size))
    have ht3 := ht.below hb2
    have Hsame := Lib.hid (fun c c' => same_any A A2 c c' l w2 ht3 ht2 hl)
    have htab2 := htab.below hpos hb3.out
    clear ht3 ht2 ht hb hb2 hown hown2
    go_wp2_with fail
    refine (Hsame.out _ _).mono ?_
    rintro e w3 ⟨rfl, n, rfl⟩
    have htab3 : Tab (w2.drewN n) := htab2
    go_wp2_with (go_at_call 12; refine (live_any _ htab3).mono ?_; rintro e w3 ⟨rfl, hb4⟩)
    go_ret
    exact ⟨rfl, hb3.out.trans (Below.mono (Below.trans (below_drewN (Below.refl _ _) n) hb4) hb3.out.size)⟩
end Go.Proofs.YtmahhaabhaigiaaDoor
