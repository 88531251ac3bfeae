/-
  The walks of repeated constraints, in the program: the closures by contracts of their own.
-/
import Derived.Test.YtahhaiomdjlckaaW9
import Derived.Test.YtahhaiomdjlckaaW11
import Derived.Deep.RegionLaw
import Derived.Deep.AppendLies
namespace Go.Proofs.Ytahhaiomdjlckaa
set_option linter.unusedVariables false
set_option linter.unusedSimpArgs false
open Go.RowKit

/-- what holds between two visits of Twice: the two captured variables, the merged list. -/
structure TInv (w : World) (A : Option Addr) (c : Nat) (l : List It) (k : Nat) (W : World) : Prop where
  below : Below w.heap.size w W
  bl : W.heap[w.heap.size]? = some (.cells #[.slice A l.length c] 49 (0, 0))
  out : ∃ v, W.heap[w.heap.size + 1]? = some (.cells #[v] 55 (0, 0)) ∧ Owned RI 3 1 w W v (twc l k)
theorem TInv.next {w : World} {A : Option Addr} {c : Nat} {l : List It} {k : Nat} {W W' : World} (h : TInv w A c l k W) (hb : Below W.heap.size W W') : TInv w A c l k W' := by
  obtain ⟨v, h1, h2⟩ := h.out
  have k1 := lt_of_block h.bl
  have k2 := lt_of_block h1
  exact ⟨h.below.trans (hb.mono h.below.size), (hb.block _ k1).trans h.bl, v, (hb.block _ k2).trans h1, h2.below hb⟩

set_option maxRecDepth 100000 in
set_option maxHeartbeats 1000000 in
theorem tat_any {w : World} {A : Option Addr} {c : Nat} {l : List It} (hA : SlAt ItAt 3 w A l) (j k : Nat) (x : It) (hx : l[j]? = some x) (W : World) (hI : TInv w A c l k W) :
    Calls Try.prog 38 #[.int .i64 j, .pointer (some ⟨w.heap.size, 0, none⟩)] W fun e W' => ∃ B d, e = .returned (atv x.at_ B d) ∧ TmsAt w B x.at_.ts ∧ TInv w A c l k W' := by
  have hl := hA.1
  unfold maxLen at hl
  have hjl : j < l.length := (List.getElem?_eq_some_iff.1 hx).1
  obtain ⟨b, off, rfl, hblt, ⟨xi, xis⟩, ⟨x0, x0s⟩, B, d, x1, hB⟩ := hA.2 j x hx
  have HB := Lib.hid hB
  have hb0 : Below W.heap.size W (W.alloc (.cells #[.string ⟨#[]⟩, .slice none 0 0] 52)) := (Below.refl _ _).alloc (Nat.le_refl _) _
  have hbel := hI.below
  have p0 := (hbel.cell (p := ⟨b, off + j * 3 + 1, none⟩) hblt).trans x0
  have p1 := (hbel.cell (p := ⟨b, off + j * 3 + 1 + 1, none⟩) hblt).trans x1
  have hbW : b < W.heap.size := Nat.lt_of_lt_of_le hblt hbel.size
  have q0 := cell_of_one hI.bl
  have hlW := lt_of_block hI.bl
  have HI := Lib.hid hI
  clear hA hx hB hI x0 x1
  unfold atv
  go_enter Try.func38, Try.ntmps38
  go_wp2
  refine bodyPost_ret (v := .agg #[.string x.at_.nm, .slice B x.at_.ts.length d]) (by simp [results, Try.results38, go_sem]) rfl ⟨_, _, rfl, HB.out, ?_⟩
  exact HI.out.next ((Below.refl _ _).alloc (Nat.le_refl _) _)

theorem tpush {w W w1 : World} {A : Option Addr} {c : Nat} {l : List It} {k g cap : Nat} {x : Int} {v : Value} {css : List (List Value)} {cs : List Value} {o : Obj}
    (hbel : Below w.heap.size w W) (hbl : W.heap[w.heap.size]? = some (.cells #[.slice A l.length c] 49 (0, 0))) (hv1 : w1.heap[w.heap.size + 1]? = some (.cells #[v] 55 (0, 0)))
    (hown : w1.ownsRow w.heap.size 3 1 (.slice (some ⟨g, 0, none⟩) ((twc l k).length + 1) cap) ((twc l k).length + 1) (css.flatten ++ cs))
    (hg : ((W.alloc o).drew).grownBy w1 v.ownBlock) (hlt : ∀ k, v.ownBlock = some k → w.heap.size ≤ k ∧ k < W.heap.size) (hne : v.ownBlock ≠ some w.heap.size)
    (c1 : css.length = (twc l k).length) (c2 : ∀ c ∈ css, c.length = 1) (c3 : ∀ (j : Nat) (x : Int) (cs : List Value), (twc l k)[j]? = some x → css[j]? = some cs → RI w cs x) (hx : RI w cs x)
    (hm : twc l (k + 1) = twc l k ++ [x]) : TInv w A c l (k + 1) (w1.setCell ⟨w.heap.size + 1, 0, none⟩ (.slice (some ⟨g, 0, none⟩) ((twc l k).length + 1) cap)) := by
  have hsz := hbel.size
  have hc : cs.length = 1 := by obtain ⟨rfl, _⟩ := hx; rfl
  have hw1 : Below w.heap.size w w1 := Below.grown (hbel.trans (((Below.refl W.heap.size W).alloc (Nat.le_refl _) o).drew.mono hsz)) hg (by simp; omega) (fun g hg => (hlt g hg).1)
  have hown2 : Owned RI 3 1 w w1 (.slice (some ⟨g, 0, none⟩) ((twc l k).length + 1) cap) (twc l (k + 1)) := hm ▸ Owned.snoc c1 c2 c3 hx hc hown
  have hbl1 := out_kept hg hbl hne
  refine ⟨hw1.setCell (by simp) _, ?_, _, one_setCell hv1, ?_⟩
  · rw [Below.heap_setCell _ _ _ _ (by simp)]; exact hbl1
  · obtain ⟨ds, d1, d2, d3, d4⟩ := hown2
    exact ⟨ds, d1, d2, d3, ownsRow_setCell_other d4 (own_ne d4 hv1 (by decide)) _⟩

set_option maxRecDepth 100000 in
set_option maxHeartbeats 1000000 in
theorem tvisit_any {w : World} {A : Option Addr} {c : Nat} {l : List It} (hA : SlAt ItAt 3 w A l) (h60 : l.length ≤ 60) (k : Nat) (hk : k < l.length) (W : World) (hI : TInv w A c l k W) :
    Calls Try.prog 39 #[.int .i64 k, .bool (agn (l.map It.at_) k), .pointer (some ⟨w.heap.size + 1, 0, none⟩), .pointer (some ⟨w.heap.size, 0, none⟩)] W fun e W' => e = .returned (.tuple #[]) ∧ TInv w A c l (k + 1) W' := by
  obtain ⟨x, hx⟩ : ∃ x, l[k]? = some x := ⟨_, List.getElem?_eq_getElem hk⟩
  have hmrg : twc l (k + 1) = if agn (l.map It.at_) k then twc l k ++ [x.id] else twc l k := by simp only [twc, hx]; rfl
  cases hg : agn (l.map It.at_) k with
  | true =>
    obtain ⟨b, off, rfl, hblt, ⟨x0, x0s⟩, _⟩ := hA.2 k x hx
    obtain ⟨v, hv, css, c1, c2, c3, hrow⟩ := hI.out
    have hbel := hI.below
    have hbl := hI.bl
    have p0 := (hbel.cell (p := ⟨b, off + k * 3, none⟩) hblt).trans x0
    have hbW : b < W.heap.size := Nat.lt_of_lt_of_le hblt hbel.size
    have q0 := cell_of_one hbl
    have r0 := cell_of_one hv
    have hlv := lt_of_block hv
    obtain ⟨i0, hi, hz0, hz1, hz2⟩ := info_parts Try.infoInt
    have hml := twc_len l k
    rw [hg, if_pos rfl] at hmrg
    have hbase : w.heap.size ≤ (W.alloc (.cells #[.int .i64 x.id] 3)).drew.heap.size := by have := hbel.size; simp; omega
    have hne := own_ne hrow hv (by decide)
    have Hrow := Lib.hid hrow
    have Hm := Lib.hid hmrg
    have C1 := Lib.hid c1
    have C2 := Lib.hid c2
    have C3 := Lib.hid c3
    have Hbl := Lib.hid hbl
    have Hv := Lib.hid hv
    clear hI hA hx hg hmrg hrow hbl hv c1 c2 c3 x0
    go_enter Try.func39, Try.ntmps39
    go_wp2
    go_region_law ((refine step_append_lies _ (by rfl) _ _ _ (by rfl) w.heap.size 3 i0 _ 1 8 Try.underlying55 hi hz0 hz1 hz2 rfl (by decide) v (twc l k).length css.flatten (by rfl) ((Hrow.out.alloc _).drew) ⟨W.heap.size, 0, none⟩ 1 1 [.int .i64 x.id] (by rfl) (by rfl) (World.news_of_block (cs := #[.int .i64 x.id]) (t := 3) (fr := (0, 0)) (heap_alloc_new W _)) (by simp [Value.oneCell']) (by omega) (by unfold maxLen; omega) (by omega) hbase (W.heap.size + 1) (by simp) ?_; intro g cap w1 hown1 hgrow hat hlt; have hv1 := out_kept hgrow Hv.out hne; have s0 := cell_of_one hv1; have s1 := free_of_one hv1; have Hv1 := Lib.hid hv1; have Hown1 := Lib.hid hown1; have Hgrow := Lib.hid hgrow; clear hv1 hown1 hgrow hat))
    all_goals (have hfin := Lib.hid (tpush hbel Hbl.out Hv1.out Hown1.out Hgrow.out (World.ownsRow.lt Hrow.out) (own_ne Hrow.out Hbl.out (by decide)) C1.out C2.out C3.out ⟨rfl, x0s⟩ Hm.out))
    all_goals go_wp2
    all_goals go_end0
    all_goals exact ⟨rfl, hfin.out⟩
  | false =>
    have HI := Lib.hid hI
    rw [hg, if_neg (by simp)] at hmrg
    have Hm := Lib.hid hmrg
    clear hI hA hx hg hmrg
    go_enter Try.func39, Try.ntmps39
    go_wp2
    go_end0
    exact ⟨rfl, HI.out.below, HI.out.bl, by rw [Hm.out]; exact HI.out.out⟩
end Go.Proofs.Ytahhaiomdjlckaa
