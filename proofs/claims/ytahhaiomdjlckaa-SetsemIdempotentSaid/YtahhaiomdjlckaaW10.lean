/-
  The walks of merging, in the program: the closures by contracts of their own.
-/
import Derived.Test.YtahhaiomdjlckaaW8
import Derived.OneCell
import Derived.Deep.RegionLaw
import Derived.Deep.AppendLies
namespace Go.Proofs.Ytahhaiomdjlckaa
set_option linter.unusedVariables false
set_option linter.unusedSimpArgs false
open Go.RowKit

/-- what holds between two visits of Merge: the two captured variables, the merged list. -/
structure MInv (w : World) (A : Option Addr) (c : Nat) (l : List At) (k : Nat) (W : World) : Prop where
  below : Below w.heap.size w W
  bl : W.heap[w.heap.size]? = some (.cells #[.slice A l.length c] 22 (0, 0))
  out : ∃ v, W.heap[w.heap.size + 1]? = some (.cells #[v] 22 (0, 0)) ∧ Owned RA 52 2 w W v (mrg l k)
theorem MInv.next {w : World} {A : Option Addr} {c : Nat} {l : List At} {k : Nat} {W W' : World} (h : MInv w A c l k W) (hb : Below W.heap.size W W') : MInv w A c l k W' := by
  obtain ⟨v, h1, h2⟩ := h.out
  have k1 := lt_of_block h.bl
  have k2 := lt_of_block h1
  exact ⟨h.below.trans (hb.mono h.below.size), (hb.block _ k1).trans h.bl, v, (hb.block _ k2).trans h1, h2.below hb⟩

set_option maxRecDepth 100000 in
set_option maxHeartbeats 1000000 in
theorem mat_any {w : World} {A : Option Addr} {c : Nat} {l : List At} (hA : SlAt AtAt 2 w A l) (j k : Nat) (x : At) (hx : l[j]? = some x) (W : World) (hI : MInv w A c l k W) :
    Calls Try.prog 40 #[.int .i64 j, .pointer (some ⟨w.heap.size, 0, none⟩)] W fun e W' => ∃ B d, e = .returned (atv x B d) ∧ TmsAt w B x.ts ∧ MInv w A c l k W' := by
  have hl := hA.1
  unfold maxLen at hl
  have hjl : j < l.length := (List.getElem?_eq_some_iff.1 hx).1
  obtain ⟨b, off, rfl, hblt, ⟨x0, x0s⟩, B, d, x1, hB⟩ := hA.2 j x hx
  have HB := Lib.hid hB
  have hb0 : Below W.heap.size W (W.alloc (.cells #[.string ⟨#[]⟩, .slice none 0 0] 52)) := (Below.refl _ _).alloc (Nat.le_refl _) _
  have hbel := hI.below
  have p0 := (hbel.cell (p := ⟨b, off + j * 2, none⟩) hblt).trans x0
  have p1 := (hbel.cell (p := ⟨b, off + j * 2 + 1, none⟩) hblt).trans x1
  have hbW : b < W.heap.size := Nat.lt_of_lt_of_le hblt hbel.size
  have q0 := cell_of_one hI.bl
  have hlW := lt_of_block hI.bl
  have HI := Lib.hid hI
  clear hA hx hB hI x0 x1
  unfold atv
  go_enter Try.func40, Try.ntmps40
  go_wp2
  refine bodyPost_ret (v := .agg #[.string x.nm, .slice B x.ts.length d]) (by simp [results, Try.results40, go_sem]) rfl ⟨_, _, rfl, HB.out, ?_⟩
  exact HI.out.next ((Below.refl _ _).alloc (Nat.le_refl _) _)

theorem own_ne {w : World} {base : Nat} {e : TypeId} {sz : Nat} {v : Value} {n : Nat} {xs : List Value} (h : w.ownsRow base e sz v n xs) {b : Nat} {u : Value} {t : TypeId} (hb : w.heap[b]? = some (.cells #[u] t (0, 0))) (ht : t ≠ e) : v.ownBlock ≠ some b := by
  intro hv
  rcases h.2 with ⟨rfl, _⟩ | ⟨g, cap, cur, rfl, _, hh, _⟩
  · cases hv
  · simp only [Value.ownBlock, Option.some.injEq] at hv
    subst hv
    rw [hb] at hh
    simp only [Option.some.injEq, Obj.cells.injEq] at hh
    exact ht hh.2.1

theorem out_kept {W w1 : World} {v u : Value} {o : Obj} {b : Nat} {t : TypeId} (hg : ((W.alloc o).drew).grownBy w1 v.ownBlock) (hv : W.heap[b]? = some (.cells #[u] t (0, 0))) (hne : v.ownBlock ≠ some b) : w1.heap[b]? = some (.cells #[u] t (0, 0)) := by
  have hlt := lt_of_block hv
  have h1 : ((W.alloc o).drew).heap[b]? = W.heap[b]? := ((((Below.refl W.heap.size W).alloc (Nat.le_refl _) o).drew).block b hlt)
  rw [hg.block b (by simp; omega) (fun e => hne e.symm), h1]
  exact hv

theorem mpush {w W w1 : World} {A : Option Addr} {c : Nat} {l : List At} {k g cap : Nat} {x : At} {v : Value} {css : List (List Value)} {cs : List Value} {o : Obj}
    (hbel : Below w.heap.size w W) (hbl : W.heap[w.heap.size]? = some (.cells #[.slice A l.length c] 22 (0, 0))) (hv1 : w1.heap[w.heap.size + 1]? = some (.cells #[v] 22 (0, 0)))
    (hown : w1.ownsRow w.heap.size 52 2 (.slice (some ⟨g, 0, none⟩) ((mrg l k).length + 1) cap) ((mrg l k).length + 1) (css.flatten ++ cs))
    (hg : ((W.alloc o).drew).grownBy w1 v.ownBlock) (hlt : ∀ k, v.ownBlock = some k → w.heap.size ≤ k ∧ k < W.heap.size) (hne : v.ownBlock ≠ some w.heap.size)
    (c1 : css.length = (mrg l k).length) (c2 : ∀ c ∈ css, c.length = 2) (c3 : ∀ (j : Nat) (x : At) (cs : List Value), (mrg l k)[j]? = some x → css[j]? = some cs → RA w cs x) (hx : RA w cs x)
    (hm : mrg l (k + 1) = mrg l k ++ [x]) : MInv w A c l (k + 1) (w1.setCell ⟨w.heap.size + 1, 0, none⟩ (.slice (some ⟨g, 0, none⟩) ((mrg l k).length + 1) cap)) := by
  have hsz := hbel.size
  have hc : cs.length = 2 := by obtain ⟨_, _, rfl, _⟩ := hx; rfl
  have hw1 : Below w.heap.size w w1 := Below.grown (hbel.trans (((Below.refl W.heap.size W).alloc (Nat.le_refl _) o).drew.mono hsz)) hg (by simp; omega) (fun g hg => (hlt g hg).1)
  have hown2 : Owned RA 52 2 w w1 (.slice (some ⟨g, 0, none⟩) ((mrg l k).length + 1) cap) (mrg l (k + 1)) := hm ▸ Owned.snoc c1 c2 c3 hx hc hown
  have hbl1 := out_kept hg hbl hne
  refine ⟨hw1.setCell (by simp) _, ?_, _, one_setCell hv1, ?_⟩
  · rw [Below.heap_setCell _ _ _ _ (by simp)]; exact hbl1
  · obtain ⟨ds, d1, d2, d3, d4⟩ := hown2
    exact ⟨ds, d1, d2, d3, ownsRow_setCell_other d4 (own_ne d4 hv1 (by decide)) _⟩

set_option maxRecDepth 100000 in
set_option maxHeartbeats 1000000 in
theorem mvisit_any {w : World} {A : Option Addr} {c : Nat} {l : List At} (hA : SlAt AtAt 2 w A l) (h60 : l.length ≤ 60) (k : Nat) (hk : k < l.length) (W : World) (hI : MInv w A c l k W) :
    Calls Try.prog 41 #[.int .i64 k, .bool (agn l k), .pointer (some ⟨w.heap.size + 1, 0, none⟩), .pointer (some ⟨w.heap.size, 0, none⟩)] W fun e W' => e = .returned (.tuple #[]) ∧ MInv w A c l (k + 1) W' := by
  obtain ⟨x, hx⟩ : ∃ x, l[k]? = some x := ⟨_, List.getElem?_eq_getElem hk⟩
  have hmrg : mrg l (k + 1) = if agn l k then mrg l k else mrg l k ++ [x] := by simp only [mrg, hx]; rfl
  cases hg : agn l k with
  | true =>
    have HI := Lib.hid hI
    rw [hg, if_pos rfl] at hmrg
    have Hm := Lib.hid hmrg
    clear hI hA hx hg hmrg
    go_enter Try.func41, Try.ntmps41
    go_wp2
    go_end0
    exact ⟨rfl, HI.out.below, HI.out.bl, by rw [Hm.out]; exact HI.out.out⟩
  | false =>
    obtain ⟨b, off, rfl, hblt, ⟨x0, x0s⟩, B, d, x1, hB⟩ := hA.2 k x hx
    obtain ⟨v, hv, css, c1, c2, c3, hrow⟩ := hI.out
    have hbel := hI.below
    have hbl := hI.bl
    have p0 := (hbel.cell (p := ⟨b, off + k * 2, none⟩) hblt).trans x0
    have p1 := (hbel.cell (p := ⟨b, off + k * 2 + 1, none⟩) hblt).trans x1
    have hbW : b < W.heap.size := Nat.lt_of_lt_of_le hblt hbel.size
    have q0 := cell_of_one hbl
    have r0 := cell_of_one hv
    have hlv := lt_of_block hv
    obtain ⟨i0, hi, hz0, hz1, hz2⟩ := info_parts Try.infoAtom
    have hml := mrg_len l k
    rw [hg, if_neg (by simp)] at hmrg
    have hbase : w.heap.size ≤ (W.alloc (.cells #[.string x.nm, .slice B x.ts.length d] 52)).drew.heap.size := by have := hbel.size; simp; omega
    have hne := own_ne hrow hv (by decide)
    have HB := Lib.hid hB
    have Hrow := Lib.hid hrow
    have Hm := Lib.hid hmrg
    have C1 := Lib.hid c1
    have C2 := Lib.hid c2
    have C3 := Lib.hid c3
    have Hbl := Lib.hid hbl
    have Hv := Lib.hid hv
    clear hI hA hx hg hmrg hrow hbl hv c1 c2 c3 x0 x1 hB
    go_enter Try.func41, Try.ntmps41
    go_wp2
    go_region_law ((refine step_append_lies _ (by rfl) _ _ _ (by rfl) w.heap.size 52 i0 _ 2 40 Try.underlying22 hi hz0 hz1 hz2 rfl (by decide) v (mrg l k).length css.flatten (by rfl) ((Hrow.out.alloc _).drew) ⟨W.heap.size, 0, none⟩ 1 1 [.string x.nm, .slice B x.ts.length d] (by rfl) (by rfl) (World.news_of_block (cs := #[.string x.nm, .slice B x.ts.length d]) (t := 52) (fr := (0, 0)) (heap_alloc_new W _)) (by simp [Value.oneCell']) (by omega) (by unfold maxLen; omega) (by omega) hbase (W.heap.size + 1) (by simp) ?_; intro g cap w1 hown1 hgrow hat hlt; have hv1 := out_kept hgrow Hv.out hne; have s0 := cell_of_one hv1; have s1 := free_of_one hv1; have Hv1 := Lib.hid hv1; have Hown1 := Lib.hid hown1; have Hgrow := Lib.hid hgrow; clear hv1 hown1 hgrow hat))
    all_goals (have hfin := Lib.hid (mpush hbel Hbl.out Hv1.out Hown1.out Hgrow.out (World.ownsRow.lt Hrow.out) (own_ne Hrow.out Hbl.out (by decide)) C1.out C2.out C3.out ⟨B, d, rfl, HB.out, x0s⟩ Hm.out))
    all_goals go_wp2
    all_goals go_end0
    all_goals exact ⟨rfl, hfin.out⟩
end Go.Proofs.Ytahhaiomdjlckaa
