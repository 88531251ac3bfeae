/-
  The walks of Shift and shiftTerms, in the reference of layer 9.
-/
import Derived.Test.YtahhaiomdjlckaaW41
import Derived.Test.YtahhaiomdjlckaaW20
namespace Go.Proofs.Ytahhaiomdjlckaa
set_option linter.unusedVariables false
set_option linter.unusedSimpArgs false
open Go.RowKit

theorem RT.ext {w w' : World} {cs : List Value} {x : Tm} (he : Ext w w') (h : RT w cs x) : RT w' cs x := by
  obtain ⟨A, c, rfl, ht, h1, h2, h3⟩ := h
  exact ⟨A, c, rfl, ht.ext TmAt.ext he, h1, h2, h3⟩
theorem RT.at2 (w : World) (b o : Nat) (cs : List Value) (x : Tm) (hlt : b < w.heap.size) (hc : ∀ j, j < 4 → w.cell? ⟨b, o + j, none⟩ = cs[j]?) (h : RT w cs x) : TmAt w b o x := by
  obtain ⟨A, c, rfl, ht, h1, h2, h3⟩ := h
  exact TmAt.close ⟨hc 0 (by decide), h1⟩ ⟨hc 1 (by decide), h2⟩ ⟨hc 2 (by decide), h3⟩ ⟨A, c, hc 3 (by decide), ht⟩
theorem sumI_i64 {n k : Int} (h : I64 n) (hk : Sm k) : I64 (sumI n k) := by
  unfold I64 at *
  unfold Sm at hk
  unfold sumI
  split <;> omega
theorem shL_app (k : Int) : ∀ a b : List Tm, shL k (a ++ b) = shL k a ++ shL k b
  | [], b => by simp [shL]
  | t :: ts, b => by simp only [List.cons_append, shL, shL_app k ts b]
theorem shL_take {l : List Tm} {i : Nat} {x : Tm} (k : Int) (h : l[i]? = some x) : shL k (l.take (i + 1)) = shL k (l.take i) ++ [shT k x] := by
  rw [List.take_add_one, h, shL_app]
  simp [shL]
theorem szL_get {l : List Tm} {i : Nat} {x : Tm} (h : l[i]? = some x) : szT x ≤ szL l := by
  have e2 := szL_take h
  have e3 := szL_takeLe l (i + 1)
  have e4 := szT_mk x
  omega
theorem free_of_row {w : World} {b j : Nat} {cs : Array Value} {t : TypeId} (h : w.heap[b]? = some (.cells cs t (0, 0))) : w.frozen? ⟨b, j, none⟩ = false := by simp [World.frozen?, h]
def ShiftN (n : Nat) : Prop := ∀ (t : Tm) (A : Option Addr) (c : Nat) (k : Int) (w : World) (L : List Nat), SizeOf.sizeOf t ≤ n → TmsAt (hides w L) A t.ts → I64 t.it → Sm k → szT t ≤ 100000 → (∀ g ∈ L, g < w.heap.size) →
  Calls Try.prog 63 #[tmv t A c, .int .i64 k] w fun e w' => (∃ A' c', e = .returned (tmv (shT k t) A' c') ∧ TmsAt (hides w' L) A' (shT k t).ts) ∧ Below w.heap.size w w'
def ShiftsN (n : Nat) : Prop := ∀ (l : List Tm) (A : Option Addr) (c : Nat) (k : Int) (w : World) (L : List Nat), SizeOf.sizeOf l ≤ n → TmsAt (hides w L) A l → Sm k → szL l ≤ 100000 → (∀ g ∈ L, g < w.heap.size) →
  Calls Try.prog 46 #[.slice A l.length c, .int .i64 k] w fun e w' => (∃ A' c', e = .returned (.slice A' l.length c') ∧ TmsAt (hides w' L) A' (shL k l)) ∧ Below w.heap.size w w'

set_option maxRecDepth 100000 in
set_option maxHeartbeats 2000000 in
theorem shift_step (n : Nat) (ih : ShiftsN n) : ShiftN (n + 1) := by
  intro t A c k w L hn hA hit hk hsz hL
  have hk' := hk
  unfold Sm at hk'
  have hit' := hit
  unfold I64 at hit'
  have hts := hA.1
  unfold maxLen at hts
  have HA := Lib.hid hA
  have hw1 : Below w.heap.size w ((w.alloc (.cells #[.int .i64 t.kd, .int .i64 t.it, .string t.nm, .slice A t.ts.length c] 69)).alloc (.cells #[.int .i64 0, .int .i64 0, .string ⟨#[]⟩, .slice none 0 0] 69)) := ((Below.refl _ _).alloc (Nat.le_refl _) _).alloc (by simp) _
  have hb0 : ((w.alloc (.cells #[.int .i64 t.kd, .int .i64 t.it, .string t.nm, .slice A t.ts.length c] 69)).alloc (.cells #[.int .i64 0, .int .i64 0, .string ⟨#[]⟩, .slice none 0 0] 69)).heap[w.heap.size]? = some (.cells #[.int .i64 t.kd, .int .i64 t.it, .string t.nm, .slice A t.ts.length c] 69 (0, 0)) := heap_alloc2_old _ _ _
  have hr0 : ((w.alloc (.cells #[.int .i64 t.kd, .int .i64 t.it, .string t.nm, .slice A t.ts.length c] 69)).alloc (.cells #[.int .i64 0, .int .i64 0, .string ⟨#[]⟩, .slice none 0 0] 69)).heap[w.heap.size + 1]? = some (.cells #[.int .i64 0, .int .i64 0, .string ⟨#[]⟩, .slice none 0 0] 69 (0, 0)) := heap_alloc2_new _ _ _
  have Hw1 := Lib.hid hw1
  have Hb0 := Lib.hid hb0
  have Hr0 := Lib.hid hr0
  clear hA hw1 hb0 hr0
  unfold tmv
  cases h1 : (t.kd == 1) with
  | true =>
    have q1 : t.kd = 1 := by simpa using h1
    obtain ⟨S, hS⟩ : ∃ S, S = sumI t.it k := ⟨_, rfl⟩
    have hv : shT k t = .mk t.kd S t.nm t.ts := by obtain ⟨a, b, d, e⟩ := t; simp only [Tm.kd] at q1; unfold shT; rw [if_pos q1, hS]; rfl
    rw [hv]
    have Hv := Lib.hid hv
    have Hsum := Lib.hid (fun W => hS ▸ sum_any t.it k W (by omega) (by omega) (by omega) (by omega))
    clear hv hS q1
    go_enter Try.func63, Try.ntmps63
    go_wp2_with fail
    refine (Hsum.out _).mono ?_
    rintro e w2 ⟨rfl, hb2⟩
    have hB2 : Below w.heap.size w w2 := Hw1.out.trans (hb2.mono Hw1.out.size)
    have hb := (hb2.block _ (lt_of_block Hb0.out)).trans Hb0.out
    have hr := (hb2.block _ (lt_of_block Hr0.out)).trans Hr0.out
    have l1 := lt_of_block hb
    have l2 := lt_of_block hr
    have hb3 : (w2.setCell ⟨w.heap.size, 1, none⟩ (.int .i64 S)).heap[w.heap.size]? = some (.cells #[.int .i64 t.kd, .int .i64 S, .string t.nm, .slice A t.ts.length c] 69 (0, 0)) := set_block hb
    have fb : w2.frozen? ⟨w.heap.size, 1, none⟩ = false := free_of_row hb
    have hr3 : (w2.setCell ⟨w.heap.size, 1, none⟩ (.int .i64 S)).heap[w.heap.size + 1]? = some (.cells #[.int .i64 0, .int .i64 0, .string ⟨#[]⟩, .slice none 0 0] 69 (0, 0)) := (Below.heap_setCell _ _ _ _ (by simp)).trans hr
    obtain ⟨e0, e1, e2, e3⟩ := cells_four hb
    obtain ⟨r0, r1, r2, r3⟩ := cells_four hr
    have f0 : w2.frozen? ⟨w.heap.size + 1, 0, none⟩ = false := free_of_row hr
    have f1 : w2.frozen? ⟨w.heap.size + 1, 1, none⟩ = false := free_of_row hr
    have f2 : w2.frozen? ⟨w.heap.size + 1, 2, none⟩ = false := free_of_row hr
    have f3 : w2.frozen? ⟨w.heap.size + 1, 3, none⟩ = false := free_of_row hr
    have hF : (((((w2.setCell ⟨w.heap.size, 1, none⟩ (.int .i64 S)).setCell ⟨w.heap.size + 1, 0, none⟩ (.int .i64 t.kd)).setCell ⟨w.heap.size + 1, 1, none⟩ (.int .i64 S)).setCell ⟨w.heap.size + 1, 2, none⟩ (.string t.nm)).setCell ⟨w.heap.size + 1, 3, none⟩ (.slice A t.ts.length c)).heap[w.heap.size + 1]? = some (.cells #[.int .i64 t.kd, .int .i64 S, .string t.nm, .slice A t.ts.length c] 69 (0, 0)) := (set_block (set_block (set_block (set_block hr3))))
    obtain ⟨g0, g1, g2, g3⟩ := cells_four hF
    have hbf : Below w.heap.size w (((((w2.setCell ⟨w.heap.size, 1, none⟩ (.int .i64 S)).setCell ⟨w.heap.size + 1, 0, none⟩ (.int .i64 t.kd)).setCell ⟨w.heap.size + 1, 1, none⟩ (.int .i64 S)).setCell ⟨w.heap.size + 1, 2, none⟩ (.string t.nm)).setCell ⟨w.heap.size + 1, 3, none⟩ (.slice A t.ts.length c)) := (Below.setCell (Below.setCell (Below.setCell (Below.setCell (Below.setCell hB2 (by simp) _) (by simp) _) (by simp) _) (by simp) _) (by simp) _)
    clear hb hr hb3 hr3 hF hb2
    go_wp2
    refine bodyPost_ret (v := .agg #[.int .i64 t.kd, .int .i64 S, .string t.nm, .slice A t.ts.length c]) (by simp [results, Try.results63, go_sem, g0, g1, g2, g3]) rfl ⟨⟨A, c, rfl, ?_⟩, hbf⟩
    exact HA.out.ext TmAt.ext (Ext.below hbf)
  | false =>
    have q1 : ¬ t.kd = 1 := by simpa using h1
    cases h2 : (t.kd == 2) with
    | true =>
      have q2 : t.kd = 2 := by simpa using h2
      have hv : shT k t = .mk t.kd t.it t.nm (shL k t.ts) := by obtain ⟨a, b, d, e⟩ := t; simp only [Tm.kd] at q1 q2; unfold shT; rw [if_neg q1, if_pos q2]; rfl
      rw [hv]
      have hll := shL_len k t.ts
      have hszt : SizeOf.sizeOf t.ts ≤ n := by have := size_ts t; omega
      have hszl : szL t.ts ≤ 100000 := by have := szT_mk t; omega
      have Hcall := Lib.hid (ih t.ts A c k ((w.alloc (.cells #[.int .i64 t.kd, .int .i64 t.it, .string t.nm, .slice A t.ts.length c] 69)).alloc (.cells #[.int .i64 0, .int .i64 0, .string ⟨#[]⟩, .slice none 0 0] 69)) (L ++ [w.heap.size, w.heap.size + 1]) hszt (HA.out.ext TmAt.ext (Ext.step Hw1.out.size (fun b hb _ => Hw1.out.block b hb) (by
        intro b hb
        rcases List.mem_append.1 hb with h | h
        · exact .inl h
        · simp only [List.mem_cons, List.not_mem_nil, or_false] at h; omega))) hk hszl (by
        intro b hb
        rcases List.mem_append.1 hb with h | h
        · have := hL b h; simp; omega
        · simp only [List.mem_cons, List.not_mem_nil, or_false] at h; simp; omega))
      have Hll := Lib.hid hll
      clear hv hll hszt hszl q1 q2
      go_enter Try.func63, Try.ntmps63
      go_wp2_with fail
      refine Hcall.out.mono ?_
      rintro e w2 ⟨⟨A2, c2, rfl, hA2⟩, hb2⟩
      have HA2 := Lib.hid hA2
      have hB2 : Below w.heap.size w w2 := Hw1.out.trans (hb2.mono Hw1.out.size)
      have hb := (hb2.block _ (lt_of_block Hb0.out)).trans Hb0.out
      have hr := (hb2.block _ (lt_of_block Hr0.out)).trans Hr0.out
      have l1 := lt_of_block hb
      have l2 := lt_of_block hr
      have hb3 : (w2.setCell ⟨w.heap.size, 3, none⟩ (.slice A2 t.ts.length c2)).heap[w.heap.size]? = some (.cells #[.int .i64 t.kd, .int .i64 t.it, .string t.nm, .slice A2 t.ts.length c2] 69 (0, 0)) := set_block hb
      have fb : w2.frozen? ⟨w.heap.size, 3, none⟩ = false := free_of_row hb
      have hr3 : (w2.setCell ⟨w.heap.size, 3, none⟩ (.slice A2 t.ts.length c2)).heap[w.heap.size + 1]? = some (.cells #[.int .i64 0, .int .i64 0, .string ⟨#[]⟩, .slice none 0 0] 69 (0, 0)) := (Below.heap_setCell _ _ _ _ (by simp)).trans hr
      obtain ⟨e0, e1, e2, e3⟩ := cells_four hb
      obtain ⟨r0, r1, r2, r3⟩ := cells_four hr
      have f0 : w2.frozen? ⟨w.heap.size + 1, 0, none⟩ = false := free_of_row hr
      have f1 : w2.frozen? ⟨w.heap.size + 1, 1, none⟩ = false := free_of_row hr
      have f2 : w2.frozen? ⟨w.heap.size + 1, 2, none⟩ = false := free_of_row hr
      have f3 : w2.frozen? ⟨w.heap.size + 1, 3, none⟩ = false := free_of_row hr
      have hF : (((((w2.setCell ⟨w.heap.size, 3, none⟩ (.slice A2 t.ts.length c2)).setCell ⟨w.heap.size + 1, 0, none⟩ (.int .i64 t.kd)).setCell ⟨w.heap.size + 1, 1, none⟩ (.int .i64 t.it)).setCell ⟨w.heap.size + 1, 2, none⟩ (.string t.nm)).setCell ⟨w.heap.size + 1, 3, none⟩ (.slice A2 t.ts.length c2)).heap[w.heap.size + 1]? = some (.cells #[.int .i64 t.kd, .int .i64 t.it, .string t.nm, .slice A2 t.ts.length c2] 69 (0, 0)) := (set_block (set_block (set_block (set_block hr3))))
      obtain ⟨g0, g1, g2, g3⟩ := cells_four hF
      have hbf : Below w.heap.size w (((((w2.setCell ⟨w.heap.size, 3, none⟩ (.slice A2 t.ts.length c2)).setCell ⟨w.heap.size + 1, 0, none⟩ (.int .i64 t.kd)).setCell ⟨w.heap.size + 1, 1, none⟩ (.int .i64 t.it)).setCell ⟨w.heap.size + 1, 2, none⟩ (.string t.nm)).setCell ⟨w.heap.size + 1, 3, none⟩ (.slice A2 t.ts.length c2)) := (Below.setCell (Below.setCell (Below.setCell (Below.setCell (Below.setCell hB2 (by simp) _) (by simp) _) (by simp) _) (by simp) _) (by simp) _)
      clear hb hr hb3 hr3 hF hb2 hA2
      go_wp2
      have HG : Ext (hides w2 (L ++ [w.heap.size, w.heap.size + 1])) (hides (((((w2.setCell ⟨w.heap.size, 3, none⟩ (.slice A2 t.ts.length c2)).setCell ⟨w.heap.size + 1, 0, none⟩ (.int .i64 t.kd)).setCell ⟨w.heap.size + 1, 1, none⟩ (.int .i64 t.it)).setCell ⟨w.heap.size + 1, 2, none⟩ (.string t.nm)).setCell ⟨w.heap.size + 1, 3, none⟩ (.slice A2 t.ts.length c2)) L) := Ext.step (by simp) (fun b hb hn => by
        have n1 : b ≠ w.heap.size := fun e => hn (by simp [e])
        have n2 : b ≠ w.heap.size + 1 := fun e => hn (by simp [e])
        rw [Below.heap_setCell _ _ _ _ (by simpa using n2), Below.heap_setCell _ _ _ _ (by simpa using n2), Below.heap_setCell _ _ _ _ (by simpa using n2), Below.heap_setCell _ _ _ _ (by simpa using n2), Below.heap_setCell _ _ _ _ (by simpa using n1)]) (fun b hb => .inl (List.mem_append_left _ hb))
      refine bodyPost_ret (v := .agg #[.int .i64 t.kd, .int .i64 t.it, .string t.nm, .slice A2 t.ts.length c2]) (by simp [results, Try.results63, go_sem, g0, g1, g2, g3]) rfl ⟨⟨A2, c2, by show Ending.returned (.agg #[.int .i64 t.kd, .int .i64 t.it, .string t.nm, .slice A2 t.ts.length c2]) = .returned (.agg #[.int .i64 t.kd, .int .i64 t.it, .string t.nm, .slice A2 (shL k t.ts).length c2]); rw [Hll.out], ?_⟩, hbf⟩
      exact HA2.out.ext TmAt.ext HG
    | false =>
      have q2 : ¬ t.kd = 2 := by simpa using h2
      have hv : shT k t = t := by obtain ⟨a, b, d, e⟩ := t; simp only [Tm.kd] at q1 q2; unfold shT; rw [if_neg q1, if_neg q2]
      rw [hv]
      clear hv q1 q2
      have hB2 := Hw1.out
      have hb := Hb0.out
      have hr := Hr0.out
      have hF : ((w.alloc (.cells #[.int .i64 t.kd, .int .i64 t.it, .string t.nm, .slice A t.ts.length c] 69)).alloc (.cells #[.int .i64 t.kd, .int .i64 t.it, .string t.nm, .slice A t.ts.length c] 69)).heap[w.heap.size + 1]? = some (.cells #[.int .i64 t.kd, .int .i64 t.it, .string t.nm, .slice A t.ts.length c] 69 (0, 0)) := heap_alloc2_new _ _ _
      obtain ⟨g0, g1, g2, g3⟩ := cells_four hF
      have hbf : Below w.heap.size w ((w.alloc (.cells #[.int .i64 t.kd, .int .i64 t.it, .string t.nm, .slice A t.ts.length c] 69)).alloc (.cells #[.int .i64 t.kd, .int .i64 t.it, .string t.nm, .slice A t.ts.length c] 69)) := ((Below.refl _ _).alloc (Nat.le_refl _) _).alloc (by simp) _
      clear hb hr hF
      go_enter Try.func63, Try.ntmps63
      go_wp2
      refine bodyPost_ret (v := .agg #[.int .i64 t.kd, .int .i64 t.it, .string t.nm, .slice A t.ts.length c]) (by simp [results, Try.results63, go_sem, g0, g1, g2, g3]) rfl ⟨⟨A, c, rfl, ?_⟩, hbf⟩
      exact HA.out.ext TmAt.ext (Ext.below hbf)

set_option maxRecDepth 100000 in
set_option maxHeartbeats 2000000 in
theorem shifts_step (n : Nat) (ih : ShiftN n) : ShiftsN (n + 1) := by
  intro l A c k w L hn hA hk hsz hL
  obtain ⟨i0, hi, hz0, hz1, hz2⟩ := info_parts Try.infoTerm
  have hl := hA.1
  unfold maxLen at hl
  have hll := len_szL l
  have HA := Lib.hid hA
  have Hi := Lib.hid hi
  have Hz0 := Lib.hid hz0
  have Hz1 := Lib.hid hz1
  have Hz2 := Lib.hid hz2
  have HL := Lib.hid hL
  have Hih := Lib.hid ih
  have HN := Lib.hid hn
  have Hk := Lib.hid hk
  have Hsz := Lib.hid hsz
  clear hA hi hz0 hz1 hz2 hL ih hn hk
  go_enter Try.func46, Try.ntmps46
  go_wp2
  go_loopw [5, 6] (fun o i wr => ∃ j : Nat, j ≤ l.length ∧ i = .int .i64 j ∧ Hid (Own2 RT 69 4 w.heap.size L wr o (shL k (l.take j))) ∧ Hid (Below w.heap.size w wr)) (fun _ i _ => l.length - (intOf i).toNat)
  case atStart => exact ⟨0, Nat.zero_le _, rfl, Lib.hid (by rw [List.take_zero, shL]; exact Own2.nil), Lib.hid (Below.refl _ _)⟩
  case round =>
    obtain ⟨j, hj, rfl, HO, HB⟩ := hrel
    by_cases hlt : j < l.length
    · obtain ⟨x, hx⟩ : ∃ x, l[j]? = some x := ⟨_, List.getElem?_eq_getElem hlt⟩
      obtain ⟨b, off, rfl, hblt, hx1⟩ := HA.out.2 j x hx
      rw [size_hides] at hblt
      obtain ⟨⟨p0, s0⟩, ⟨p1, s1⟩, ⟨p2, s2⟩, B, d, p3, hB⟩ := hx1.open_
      have f0 := (HB.out.cell (p := ⟨b, off + j * 4, none⟩) hblt).trans (cell_hides.1 p0).2
      have f1 := (HB.out.cell (p := ⟨b, off + j * 4 + 1, none⟩) hblt).trans (cell_hides.1 p1).2
      have f2 := (HB.out.cell (p := ⟨b, off + j * 4 + 2, none⟩) hblt).trans (cell_hides.1 p2).2
      have f3 := (HB.out.cell (p := ⟨b, off + j * 4 + 3, none⟩) hblt).trans (cell_hides.1 p3).2
      have hszx : SizeOf.sizeOf x ≤ n := by
        have := List.sizeOf_lt_of_mem (List.mem_of_getElem? hx)
        have := HN.out
        omega
      have hg := HO.out.lt
      have Hcall := Lib.hid (Hih.out x B d k wr (L ++ u5.ownBlock.toList) hszx (hB.ext TmAt.ext (Ext.step HB.out.size (fun b hb _ => HB.out.block b hb) (by
        intro b hb
        rcases List.mem_append.1 hb with h | h
        · exact .inl h
        · exact .inr (hg b (by simpa using h)).1))) s1 Hk.out (Nat.le_trans (szL_get hx) Hsz.out) (by
        intro b hb
        rcases List.mem_append.1 hb with h | h
        · exact Nat.lt_of_lt_of_le (HL.out b h) HB.out.size
        · exact (hg b (by simpa using h)).2))
      obtain ⟨y, hy⟩ : ∃ y, y = shT k x := ⟨_, rfl⟩
      have hiy : I64 y.kd ∧ I64 y.it ∧ y.nm.size ≤ maxLen := by
        rw [hy]
        obtain ⟨a1, a2, a3, a4⟩ := x
        unfold shT
        split
        · exact ⟨s0, sumI_i64 s1 Hk.out, s2⟩
        · split <;> exact ⟨s0, s1, s2⟩
      have hty := shL_take k hx
      rw [← hy] at Hcall hty
      unfold tmv at Hcall
      have Hty := Lib.hid hty
      have Hiy := Lib.hid hiy
      have hl3 : (shL k (l.take j)).length ≤ 100000 := by rw [shL_len, List.length_take]; omega
      clear p0 p1 p2 p3 hx1 hB hx hty hiy hy hg
      go_wp2_with fail
      refine Hcall.out.mono ?_
      rintro e w2 ⟨⟨A2, c2, rfl, hA2⟩, hb2⟩
      have hB2 : Below w.heap.size w w2 := HB.out.trans (hb2.mono HB.out.size)
      have hw3 : Below w2.heap.size w2 (w2.alloc (.cells #[.int .i64 y.kd, .int .i64 y.it, .string y.nm, .slice A2 y.ts.length c2] 69)) := (Below.refl _ _).alloc (Nat.le_refl _) _
      have HB3 := Lib.hid (hB2.trans (hw3.mono hB2.size))
      have HO3 := Lib.hid ((HO.out.below (fun _ _ _ _ he h => h.ext he) hb2).below (fun _ _ _ _ he h => h.ext he) hw3)
      have HR3 := Lib.hid (show RT (hides (w2.alloc (.cells #[.int .i64 y.kd, .int .i64 y.it, .string y.nm, .slice A2 y.ts.length c2] 69)) (L ++ u5.ownBlock.toList)) [.int .i64 y.kd, .int .i64 y.it, .string y.nm, .slice A2 y.ts.length c2] y from ⟨A2, c2, rfl, hA2.ext TmAt.ext (Ext.below hw3), Hiy.out.1, Hiy.out.2.1, Hiy.out.2.2⟩)
      have Hnews := Lib.hid (World.news_of_block (cs := #[.int .i64 y.kd, .int .i64 y.it, .string y.nm, .slice A2 y.ts.length c2]) (t := 69) (fr := (0, 0)) (heap_alloc_new w2 (.cells #[.int .i64 y.kd, .int .i64 y.it, .string y.nm, .slice A2 y.ts.length c2] 69)))
      have C1 := Lib.hid (show (shL k (l.take j)).length + 1 ≤ maxLen from by unfold maxLen; omega)
      have C2 := Lib.hid (show ((shL k (l.take j)).length + 1) * 56 ≤ 140737488355328 from by omega)
      clear hA2 hb2 hB2 hw3 f0 f1 f2 f3
      go_wp2_with (at_builtin; refine wpList_append_own2 rfl _ _ 50 rfl i0 _ 56 Try.underlying50 Hi.out Hz0.out Hz1.out Hz2.out rfl (by decide) (fun _ _ _ _ he h => h.ext he) rfl HO3.out rfl (cs := [.int .i64 y.kd, .int .i64 y.it, .string y.nm, .slice A2 y.ts.length c2]) rfl (by simp [Value.oneCell']) Hnews.out HR3.out HL.out C1.out C2.out HB3.out.size ?_)
      intro v4 w4 hown4 hg4
      have HB4 := Lib.hid (Below.grown HB3.out hg4 HB3.out.size fun g hg => (HO3.out.lt g hg).1)
      rw [← Hty.out] at hown4
      have HO4 := Lib.hid hown4
      clear hown4 hg4
      go_wp2
      go_roundw
      case rel => exact ⟨j + 1, by omega, by go_num, HO4, HB4⟩
      case measure => simp [intOf]; omega
    · obtain rfl : j = l.length := by omega
      have hO := HO.out
      rw [List.take_length] at hO
      obtain ⟨A6, c6, hv6, hs6⟩ := hO.form (RAt := TmAt) (by decide) (fun _ _ _ _ he h => h.ext he) RT.at2 HL.out
      have HS6 := Lib.hid hs6
      clear hO hs6
      rw [shL_len] at hv6
      subst hv6
      go_wp2
      go_ret
      exact ⟨⟨_, _, rfl, HS6.out⟩, HB.out⟩
theorem shift_all : ∀ n, ShiftN n ∧ ShiftsN n := by
  intro n
  induction n with
  | zero => exact ⟨fun t A c k w L hn => absurd hn (by cases t; simp), fun l A c k w L hn => absurd hn (by cases l <;> simp)⟩
  | succ n ih => exact ⟨shift_step n ih.2, shifts_step n ih.1⟩
theorem shifts_any (l : List Tm) (A : Option Addr) (c : Nat) (k : Int) (w : World) (L : List Nat) (hA : TmsAt (hides w L) A l) (hk : Sm k) (hsz : szL l ≤ 100000) (hL : ∀ g ∈ L, g < w.heap.size) :
  Calls Try.prog 46 #[.slice A l.length c, .int .i64 k] w fun e w' => (∃ A' c', e = .returned (.slice A' l.length c') ∧ TmsAt (hides w' L) A' (shL k l)) ∧ Below w.heap.size w w' := (shift_all _).2 l A c k w L (Nat.le_refl _) hA hk hsz hL
end Go.Proofs.Ytahhaiomdjlckaa
