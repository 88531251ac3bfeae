/-
  The walk of Idempotent, in the program: one kept head, one removed head, no guard.
-/
import Derived.Test.YtahhaiomdjlckaaW17
namespace Go.Proofs.Ytahhaiomdjlckaa
set_option linter.unusedVariables false
set_option linter.unusedSimpArgs false
open Go.RowKit Go.Maps

/-- what is kept of the three boxes of Idempotent. -/
structure IdW (rv : Array Value) (av : Array Value) (w V : World) : Prop where
  below : Below w.heap.size w V
  b0 : V.heap[w.heap.size]? = some (.cells rv 25 (0, 0))
  b1 : V.heap[w.heap.size + 1]? = some (.cells #[.string ⟨#[]⟩, .int .i64 0] 29 (0, 0))
  b2 : V.heap[w.heap.size + 2]? = some (.cells av 52 (0, 0))
theorem IdW.next {rv av : Array Value} {w V V' : World} (h : IdW rv av w V) (hb : Below V.heap.size V V') : IdW rv av w V' :=
  ⟨h.below.trans (hb.mono h.below.size), (hb.block _ (lt_of_block h.b0)).trans h.b0, (hb.block _ (lt_of_block h.b1)).trans h.b1, (hb.block _ (lt_of_block h.b2)).trans h.b2⟩
theorem IdW.made (rv av : Array Value) (w : World) : IdW rv av w (((w.alloc (.cells rv 25)).alloc (.cells #[.string ⟨#[]⟩, .int .i64 0] 29)).alloc (.cells av 52)) := by
  have h2 : Below (w.heap.size + 2) ((w.alloc (.cells rv 25)).alloc (.cells #[.string ⟨#[]⟩, .int .i64 0] 29)) (((w.alloc (.cells rv 25)).alloc (.cells #[.string ⟨#[]⟩, .int .i64 0] 29)).alloc (.cells av 52)) :=
    (Below.refl _ _).alloc (by simp) _
  refine ⟨(((Below.refl _ _).alloc (Nat.le_refl _) _).alloc (by simp) _).alloc (by simp; omega) _, (h2.block _ (by omega)).trans (heap_alloc2_old w _ _), (h2.block _ (by omega)).trans (heap_alloc2_new w _ _), ?_⟩
  have := heap_alloc_new ((w.alloc (.cells rv 25)).alloc (.cells #[.string ⟨#[]⟩, .int .i64 0] 29)) (.cells av 52)
  simpa using this

theorem zeroB (w : World) : (zeroValue 4).run Try.prog w = .ok (.bool false) w := by kernel_rfl
theorem two_set {w : World} {b : Nat} {u0 u1 v0 v1 : Value} {t : TypeId} (h : w.heap[b]? = some (.cells #[v0, v1] t (0, 0))) : ((w.setCell ⟨b, 0, none⟩ u0).setCell ⟨b, 1, none⟩ u1).heap[b]? = some (.cells #[u0, u1] t (0, 0)) := by
  have hlt := lt_of_block h
  have h' : w.heap[b] = .cells #[v0, v1] t (0, 0) := by simpa [Array.getElem?_eq_getElem hlt] using h
  have e1 : (w.setCell ⟨b, 0, none⟩ u0).heap[b]? = some (.cells #[u0, v1] t (0, 0)) := by
    show (w.heap.modify b _)[b]? = _
    rw [Array.getElem?_eq_getElem (by simpa using hlt), Array.getElem_modify_self, h']
    rfl
  have hlt1 := lt_of_block e1
  have h1 : (w.setCell ⟨b, 0, none⟩ u0).heap[b] = .cells #[u0, v1] t (0, 0) := by simpa [Array.getElem?_eq_getElem hlt1] using e1
  show ((w.setCell ⟨b, 0, none⟩ u0).heap.modify b _)[b]? = _
  rw [Array.getElem?_eq_getElem (by simpa using hlt1), Array.getElem_modify_self, h1]
  rfl

set_option maxRecDepth 100000 in
set_option maxHeartbeats 4000000 in
theorem idem_main (nm : ByteArray) (a b : At) (bd : List Gl) (vs : Int) (kA rA gA bA : Option Addr) (kc rc gc bc : Nat) (w : World) (hk : SlAt AtAt 2 w kA [a]) (hr : SlAt AtAt 2 w rA [b]) (hbd : SlAt GlAt 3 w bA bd) :
    Calls Try.prog 7 #[.agg #[.string nm, .slice kA 1 kc, .slice rA 1 rc, .slice gA 0 gc, .slice bA bd.length bc, .int .i64 vs]] w fun e w' =>
      e = .returned (if sameA a b = false ∨ bd.any notTrue = true then .tuple #[dcv noDc, .bool false] else if okFrom [] a.ts then .tuple #[dcv ⟨a.nm, a.ts.length⟩, .bool true] else .tuple #[dcv noDc, .bool false]) ∧ Below w.heap.size w w' := by
  obtain ⟨ka, ko, rfl, hka, ⟨x0, _⟩, B, d, x1, hB⟩ := hk.2 0 a rfl
  obtain ⟨ra, ro, rfl, hra, ⟨y0, _⟩, B', d', y1, hB'⟩ := hr.2 0 b rfl
  have h3 := hbd.1
  have h4 := hB.1
  have h5 := hB'.1
  unfold maxLen at h3 h4 h5
  simp only [Nat.zero_mul, Nat.add_zero] at x0 x1 y0 y1
  have HB := Lib.hid hB
  have HB' := Lib.hid hB'
  have Hbd := Lib.hid hbd
  clear hk hr hbd hB hB'
  obtain ⟨X, hX⟩ : ∃ X, (if sameA a b = false ∨ bd.any notTrue = true then Value.tuple #[dcv noDc, .bool false] else if okFrom [] a.ts then .tuple #[dcv ⟨a.nm, a.ts.length⟩, .bool true] else .tuple #[dcv noDc, .bool false]) = X := ⟨_, rfl⟩
  rw [hX]
  have HX := Lib.hid hX
  clear hX
  go_enter Try.func7, Try.ntmps7
  go_wp2
  obtain ⟨V, hV⟩ : ∃ V, (((w.alloc (.cells #[.string nm, .slice (some ⟨ka, ko, none⟩) 1 kc, .slice (some ⟨ra, ro, none⟩) 1 rc, .slice gA 0 gc, .slice bA bd.length bc, .int .i64 vs] 25)).alloc (.cells #[.string ⟨#[]⟩, .int .i64 0] 29)).alloc (.cells #[.string a.nm, .slice B a.ts.length d] 52)) = V := ⟨_, rfl⟩
  have hI : IdW #[.string nm, .slice (some ⟨ka, ko, none⟩) 1 kc, .slice (some ⟨ra, ro, none⟩) 1 rc, .slice gA 0 gc, .slice bA bd.length bc, .int .i64 vs] #[.string a.nm, .slice B a.ts.length d] w V := hV ▸ IdW.made _ _ w
  rw [hV]
  clear hV
  have hbel := hI.below
  have c2 : V.cell? ⟨w.heap.size, 2, none⟩ = some (.slice (some ⟨ra, ro, none⟩) 1 rc) := by rw [cell_of_row V _ 2 _ _ _ hI.b0]; rfl
  have e0 : V.cell? ⟨w.heap.size + 1 + 1, 0, none⟩ = some (.string a.nm) := by rw [cell_of_row V _ 0 _ _ _ hI.b2]; rfl
  have e1 : V.cell? ⟨w.heap.size + 1 + 1, 1, none⟩ = some (.slice B a.ts.length d) := by rw [cell_of_row V _ 1 _ _ _ hI.b2]; rfl
  have z0 : V.cell? ⟨ra, ro, none⟩ = some (.string b.nm) := (hbel.cell (p := ⟨ra, ro, none⟩) hra).trans y0
  have z1 : V.cell? ⟨ra, ro + 1, none⟩ = some (.slice B' b.ts.length d') := (hbel.cell (p := ⟨ra, ro + 1, none⟩) hra).trans y1
  have hraV : ra < V.heap.size := Nat.lt_of_lt_of_le hra hbel.size
  have l0 := lt_of_block hI.b2
  have HI := Lib.hid (hI.next (Below.refl _ _).drew)
  have h0 := sameA_any a b B B' d d' V.drew (TmsAt.below HB.out HI.out.below) (TmsAt.below HB'.out HI.out.below)
  unfold atv at h0
  clear hI x0 x1 y0 y1
  cases hs : sameA a b with
  | false =>
    rw [hs] at h0
    have hcall := Lib.hid h0
    have hX : X = .tuple #[.agg #[.string ⟨#[]⟩, .int .i64 0], .bool false] := HX.out.symm.trans (if_pos (.inl hs))
    subst hX
    clear hs h0 HX
    go_still_tail 5, (by kernel_rfl)
    change wpList _ _ _ _ _ V.drew
    go_wp2_with fail
    refine hcall.out.mono ?_
    rintro e w1 ⟨rfl, hb1⟩
    have HI1 := Lib.hid (HI.out.next hb1)
    have hb0 := HI1.out.b1
    have l1 := lt_of_block hb0
    have r0 : w1.cell? ⟨w.heap.size + 1, 0, none⟩ = some (.string ⟨#[]⟩) := by rw [cell_of_row w1 _ 0 _ _ _ hb0]; rfl
    have r1 : w1.cell? ⟨w.heap.size + 1, 1, none⟩ = some (.int .i64 0) := by rw [cell_of_row w1 _ 1 _ _ _ hb0]; rfl
    have f0 : w1.frozen? ⟨w.heap.size + 1, 0, none⟩ = false := by simp [World.frozen?, hb0]
    have f1 : w1.frozen? ⟨w.heap.size + 1, 1, none⟩ = false := by simp [World.frozen?, hb0]
    have hfin := two_set (u0 := .string ⟨#[]⟩) (u1 := .int .i64 0) hb0
    have g0 : ((w1.setCell ⟨w.heap.size + 1, 0, none⟩ (.string ⟨#[]⟩)).setCell ⟨w.heap.size + 1, 1, none⟩ (.int .i64 0)).cell? ⟨w.heap.size + 1, 0, none⟩ = some (.string ⟨#[]⟩) := by rw [cell_of_row _ _ 0 _ _ _ hfin]; rfl
    have g1 : ((w1.setCell ⟨w.heap.size + 1, 0, none⟩ (.string ⟨#[]⟩)).setCell ⟨w.heap.size + 1, 1, none⟩ (.int .i64 0)).cell? ⟨w.heap.size + 1, 1, none⟩ = some (.int .i64 0) := by rw [cell_of_row _ _ 1 _ _ _ hfin]; rfl
    have hbf : Below w.heap.size w ((w1.setCell ⟨w.heap.size + 1, 0, none⟩ (.string ⟨#[]⟩)).setCell ⟨w.heap.size + 1, 1, none⟩ (.int .i64 0)) := (HI1.out.below.setCell (by simp) _).setCell (by simp) _
    clear hb0 hb1 hfin
    go_wp2
    refine bodyPost_ret (v := .tuple #[.agg #[.string ⟨#[]⟩, .int .i64 0], .bool false]) (by simp [results, Try.results7, go_sem, g0, g1]) rfl ⟨rfl, ?_⟩
    exact hbf
  | true =>
    rw [hs] at h0
    have hcall := Lib.hid h0
    have Hs := Lib.hid hs
    clear hs h0
    go_still_tail 5, (by kernel_rfl)
    change wpList _ _ _ _ _ V.drew
    go_wp2_with fail
    refine hcall.out.mono ?_
    rintro e w1 ⟨rfl, hb1⟩
    have HI1 := Lib.hid (HI.out.next hb1)
    have l4 := lt_of_block HI1.out.b0
    have c4 : w1.cell? ⟨w.heap.size, 4, none⟩ = some (.slice bA bd.length bc) := by rw [cell_of_row w1 _ 4 _ _ _ HI1.out.b0]; rfl
    have h0 := contains_any bd bA bc w1 (SlAt.below GlAt.stable Hbd.out HI1.out.below)
    clear hb1
    cases ha : bd.any notTrue with
    | true =>
      rw [ha] at h0
      have hcall2 := Lib.hid h0
      have hX : X = .tuple #[.agg #[.string ⟨#[]⟩, .int .i64 0], .bool false] := HX.out.symm.trans (if_pos (.inr ha))
      subst hX
      clear ha h0 HX
      go_wp2_with fail
      refine hcall2.out.mono ?_
      rintro e w2 ⟨rfl, hb2⟩
      have HI2 := Lib.hid (HI1.out.next hb2)
      clear hb2
      have hb0 := HI2.out.b1
      have l1 := lt_of_block hb0
      have r0 : w2.cell? ⟨w.heap.size + 1, 0, none⟩ = some (.string ⟨#[]⟩) := by rw [cell_of_row w2 _ 0 _ _ _ hb0]; rfl
      have r1 : w2.cell? ⟨w.heap.size + 1, 1, none⟩ = some (.int .i64 0) := by rw [cell_of_row w2 _ 1 _ _ _ hb0]; rfl
      have f0 : w2.frozen? ⟨w.heap.size + 1, 0, none⟩ = false := by simp [World.frozen?, hb0]
      have f1 : w2.frozen? ⟨w.heap.size + 1, 1, none⟩ = false := by simp [World.frozen?, hb0]
      have hfin := two_set (u0 := .string ⟨#[]⟩) (u1 := .int .i64 0) hb0
      have g0 : ((w2.setCell ⟨w.heap.size + 1, 0, none⟩ (.string ⟨#[]⟩)).setCell ⟨w.heap.size + 1, 1, none⟩ (.int .i64 0)).cell? ⟨w.heap.size + 1, 0, none⟩ = some (.string ⟨#[]⟩) := by rw [cell_of_row _ _ 0 _ _ _ hfin]; rfl
      have g1 : ((w2.setCell ⟨w.heap.size + 1, 0, none⟩ (.string ⟨#[]⟩)).setCell ⟨w.heap.size + 1, 1, none⟩ (.int .i64 0)).cell? ⟨w.heap.size + 1, 1, none⟩ = some (.int .i64 0) := by rw [cell_of_row _ _ 1 _ _ _ hfin]; rfl
      have hbf : Below w.heap.size w ((w2.setCell ⟨w.heap.size + 1, 0, none⟩ (.string ⟨#[]⟩)).setCell ⟨w.heap.size + 1, 1, none⟩ (.int .i64 0)) := (HI2.out.below.setCell (by simp) _).setCell (by simp) _
      clear hb0 hfin
      go_wp2
      refine bodyPost_ret (v := .tuple #[.agg #[.string ⟨#[]⟩, .int .i64 0], .bool false]) (by simp [results, Try.results7, go_sem, g0, g1]) rfl ⟨rfl, ?_⟩
      exact hbf
    | false =>
      rw [ha] at h0
      have hcall2 := Lib.hid h0
      have HX2 := Lib.hid (HX.out.symm.trans (if_neg (by rw [Hs.out, ha]; simp)))
      clear ha h0 HX
      have hmm := @run_makeMap Try.prog
      go_wp2_with fail
      refine hcall2.out.mono ?_
      rintro e w2 ⟨rfl, hb2⟩
      have HI2 := Lib.hid (HI1.out.next hb2)
      have l2 := lt_of_block HI2.out.b2
      have HI3 := Lib.hid (HI2.out.next ((Below.refl _ _).alloc (Nat.le_refl _) (.map #[] 0)))
      have k1 : (w2.alloc (.map #[] 0)).cell? ⟨w.heap.size + 1 + 1, 1, none⟩ = some (.slice B a.ts.length d) := by rw [cell_of_row _ _ 1 _ _ _ HI3.out.b2]; rfl
      clear hb2
      go_wp2
      go_loopw [46, 7] (fun i _ wr => ∃ k : Nat, k ≤ a.ts.length ∧ Hid (IdAt a.ts k) ∧ i = .int .i64 k ∧ Hid (wr.ownsMap Try.prog 3 boolElem w2.heap.size k (seenD ((a.ts.take k).map Tm.it))) ∧ Below w2.heap.size w2 wr) (fun i _ _ => a.ts.length - (intOf i).toNat)
      case atStart => exact ⟨0, Nat.zero_le _, Lib.hid (IdAt.zero _), rfl, Lib.hid (World.ownsMap_made _ _ _ _), (Below.refl _ _).alloc (Nat.le_refl _) _⟩
      case round =>
        obtain ⟨k, hka', hid, rfl, hown, hnx⟩ := hrel
        have HIr := Lib.hid (HI2.out.next hnx)
        by_cases hlt : k < a.ts.length
        · obtain ⟨x, hx⟩ : ∃ x, a.ts[k]? = some x := ⟨_, List.getElem?_eq_getElem hlt⟩
          obtain ⟨tb, tf, rfl, htb, hx1⟩ := (TmsAt.below HB.out HIr.out.below).2 k x hx
          obtain ⟨⟨p0, _⟩, ⟨p1, i64⟩, ⟨p2, _⟩, B2, d2, p3, hB2⟩ := hx1.open_
          have hkey : keyOf Try.prog 3 (.int .i64 x.it) = some (.int .i64 x.it) := keyOf_int_mk Try.underlying3 (WalkArith.wf_i64 i64)
          obtain ⟨v, ps, hrun, hv⟩ := (hown.out.alloc (.cells #[.int .i64 x.kd, .int .i64 x.it, .string x.nm, .slice B2 x.ts.length d2] 69)).lookup (int_keyed Try.underlying3) Try.underlying67 (zeroB _) (zd := .lit (.bool false)) (zp := []) rfl hkey
          rw [seenD_at] at hv
          obtain ⟨y, rfl, hy⟩ := boolElem_inv hv
          have hy1 : ((a.ts.take k).map Tm.it).contains x.it = y := by simpa using hy
          clear hy hv
          have HIa := Lib.hid (HIr.out.next ((Below.refl _ _).alloc (Nat.le_refl _) (.cells #[.int .i64 x.kd, .int .i64 x.it, .string x.nm, .slice B2 x.ts.length d2] 69)))
          cases hkd : (x.kd != 1) with
          | true =>
            have hX : X = .tuple #[.agg #[.string ⟨#[]⟩, .int .i64 0], .bool false] := HX2.out.trans (if_neg (by rw [hid.out.fail hx (by rw [hkd]; rfl)]; simp))
            subst hX
            clear HX2 hx hx1 hB2 hy1 hkey
            have hb0 := HIa.out.b1
            have l1 := lt_of_block hb0
            have r0 : (wr.alloc (.cells #[.int .i64 x.kd, .int .i64 x.it, .string x.nm, .slice B2 x.ts.length d2] 69)).cell? ⟨w.heap.size + 1, 0, none⟩ = some (.string ⟨#[]⟩) := by rw [cell_of_row _ _ 0 _ _ _ hb0]; rfl
            have r1 : (wr.alloc (.cells #[.int .i64 x.kd, .int .i64 x.it, .string x.nm, .slice B2 x.ts.length d2] 69)).cell? ⟨w.heap.size + 1, 1, none⟩ = some (.int .i64 0) := by rw [cell_of_row _ _ 1 _ _ _ hb0]; rfl
            have f0 : (wr.alloc (.cells #[.int .i64 x.kd, .int .i64 x.it, .string x.nm, .slice B2 x.ts.length d2] 69)).frozen? ⟨w.heap.size + 1, 0, none⟩ = false := by simp [World.frozen?, hb0]
            have f1 : (wr.alloc (.cells #[.int .i64 x.kd, .int .i64 x.it, .string x.nm, .slice B2 x.ts.length d2] 69)).frozen? ⟨w.heap.size + 1, 1, none⟩ = false := by simp [World.frozen?, hb0]
            have hfin := two_set (u0 := .string ⟨#[]⟩) (u1 := .int .i64 0) hb0
            have g0 : (((wr.alloc (.cells #[.int .i64 x.kd, .int .i64 x.it, .string x.nm, .slice B2 x.ts.length d2] 69)).setCell ⟨w.heap.size + 1, 0, none⟩ (.string ⟨#[]⟩)).setCell ⟨w.heap.size + 1, 1, none⟩ (.int .i64 0)).cell? ⟨w.heap.size + 1, 0, none⟩ = some (.string ⟨#[]⟩) := by rw [cell_of_row _ _ 0 _ _ _ hfin]; rfl
            have g1 : (((wr.alloc (.cells #[.int .i64 x.kd, .int .i64 x.it, .string x.nm, .slice B2 x.ts.length d2] 69)).setCell ⟨w.heap.size + 1, 0, none⟩ (.string ⟨#[]⟩)).setCell ⟨w.heap.size + 1, 1, none⟩ (.int .i64 0)).cell? ⟨w.heap.size + 1, 1, none⟩ = some (.int .i64 0) := by rw [cell_of_row _ _ 1 _ _ _ hfin]; rfl
            have hbf : Below w.heap.size w (((wr.alloc (.cells #[.int .i64 x.kd, .int .i64 x.it, .string x.nm, .slice B2 x.ts.length d2] 69)).setCell ⟨w.heap.size + 1, 0, none⟩ (.string ⟨#[]⟩)).setCell ⟨w.heap.size + 1, 1, none⟩ (.int .i64 0)) := (HIa.out.below.setCell (by simp) _).setCell (by simp) _
            clear hb0 hfin
            go_wp2
            refine bodyPost_ret (v := .tuple #[.agg #[.string ⟨#[]⟩, .int .i64 0], .bool false]) (by simp [results, Try.results7, go_sem, g0, g1]) rfl ⟨rfl, ?_⟩
            exact hbf
          | false =>
            cases y with
            | true =>
              have hX : X = .tuple #[.agg #[.string ⟨#[]⟩, .int .i64 0], .bool false] := HX2.out.trans (if_neg (by rw [hid.out.fail hx (by rw [hkd, hy1]; rfl)]; simp))
              subst hX
              clear HX2 hx hx1 hB2 hy1 hkey
              have hb0 := HIa.out.b1
              have l1 := lt_of_block hb0
              have r0 : (wr.alloc (.cells #[.int .i64 x.kd, .int .i64 x.it, .string x.nm, .slice B2 x.ts.length d2] 69)).cell? ⟨w.heap.size + 1, 0, none⟩ = some (.string ⟨#[]⟩) := by rw [cell_of_row _ _ 0 _ _ _ hb0]; rfl
              have r1 : (wr.alloc (.cells #[.int .i64 x.kd, .int .i64 x.it, .string x.nm, .slice B2 x.ts.length d2] 69)).cell? ⟨w.heap.size + 1, 1, none⟩ = some (.int .i64 0) := by rw [cell_of_row _ _ 1 _ _ _ hb0]; rfl
              have f0 : (wr.alloc (.cells #[.int .i64 x.kd, .int .i64 x.it, .string x.nm, .slice B2 x.ts.length d2] 69)).frozen? ⟨w.heap.size + 1, 0, none⟩ = false := by simp [World.frozen?, hb0]
              have f1 : (wr.alloc (.cells #[.int .i64 x.kd, .int .i64 x.it, .string x.nm, .slice B2 x.ts.length d2] 69)).frozen? ⟨w.heap.size + 1, 1, none⟩ = false := by simp [World.frozen?, hb0]
              have hfin := two_set (u0 := .string ⟨#[]⟩) (u1 := .int .i64 0) hb0
              have g0 : (((wr.alloc (.cells #[.int .i64 x.kd, .int .i64 x.it, .string x.nm, .slice B2 x.ts.length d2] 69)).setCell ⟨w.heap.size + 1, 0, none⟩ (.string ⟨#[]⟩)).setCell ⟨w.heap.size + 1, 1, none⟩ (.int .i64 0)).cell? ⟨w.heap.size + 1, 0, none⟩ = some (.string ⟨#[]⟩) := by rw [cell_of_row _ _ 0 _ _ _ hfin]; rfl
              have g1 : (((wr.alloc (.cells #[.int .i64 x.kd, .int .i64 x.it, .string x.nm, .slice B2 x.ts.length d2] 69)).setCell ⟨w.heap.size + 1, 0, none⟩ (.string ⟨#[]⟩)).setCell ⟨w.heap.size + 1, 1, none⟩ (.int .i64 0)).cell? ⟨w.heap.size + 1, 1, none⟩ = some (.int .i64 0) := by rw [cell_of_row _ _ 1 _ _ _ hfin]; rfl
              have hbf : Below w.heap.size w (((wr.alloc (.cells #[.int .i64 x.kd, .int .i64 x.it, .string x.nm, .slice B2 x.ts.length d2] 69)).setCell ⟨w.heap.size + 1, 0, none⟩ (.string ⟨#[]⟩)).setCell ⟨w.heap.size + 1, 1, none⟩ (.int .i64 0)) := (HIa.out.below.setCell (by simp) _).setCell (by simp) _
              clear hb0 hfin
              go_wp2
              refine bodyPost_ret (v := .tuple #[.agg #[.string ⟨#[]⟩, .int .i64 0], .bool false]) (by simp [results, Try.results7, go_sem, g0, g1]) rfl ⟨rfl, ?_⟩
              exact hbf
            | false =>
              have hid2 := Lib.hid (hid.out.step hx (by rw [hkd, hy1]; rfl))
              have htk : (a.ts.take (k + 1)).map Tm.it = (a.ts.take k).map Tm.it ++ [x.it] := by rw [List.take_add_one, hx]; simp
              have Htk := Lib.hid (congrArg seenD htk)
              have hown2 := hown.out.alloc (.cells #[.int .i64 x.kd, .int .i64 x.it, .string x.nm, .slice B2 x.ts.length d2] 69)
              clear hx hx1 hB2 hy1 htk
              go_wp2_with (at_mapUpdate; refine wpList_mapUpdate_own _ rfl _ _ _ 67 rfl 3 4 (int_keyed Try.underlying3) Try.underlying67 boolElem w2.heap.size k _ rfl hown2 (by unfold maxLen; omega) _ _ _ rfl rfl hkey (.lit (.bool true)) [] rfl ?_; intro w3 hown3 hgrow3)
              have Hown3 : Hid (w3.ownsMap Try.prog 3 boolElem w2.heap.size (k + 1) (seenD ((a.ts.take (k + 1)).map Tm.it))) := Lib.hid (by rw [Htk.out, seenD_snoc]; exact hown3)
              have hnx3 : Below w2.heap.size w2 w3 := (hnx.alloc hnx.size _).grown hgrow3 (by have := hnx.size; simp; omega) (fun j hj => by cases hj; exact Nat.le_refl _)
              clear hown3 hgrow3 hown2
              go_roundw
              case rel => exact ⟨k + 1, by omega, hid2, by go_num, Hown3, hnx3⟩
              case measure => simp [intOf]; omega
        · have hkn : k = a.ts.length := by omega
          subst hkn
          have hX : X = .tuple #[.agg #[.string a.nm, .int .i64 a.ts.length], .bool true] := HX2.out.trans (if_pos hid.out.done)
          subst hX
          clear HX2
          have hb0 := HIr.out.b1
          have l1 := lt_of_block hb0
          have l3 := lt_of_block HIr.out.b2
          have m0 : (wr).cell? ⟨w.heap.size + 1 + 1, 0, none⟩ = some (.string a.nm) := by rw [cell_of_row _ _ 0 _ _ _ HIr.out.b2]; rfl
          have m1 : ∃ BB, (wr).cell? ⟨w.heap.size + 1 + 1, 1, none⟩ = some (.slice BB a.ts.length d) := ⟨_, by rw [cell_of_row _ _ 1 _ _ _ HIr.out.b2]; rfl⟩
          obtain ⟨BB, m1⟩ := m1
          have r0 : (wr).cell? ⟨w.heap.size + 1, 0, none⟩ = some (.string ⟨#[]⟩) := by rw [cell_of_row _ _ 0 _ _ _ hb0]; rfl
          have r1 : (wr).cell? ⟨w.heap.size + 1, 1, none⟩ = some (.int .i64 0) := by rw [cell_of_row _ _ 1 _ _ _ hb0]; rfl
          have f0 : (wr).frozen? ⟨w.heap.size + 1, 0, none⟩ = false := by simp [World.frozen?, hb0]
          have f1 : (wr).frozen? ⟨w.heap.size + 1, 1, none⟩ = false := by simp [World.frozen?, hb0]
          have hfin := two_set (u0 := .string a.nm) (u1 := .int .i64 a.ts.length) hb0
          have g0 : (((wr).setCell ⟨w.heap.size + 1, 0, none⟩ (.string a.nm)).setCell ⟨w.heap.size + 1, 1, none⟩ (.int .i64 a.ts.length)).cell? ⟨w.heap.size + 1, 0, none⟩ = some (.string a.nm) := by rw [cell_of_row _ _ 0 _ _ _ hfin]; rfl
          have g1 : (((wr).setCell ⟨w.heap.size + 1, 0, none⟩ (.string a.nm)).setCell ⟨w.heap.size + 1, 1, none⟩ (.int .i64 a.ts.length)).cell? ⟨w.heap.size + 1, 1, none⟩ = some (.int .i64 a.ts.length) := by rw [cell_of_row _ _ 1 _ _ _ hfin]; rfl
          have hbf : Below w.heap.size w (((wr).setCell ⟨w.heap.size + 1, 0, none⟩ (.string a.nm)).setCell ⟨w.heap.size + 1, 1, none⟩ (.int .i64 a.ts.length)) := (HIr.out.below.setCell (by simp) _).setCell (by simp) _
          clear hb0 hfin
          go_wp2
          refine bodyPost_ret (v := .tuple #[.agg #[.string a.nm, .int .i64 a.ts.length], .bool true]) (by simp [results, Try.results7, go_sem, g0, g1]) rfl ⟨rfl, ?_⟩
          exact hbf
end Go.Proofs.Ytahhaiomdjlckaa
