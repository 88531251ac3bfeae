/-
  The walk of Idempotent, in the reference.
-/
import Derived.Test.YtahhaiomdjlckaaW19
import Derived.Outline
namespace Go.Proofs.Ytahhaiomdjlckaa
set_option linter.unusedVariables false
set_option linter.unusedSimpArgs false
open Go.RowKit

set_option maxRecDepth 100000 in
set_option maxHeartbeats 2000000 in
theorem ridem_early (r : Rl) (kA rA gA bA : Option Addr) (kc rc gc bc : Nat) (w : World) (hk : SlAt AtAt 2 w kA r.kp) (hr : SlAt AtAt 2 w rA r.rm) (hg : SlAt GlAt 3 w gA r.gd)
    (h : r.kp.length ≠ 1 ∨ r.rm.length ≠ 1 ∨ 0 < r.gd.length) :
    Calls Try.prog 8 #[rlv r kA rA gA bA kc rc gc bc] w fun e w' => e = .returned (.tuple #[dcv noDc, .bool false]) ∧ Below w.heap.size w w' := by
  have h1 := hk.1
  have h2 := hr.1
  have h3 := hg.1
  unfold maxLen at h1 h2 h3
  have hbox : ∀ o o' : Obj, Below w.heap.size w ((w.alloc o).alloc o') := fun o o' => ((Below.refl _ _).alloc (Nat.le_refl _) _).alloc (by simp) _
  clear hk hr hg
  unfold rlv dcv noDc
  cases k1 : (((r.kp.length : Nat) : Int) != 1) with
  | true =>
    go_enter Try.func8, Try.ntmps8
    go_wp2
    go_quiet (fail)
    go_wp2
    refine bodyPost_ret (v := .tuple #[.agg #[.string ⟨#[]⟩, .int .i64 0], .bool false]) (by simp [results, Try.results8, go_sem]) rfl ⟨rfl, ?_⟩
    exact ((below_drewN (hbox _ _) _).setCell (by simp) _).setCell (by simp) _
  | false =>
    cases k2 : (((r.rm.length : Nat) : Int) != 1) with
    | true =>
      go_enter Try.func8, Try.ntmps8
      go_wp2
      go_quiet (fail)
      go_wp2
      refine bodyPost_ret (v := .tuple #[.agg #[.string ⟨#[]⟩, .int .i64 0], .bool false]) (by simp [results, Try.results8, go_sem]) rfl ⟨rfl, ?_⟩
      exact ((below_drewN (hbox _ _) _).setCell (by simp) _).setCell (by simp) _
    | false =>
      have k3 : decide (0 < r.gd.length) = true := by
        simp only [bne_eq_false_iff_eq] at k1 k2
        rw [decide_eq_true_eq]; omega
      go_enter Try.func8, Try.ntmps8
      go_wp2
      go_quiet (fail)
      go_wp2
      refine bodyPost_ret (v := .tuple #[.agg #[.string ⟨#[]⟩, .int .i64 0], .bool false]) (by simp [results, Try.results8, go_sem]) rfl ⟨rfl, ?_⟩
      exact ((below_drewN (hbox _ _) _).setCell (by simp) _).setCell (by simp) _

/-- what is kept of the two boxes of the reference's Idempotent. -/
structure IdR (rv : Array Value) (w V : World) : Prop where
  below : Below w.heap.size w V
  b0 : V.heap[w.heap.size]? = some (.cells rv 25 (0, 0))
  b1 : V.heap[w.heap.size + 1]? = some (.cells #[.string ⟨#[]⟩, .int .i64 0] 29 (0, 0))
theorem IdR.next {rv : Array Value} {w V V' : World} (h : IdR rv w V) (hb : Below V.heap.size V V') : IdR rv w V' :=
  ⟨h.below.trans (hb.mono h.below.size), (hb.block _ (lt_of_block h.b0)).trans h.b0, (hb.block _ (lt_of_block h.b1)).trans h.b1⟩
theorem cmp_vars {x y : Tm} (hx : x.kd = 1) (hy : y.kd = 1) : (cmpT x y == 0) = (x.it == y.it) := by
  obtain ⟨k, i, n, l⟩ := x
  obtain ⟨k', i', n', l'⟩ := y
  simp only [Tm.kd] at hx hy
  subst hx hy
  rw [Bool.eq_iff_iff, beq_iff_eq, beq_iff_eq, cmpT_zero]
  simp [rk, Tm.it]
theorem seen_succ {ts : List Tm} {i q : Nat} {y : Tm} {z : Int} (hq : q < i) (hy : ts[q]? = some y) : (((ts.take i).take (q + 1)).map Tm.it).contains z = ((((ts.take i).take q).map Tm.it).contains z || y.it == z) := by
  have : (ts.take i)[q]? = some y := by rw [List.getElem?_take, if_pos hq]; exact hy
  rw [List.take_add_one, this, List.map_append, List.contains_append]
  congr 1
  by_cases e : y.it = z
  · simp [e]
  · have e' : ¬ z = y.it := fun h => e h.symm
    simp [e, e']

set_option maxRecDepth 100000 in
set_option maxHeartbeats 4000000 in
theorem ridem_main (nm : ByteArray) (a b : At) (bd : List Gl) (vs : Int) (kA rA gA bA : Option Addr) (kc rc gc bc : Nat) (w : World) (hk : SlAt AtAt 2 w kA [a]) (hr : SlAt AtAt 2 w rA [b]) (hbd : SlAt GlAt 3 w bA bd) :
    Calls Try.prog 8 #[.agg #[.string nm, .slice kA 1 kc, .slice rA 1 rc, .slice gA 0 gc, .slice bA bd.length bc, .int .i64 vs]] w fun e w' =>
      e = .returned (if sameA a b = false ∨ bd.any notTrue = true then .tuple #[dcv noDc, .bool false] else if okFrom [] a.ts then .tuple #[dcv ⟨a.nm, a.ts.length⟩, .bool true] else .tuple #[dcv noDc, .bool false]) ∧ Below w.heap.size w w' := by
  obtain ⟨ka, ko, rfl, hka, ⟨x0, _⟩, B, d, x1, hB⟩ := hk.2 0 a rfl
  obtain ⟨ra, ro, rfl, hra, ⟨y0, _⟩, B', d', y1, hB'⟩ := hr.2 0 b rfl
  have h3 := hbd.1
  have h4 := hB.1
  have h5 := hB'.1
  unfold maxLen at h3 h4 h5
  simp only [Nat.zero_mul, Nat.add_zero] at x0 x1 y0 y1
  have HB := Lib.hid hB
  have HB' := Lib.hid hB'
  have Hbd := Lib.hid hbd
  have X0 := Lib.hid x0
  have X1 := Lib.hid x1
  clear hk hr hbd hB hB'
  obtain ⟨X, hX⟩ : ∃ X, (if sameA a b = false ∨ bd.any notTrue = true then Value.tuple #[dcv noDc, .bool false] else if okFrom [] a.ts then .tuple #[dcv ⟨a.nm, a.ts.length⟩, .bool true] else .tuple #[dcv noDc, .bool false]) = X := ⟨_, rfl⟩
  rw [hX]
  have HX := Lib.hid hX
  clear hX
  go_enter Try.func8, Try.ntmps8
  go_wp2
  obtain ⟨V, hV⟩ : ∃ V, ((w.alloc (.cells #[.string nm, .slice (some ⟨ka, ko, none⟩) 1 kc, .slice (some ⟨ra, ro, none⟩) 1 rc, .slice gA 0 gc, .slice bA bd.length bc, .int .i64 vs] 25)).alloc (.cells #[.string ⟨#[]⟩, .int .i64 0] 29)) = V := ⟨_, rfl⟩
  have hI : IdR #[.string nm, .slice (some ⟨ka, ko, none⟩) 1 kc, .slice (some ⟨ra, ro, none⟩) 1 rc, .slice gA 0 gc, .slice bA bd.length bc, .int .i64 vs] w V := by
    rw [← hV]
    exact ⟨((Below.refl _ _).alloc (Nat.le_refl _) _).alloc (by simp) _, heap_alloc2_old _ _ _, heap_alloc2_new _ _ _⟩
  rw [hV]
  clear hV
  have hbel := hI.below
  have c1 : V.cell? ⟨w.heap.size, 1, none⟩ = some (.slice (some ⟨ka, ko, none⟩) 1 kc) := by rw [cell_of_row V _ 1 _ _ _ hI.b0]; rfl
  have c2 : V.cell? ⟨w.heap.size, 2, none⟩ = some (.slice (some ⟨ra, ro, none⟩) 1 rc) := by rw [cell_of_row V _ 2 _ _ _ hI.b0]; rfl
  have c3 : V.cell? ⟨w.heap.size, 3, none⟩ = some (.slice gA 0 gc) := by rw [cell_of_row V _ 3 _ _ _ hI.b0]; rfl
  have z0 : V.cell? ⟨ka, ko, none⟩ = some (.string a.nm) := (hbel.cell (p := ⟨ka, ko, none⟩) hka).trans x0
  have z1 : V.cell? ⟨ka, ko + 1, none⟩ = some (.slice B a.ts.length d) := (hbel.cell (p := ⟨ka, ko + 1, none⟩) hka).trans x1
  have v0 : V.cell? ⟨ra, ro, none⟩ = some (.string b.nm) := (hbel.cell (p := ⟨ra, ro, none⟩) hra).trans y0
  have v1 : V.cell? ⟨ra, ro + 1, none⟩ = some (.slice B' b.ts.length d') := (hbel.cell (p := ⟨ra, ro + 1, none⟩) hra).trans y1
  have hdr : Below V.heap.size V V.drew := (Below.refl _ _).drew
  have h0 := rsameA_any a b B B' d d' V.drew (TmsAt.below HB.out (hbel.trans (hdr.mono hbel.size))) (TmsAt.below HB'.out (hbel.trans (hdr.mono hbel.size)))
  unfold atv at h0
  have hcall := Lib.hid h0
  have HI := Lib.hid hI
  clear h0 hI x0 x1 y0 y1
  go_still_tail 25, (by kernel_rfl)
  change wpList _ _ _ _ _ V.drew
  go_wp2_with fail
  refine hcall.out.mono ?_
  rintro e w2 ⟨rfl, hb2⟩
  have HI2 := Lib.hid (HI.out.next (hdr.trans hb2))
  clear hb2 hdr z0 z1 v0 v1 c1 c2 c3 hbel
  cases hs : sameA a b with
  | false =>
    have hX : X = .tuple #[.agg #[.string ⟨#[]⟩, .int .i64 0], .bool false] := HX.out.symm.trans (if_pos (.inl hs))
    subst hX
    clear HX hs
    have hb0 := HI2.out.b1
    have l1 := lt_of_block hb0
    have r0 : (w2).cell? ⟨w.heap.size + 1, 0, none⟩ = some (.string ⟨#[]⟩) := by rw [cell_of_row _ _ 0 _ _ _ hb0]; rfl
    have r1 : (w2).cell? ⟨w.heap.size + 1, 1, none⟩ = some (.int .i64 0) := by rw [cell_of_row _ _ 1 _ _ _ hb0]; rfl
    have f0 : (w2).frozen? ⟨w.heap.size + 1, 0, none⟩ = false := by simp [World.frozen?, hb0]
    have f1 : (w2).frozen? ⟨w.heap.size + 1, 1, none⟩ = false := by simp [World.frozen?, hb0]
    have hfin := two_set (u0 := .string ⟨#[]⟩) (u1 := .int .i64 0) hb0
    have g0 : (((w2).setCell ⟨w.heap.size + 1, 0, none⟩ (.string ⟨#[]⟩)).setCell ⟨w.heap.size + 1, 1, none⟩ (.int .i64 0)).cell? ⟨w.heap.size + 1, 0, none⟩ = some (.string ⟨#[]⟩) := by rw [cell_of_row _ _ 0 _ _ _ hfin]; rfl
    have g1 : (((w2).setCell ⟨w.heap.size + 1, 0, none⟩ (.string ⟨#[]⟩)).setCell ⟨w.heap.size + 1, 1, none⟩ (.int .i64 0)).cell? ⟨w.heap.size + 1, 1, none⟩ = some (.int .i64 0) := by rw [cell_of_row _ _ 1 _ _ _ hfin]; rfl
    have hbf : Below w.heap.size w (((w2).setCell ⟨w.heap.size + 1, 0, none⟩ (.string ⟨#[]⟩)).setCell ⟨w.heap.size + 1, 1, none⟩ (.int .i64 0)) := (HI2.out.below.setCell (by simp) _).setCell (by simp) _
    clear hb0 hfin
    go_wp2
    refine bodyPost_ret (v := .tuple #[.agg #[.string ⟨#[]⟩, .int .i64 0], .bool false]) (by simp [results, Try.results8, go_sem, g0, g1]) rfl ⟨rfl, ?_⟩
    exact hbf
  | true =>
    have Hs := Lib.hid hs
    clear hs
    have hb0 := HI2.out.b0
    have l0 := lt_of_block hb0
    have c1 : w2.cell? ⟨w.heap.size, 1, none⟩ = some (.slice (some ⟨ka, ko, none⟩) 1 kc) := by rw [cell_of_row _ _ 1 _ _ _ hb0]; rfl
    have z1 : w2.cell? ⟨ka, ko + 1, none⟩ = some (.slice B a.ts.length d) := (HI2.out.below.cell (p := ⟨ka, ko + 1, none⟩) hka).trans X1.out
    clear hb0
    go_wp2
    clear c1 z1
    go_loopw [5, 6] (fun i _ wr => ∃ k : Nat, k ≤ a.ts.length ∧ Hid (IdAt a.ts k) ∧ Hid (∀ (j : Nat) (y : Tm), j < k → a.ts[j]? = some y → y.kd = 1) ∧ i = .int .i64 k ∧ Hid (IdR #[.string nm, .slice (some ⟨ka, ko, none⟩) 1 kc, .slice (some ⟨ra, ro, none⟩) 1 rc, .slice gA 0 gc, .slice bA bd.length bc, .int .i64 vs] w wr)) (fun i _ _ => a.ts.length - (intOf i).toNat)
    case atStart => exact ⟨0, Nat.zero_le _, Lib.hid (IdAt.zero _), Lib.hid (fun j y h => by omega), rfl, HI2⟩
    case round =>
      obtain ⟨k, hka', hid, hall, rfl, HIr⟩ := hrel
      by_cases hlt : k < a.ts.length
      · obtain ⟨x, hx⟩ : ∃ x, a.ts[k]? = some x := ⟨_, List.getElem?_eq_getElem hlt⟩
        obtain ⟨tb, tf, rfl, htb, hx1⟩ := (TmsAt.below HB.out HIr.out.below).2 k x hx
        have Hx1 := Lib.hid hx1
        obtain ⟨⟨p0, _⟩, ⟨p1, i64⟩, ⟨p2, _⟩, B2, d2, p3, hB2⟩ := hx1.open_
        have HB2 := Lib.hid hB2
        have Hx := Lib.hid hx
        clear hx1 hB2 hx
        cases hkd : (x.kd != 1) with
        | true =>
          have hX : X = .tuple #[.agg #[.string ⟨#[]⟩, .int .i64 0], .bool false] := HX.out.symm.trans (by
            split
            · rfl
            · rw [if_neg (by rw [hid.out.fail Hx.out (by rw [hkd]; rfl)]; simp)]; rfl)
          subst hX
          clear HX
          have hb0 := HIr.out.b1
          have l1 := lt_of_block hb0
          have r0 : (wr).cell? ⟨w.heap.size + 1, 0, none⟩ = some (.string ⟨#[]⟩) := by rw [cell_of_row _ _ 0 _ _ _ hb0]; rfl
          have r1 : (wr).cell? ⟨w.heap.size + 1, 1, none⟩ = some (.int .i64 0) := by rw [cell_of_row _ _ 1 _ _ _ hb0]; rfl
          have f0 : (wr).frozen? ⟨w.heap.size + 1, 0, none⟩ = false := by simp [World.frozen?, hb0]
          have f1 : (wr).frozen? ⟨w.heap.size + 1, 1, none⟩ = false := by simp [World.frozen?, hb0]
          have hfin := two_set (u0 := .string ⟨#[]⟩) (u1 := .int .i64 0) hb0
          have g0 : (((wr).setCell ⟨w.heap.size + 1, 0, none⟩ (.string ⟨#[]⟩)).setCell ⟨w.heap.size + 1, 1, none⟩ (.int .i64 0)).cell? ⟨w.heap.size + 1, 0, none⟩ = some (.string ⟨#[]⟩) := by rw [cell_of_row _ _ 0 _ _ _ hfin]; rfl
          have g1 : (((wr).setCell ⟨w.heap.size + 1, 0, none⟩ (.string ⟨#[]⟩)).setCell ⟨w.heap.size + 1, 1, none⟩ (.int .i64 0)).cell? ⟨w.heap.size + 1, 1, none⟩ = some (.int .i64 0) := by rw [cell_of_row _ _ 1 _ _ _ hfin]; rfl
          have hbf : Below w.heap.size w (((wr).setCell ⟨w.heap.size + 1, 0, none⟩ (.string ⟨#[]⟩)).setCell ⟨w.heap.size + 1, 1, none⟩ (.int .i64 0)) := (HIr.out.below.setCell (by simp) _).setCell (by simp) _
          clear hb0 hfin
          go_wp2
          refine bodyPost_ret (v := .tuple #[.agg #[.string ⟨#[]⟩, .int .i64 0], .bool false]) (by simp [results, Try.results8, go_sem, g0, g1]) rfl ⟨rfl, ?_⟩
          exact hbf
        | false =>
          have hx1 : x.kd = 1 := by simpa using hkd
          have Hx1k := Lib.hid hx1
          clear hx1
          go_wp2
          obtain ⟨wo, hwo⟩ : ∃ W, W = wr := ⟨_, rfl⟩
          subst hwo
          go_loopw [6] (fun j wr => ∃ q : Nat, q ≤ k ∧ j = .int .i64 q ∧ Hid ((((a.ts.take k).take q).map Tm.it).contains x.it = false) ∧ Hid (IdR #[.string nm, .slice (some ⟨ka, ko, none⟩) 1 kc, .slice (some ⟨ra, ro, none⟩) 1 rc, .slice gA 0 gc, .slice bA bd.length bc, .int .i64 vs] w wr) ∧ Below wo.heap.size wo wr) (fun j _ => k - (intOf j).toNat)
          case atStart => exact ⟨0, Nat.zero_le _, rfl, Lib.hid (by simp), HIr, Below.refl _ _⟩
          case round =>
            obtain ⟨q, hq, rfl, Hno, HIq, hbq⟩ := hrel
            by_cases hqk : q < k
            · obtain ⟨y, hy⟩ : ∃ y, a.ts[q]? = some y := ⟨_, List.getElem?_eq_getElem (by omega)⟩
              have hyk := hall.out q y hqk hy
              have hql : q < a.ts.length := by omega
              obtain ⟨tb', tf', hbo, htb', hy1⟩ := (TmsAt.below HB.out HIq.out.below).2 q y hy
              simp only [Option.some.injEq, Addr.mk.injEq, and_true] at hbo
              obtain ⟨rfl, rfl⟩ := hbo
              have Hseen := Lib.hid (seen_succ (z := x.it) hqk hy)
              obtain ⟨⟨s0, _⟩, ⟨s1, _⟩, ⟨s2, _⟩, B3, d3, s3, hB3⟩ := hy1.open_
              have r0 := (hbq.cell (p := ⟨tb, tf + k * 4, none⟩) htb).trans p0
              have r1 := (hbq.cell (p := ⟨tb, tf + k * 4 + 1, none⟩) htb).trans p1
              have r2 := (hbq.cell (p := ⟨tb, tf + k * 4 + 2, none⟩) htb).trans p2
              have r3 := (hbq.cell (p := ⟨tb, tf + k * 4 + 3, none⟩) htb).trans p3
              have hdr : Below wr.heap.size wr wr.drew := (Below.refl _ _).drew
              have h0 := rsameT_any y x B3 B2 d3 d2 wr.drew (TmsAt.below hB3 hdr) (TmsAt.below HB2.out (hbq.trans (hdr.mono hbq.size)))
              unfold tmv at h0
              have hcmp := cmp_vars hyk Hx1k.out
              have Hbq := Lib.hid hbq
              clear hy hy1 hB3 hyk hbq
              cases hc : (y.it == x.it) with
              | true =>
                rw [show (cmpT y x == 0) = true from hcmp.trans hc] at h0
                have hcall := Lib.hid h0
                have hX : X = .tuple #[.agg #[.string ⟨#[]⟩, .int .i64 0], .bool false] := HX.out.symm.trans (by
                  split
                  · rfl
                  · rw [if_neg (by rw [hid.out.fail Hx.out (by
                      have h1 : ((a.ts.take k).map Tm.it).contains x.it = true := by
                        have h2 := Hseen.out
                        rw [hc, Bool.or_true] at h2
                        rw [List.contains_iff_exists_mem_beq] at h2 ⊢
                        obtain ⟨z, hz, e⟩ := h2
                        refine ⟨z, ?_, e⟩
                        obtain ⟨t, ht, rfl⟩ := List.mem_map.1 hz
                        exact List.mem_map.2 ⟨t, List.mem_of_mem_take ht, rfl⟩
                      rw [h1, Bool.or_true])]; simp)]; rfl)
                subst hX
                clear HX h0 hcmp hc
                go_wp2
                go_still_tail 8, (by kernel_rfl)
                change wpList _ _ _ _ _ wr.drew
                go_wp2_with fail
                refine hcall.out.mono ?_
                rintro e w3 ⟨rfl, hb3⟩
                have HI3 := Lib.hid (HIq.out.next (hdr.trans hb3))
                clear hb3
                have hb0 := HI3.out.b1
                have l1 := lt_of_block hb0
                have r0 : (w3).cell? ⟨w.heap.size + 1, 0, none⟩ = some (.string ⟨#[]⟩) := by rw [cell_of_row _ _ 0 _ _ _ hb0]; rfl
                have r1 : (w3).cell? ⟨w.heap.size + 1, 1, none⟩ = some (.int .i64 0) := by rw [cell_of_row _ _ 1 _ _ _ hb0]; rfl
                have f0 : (w3).frozen? ⟨w.heap.size + 1, 0, none⟩ = false := by simp [World.frozen?, hb0]
                have f1 : (w3).frozen? ⟨w.heap.size + 1, 1, none⟩ = false := by simp [World.frozen?, hb0]
                have hfin := two_set (u0 := .string ⟨#[]⟩) (u1 := .int .i64 0) hb0
                have g0 : (((w3).setCell ⟨w.heap.size + 1, 0, none⟩ (.string ⟨#[]⟩)).setCell ⟨w.heap.size + 1, 1, none⟩ (.int .i64 0)).cell? ⟨w.heap.size + 1, 0, none⟩ = some (.string ⟨#[]⟩) := by rw [cell_of_row _ _ 0 _ _ _ hfin]; rfl
                have g1 : (((w3).setCell ⟨w.heap.size + 1, 0, none⟩ (.string ⟨#[]⟩)).setCell ⟨w.heap.size + 1, 1, none⟩ (.int .i64 0)).cell? ⟨w.heap.size + 1, 1, none⟩ = some (.int .i64 0) := by rw [cell_of_row _ _ 1 _ _ _ hfin]; rfl
                have hbf : Below w.heap.size w (((w3).setCell ⟨w.heap.size + 1, 0, none⟩ (.string ⟨#[]⟩)).setCell ⟨w.heap.size + 1, 1, none⟩ (.int .i64 0)) := (HI3.out.below.setCell (by simp) _).setCell (by simp) _
                clear hb0 hfin
                go_wp2
                refine bodyPost_ret (v := .tuple #[.agg #[.string ⟨#[]⟩, .int .i64 0], .bool false]) (by simp [results, Try.results8, go_sem, g0, g1]) rfl ⟨rfl, ?_⟩
                exact hbf
              | false =>
                rw [show (cmpT y x == 0) = false from hcmp.trans hc] at h0
                have hcall := Lib.hid h0
                have Hnx : Hid ((((a.ts.take k).take (q + 1)).map Tm.it).contains x.it = false) := Lib.hid (by rw [Hseen.out, Hno.out, hc]; rfl)
                clear h0 hcmp hc
                go_wp2
                go_still_tail 8, (by kernel_rfl)
                change wpList _ _ _ _ _ wr.drew
                go_wp2_with fail
                refine hcall.out.mono ?_
                rintro e w3 ⟨rfl, hb3⟩
                have HI3 := Lib.hid (HIq.out.next (hdr.trans hb3))
                have Hb3 := Lib.hid (Hbq.out.trans ((hdr.trans hb3).mono Hbq.out.size))
                clear hb3
                go_wp2
                go_roundw
                case rel => exact ⟨q + 1, by omega, by go_num, Hnx, HI3, Hb3.out⟩
                case measure => simp [intOf]; omega
            · obtain rfl : q = k := by omega
              have hno := Hno.out
              rw [List.take_take, Nat.min_self] at hno
              have hid2 := Lib.hid (hid.out.step Hx.out (by rw [hkd, hno]; rfl))
              have hall2 := Lib.hid (show ∀ (j : Nat) (y : Tm), j < q + 1 → a.ts[j]? = some y → y.kd = 1 from fun j y hj hy => by
                by_cases h : j < q
                · exact hall.out j y h hy
                · obtain rfl : j = q := by omega
                  rw [Hx.out] at hy; cases hy; exact Hx1k.out)
              clear hno
              go_wp2
              go_roundw
              case rel => exact ⟨q + 1, by omega, hid2, hall2, by go_num, HIq⟩
              case measure => simp [intOf]; omega
      · obtain rfl : k = a.ts.length := by omega
        have hok := hid.out.done
        have Hok := Lib.hid hok
        clear hok
        have hb0 := HIr.out.b0
        have l0 := lt_of_block hb0
        have c1 : wr.cell? ⟨w.heap.size, 1, none⟩ = some (.slice (some ⟨ka, ko, none⟩) 1 kc) := by rw [cell_of_row _ _ 1 _ _ _ hb0]; rfl
        have c4 : wr.cell? ⟨w.heap.size, 4, none⟩ = some (.slice bA bd.length bc) := by rw [cell_of_row _ _ 4 _ _ _ hb0]; rfl
        have z0 : wr.cell? ⟨ka, ko, none⟩ = some (.string a.nm) := (HIr.out.below.cell (p := ⟨ka, ko, none⟩) hka).trans X0.out
        have lka := Nat.lt_of_lt_of_le hka HIr.out.below.size
        clear hb0 hka' hlt
        go_wp2
        go_loop [7] (fun j => ∃ q : Nat, q ≤ bd.length ∧ j = .int .i64 q ∧ Hid ((bd.take q).any notTrue = false)) (fun j => bd.length - (intOf j).toNat)
        case atStart => exact ⟨0, Nat.zero_le _, rfl, Lib.hid rfl⟩
        case round =>
          obtain ⟨q, hq, rfl, Hno⟩ := hrel
          by_cases hqb : q < bd.length
          · obtain ⟨g, hg⟩ : ∃ g, bd[q]? = some g := ⟨_, List.getElem?_eq_getElem hqb⟩
            obtain ⟨gb, go, rfl, hgb, ⟨m0, _⟩, _⟩ := (Hbd.out.below GlAt.stable HIr.out.below).2 q g hg
            cases hp : (g.op != 1) with
            | true =>
              have hX : X = .tuple #[.agg #[.string ⟨#[]⟩, .int .i64 0], .bool false] := HX.out.symm.trans (if_pos (.inr (any_at hg hp)))
              subst hX
              clear HX hg
              have hb0 := HIr.out.b1
              have l1 := lt_of_block hb0
              have r0 : (wr).cell? ⟨w.heap.size + 1, 0, none⟩ = some (.string ⟨#[]⟩) := by rw [cell_of_row _ _ 0 _ _ _ hb0]; rfl
              have r1 : (wr).cell? ⟨w.heap.size + 1, 1, none⟩ = some (.int .i64 0) := by rw [cell_of_row _ _ 1 _ _ _ hb0]; rfl
              have f0 : (wr).frozen? ⟨w.heap.size + 1, 0, none⟩ = false := by simp [World.frozen?, hb0]
              have f1 : (wr).frozen? ⟨w.heap.size + 1, 1, none⟩ = false := by simp [World.frozen?, hb0]
              have hfin := two_set (u0 := .string ⟨#[]⟩) (u1 := .int .i64 0) hb0
              have g0 : (((wr).setCell ⟨w.heap.size + 1, 0, none⟩ (.string ⟨#[]⟩)).setCell ⟨w.heap.size + 1, 1, none⟩ (.int .i64 0)).cell? ⟨w.heap.size + 1, 0, none⟩ = some (.string ⟨#[]⟩) := by rw [cell_of_row _ _ 0 _ _ _ hfin]; rfl
              have g1 : (((wr).setCell ⟨w.heap.size + 1, 0, none⟩ (.string ⟨#[]⟩)).setCell ⟨w.heap.size + 1, 1, none⟩ (.int .i64 0)).cell? ⟨w.heap.size + 1, 1, none⟩ = some (.int .i64 0) := by rw [cell_of_row _ _ 1 _ _ _ hfin]; rfl
              have hbf : Below w.heap.size w (((wr).setCell ⟨w.heap.size + 1, 0, none⟩ (.string ⟨#[]⟩)).setCell ⟨w.heap.size + 1, 1, none⟩ (.int .i64 0)) := (HIr.out.below.setCell (by simp) _).setCell (by simp) _
              clear hb0 hfin
              go_wp2
              refine bodyPost_ret (v := .tuple #[.agg #[.string ⟨#[]⟩, .int .i64 0], .bool false]) (by simp [results, Try.results8, go_sem, g0, g1]) rfl ⟨rfl, ?_⟩
              exact hbf
            | false =>
              have Hn := Lib.hid (none_succ hg hp Hno.out)
              clear hg
              go_wp2
              go_round
              case rel => exact ⟨q + 1, by omega, by go_num, Hn⟩
              case measure => simp [intOf]; omega
          · obtain rfl : q = bd.length := by omega
            have hX : X = .tuple #[.agg #[.string a.nm, .int .i64 a.ts.length], .bool true] := HX.out.symm.trans (by
              have hno := Hno.out
              rw [List.take_length] at hno
              rw [if_neg (by rw [Hs.out, hno]; simp), if_pos Hok.out]; rfl)
            subst hX
            clear HX
            have hb0 := HIr.out.b1
            have l1 := lt_of_block hb0
            have r0 : wr.cell? ⟨w.heap.size + 1, 0, none⟩ = some (.string ⟨#[]⟩) := by rw [cell_of_row _ _ 0 _ _ _ hb0]; rfl
            have r1 : wr.cell? ⟨w.heap.size + 1, 1, none⟩ = some (.int .i64 0) := by rw [cell_of_row _ _ 1 _ _ _ hb0]; rfl
            have f0 : wr.frozen? ⟨w.heap.size + 1, 0, none⟩ = false := by simp [World.frozen?, hb0]
            have f1 : wr.frozen? ⟨w.heap.size + 1, 1, none⟩ = false := by simp [World.frozen?, hb0]
            have hfin := two_set (u0 := .string a.nm) (u1 := .int .i64 a.ts.length) hb0
            have g0 : ((wr.setCell ⟨w.heap.size + 1, 0, none⟩ (.string a.nm)).setCell ⟨w.heap.size + 1, 1, none⟩ (.int .i64 a.ts.length)).cell? ⟨w.heap.size + 1, 0, none⟩ = some (.string a.nm) := by rw [cell_of_row _ _ 0 _ _ _ hfin]; rfl
            have g1 : ((wr.setCell ⟨w.heap.size + 1, 0, none⟩ (.string a.nm)).setCell ⟨w.heap.size + 1, 1, none⟩ (.int .i64 a.ts.length)).cell? ⟨w.heap.size + 1, 1, none⟩ = some (.int .i64 a.ts.length) := by rw [cell_of_row _ _ 1 _ _ _ hfin]; rfl
            have hbf : Below w.heap.size w ((wr.setCell ⟨w.heap.size + 1, 0, none⟩ (.string a.nm)).setCell ⟨w.heap.size + 1, 1, none⟩ (.int .i64 a.ts.length)) := (HIr.out.below.setCell (by simp) _).setCell (by simp) _
            clear hb0 hfin
            go_wp2
            refine bodyPost_ret (v := .tuple #[.agg #[.string a.nm, .int .i64 a.ts.length], .bool true]) (by simp [results, Try.results8, go_sem, g0, g1]) rfl ⟨rfl, ?_⟩
            exact hbf
theorem ridem_any (r : Rl) (kA rA gA bA : Option Addr) (kc rc gc bc : Nat) (w : World) (hk : SlAt AtAt 2 w kA r.kp) (hr : SlAt AtAt 2 w rA r.rm) (hg : SlAt GlAt 3 w gA r.gd) (hbd : SlAt GlAt 3 w bA r.bd) :
    Calls Try.prog 8 #[rlv r kA rA gA bA kc rc gc bc] w fun e w' => e = .returned (.tuple #[dcv (idem r).1, .bool (idem r).2]) ∧ Below w.heap.size w w' := by
  by_cases h : r.kp.length ≠ 1 ∨ r.rm.length ≠ 1 ∨ 0 < r.gd.length
  · have := ridem_early r kA rA gA bA kc rc gc bc w hk hr hg h
    unfold idem
    rw [if_pos h]
    exact this
  · obtain ⟨nm, kp, rm, gd, bd, vs⟩ := r
    simp only at h hk hr hg hbd
    have h1 : kp.length = 1 := by omega
    have h2 : rm.length = 1 := by omega
    have h3 : gd.length = 0 := by omega
    obtain ⟨a, rfl⟩ := List.length_eq_one_iff.1 h1
    obtain ⟨b, rfl⟩ := List.length_eq_one_iff.1 h2
    obtain rfl := List.length_eq_zero_iff.1 h3
    have h4 := ridem_main nm a b bd vs kA rA gA bA kc rc gc bc w hk hr hbd
    unfold rlv
    refine h4.mono ?_
    rintro e w' ⟨rfl, hb⟩
    refine ⟨?_, hb⟩
    unfold idem
    rw [if_neg h]
    have x1 : xa [a] 0 = a := rfl
    have x2 : xa [b] 0 = b := rfl
    simp only [x1, x2]
    congr 1
    split
    · rfl
    · split <;> rfl
end Go.Proofs.Ytahhaiomdjlckaa
