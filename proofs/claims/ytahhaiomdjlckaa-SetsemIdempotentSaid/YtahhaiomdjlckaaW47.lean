/-
  The walk of the law SetsemIdempotent.
-/
import Derived.Test.YtahhaiomdjlckaaW46
import Derived.Test.YtahhaiomdjlckaaW37
import Derived.Test.YtahhaiomdjlckaaW43
import Derived.Test.YtahhaiomdjlckaaW32
import Derived.Test.YtahhaiomdjlckaaW26
import Derived.Outline
namespace Go.Proofs.Ytahhaiomdjlckaa
set_option linter.unusedVariables false
set_option linter.unusedSimpArgs false
open Go.RowKit

theorem cells_two {w : World} {b : Nat} {t : TypeId} {x0 x1 : Value} (h : w.heap[b]? = some (.cells #[x0, x1] t (0, 0))) : w.cell? ⟨b, 0, none⟩ = some x0 ∧ w.cell? ⟨b, 1, none⟩ = some x1 :=
  ⟨by rw [cell_of_row _ _ 0 _ _ _ h]; rfl, by rw [cell_of_row _ _ 1 _ _ _ h]; rfl⟩
theorem sm_wrap (x : Int) : Sm (wrap64 (IntKind.i16.wrap x)) := by
  unfold Sm wrap64 IntKind.wrap
  simp [IntKind.signed, IntKind.bits]
  omega
theorem szA_app' (a b : List At) : szA (a ++ b) = szA a + szA b := szA_app a b

set_option maxRecDepth 100000 in
set_option maxHeartbeats 4000000 in
theorem setsemIdempotent_walk (r : Rl) (kA rA gA bA : Option Addr) (kc rc gc bc : Nat) (w : World) (h0 : r.nm.size ≤ maxLen) (s1 : SlAt AtAt 2 w kA r.kp) (s2 : SlAt AtAt 2 w rA r.rm) (s3 : SlAt GlAt 3 w gA r.gd) (s4 : SlAt GlAt 3 w bA r.bd) (h5 : I64 r.vs) (x : Int) (hx : I64 x) :
    Calls Try.prog 3 #[rlv r kA rA gA bA kc rc gc bc, .int .i64 x] w fun e w' => e = .returned (.bool true) ∧ Below w.heap.size w w' := by
  have hw2 : Below w.heap.size w ((w.alloc (.cells #[.string r.nm, .slice kA r.kp.length kc, .slice rA r.rm.length rc, .slice gA r.gd.length gc, .slice bA r.bd.length bc, .int .i64 r.vs] 25)).alloc (.cells #[.string r.nm, .slice kA r.kp.length kc, .slice rA r.rm.length rc, .slice gA r.gd.length gc, .slice bA r.bd.length bc, .int .i64 r.vs] 25)) := ((Below.refl _ _).alloc (Nat.le_refl _) _).alloc (by simp) _
  have hb2 : ((w.alloc (.cells #[.string r.nm, .slice kA r.kp.length kc, .slice rA r.rm.length rc, .slice gA r.gd.length gc, .slice bA r.bd.length bc, .int .i64 r.vs] 25)).alloc (.cells #[.string r.nm, .slice kA r.kp.length kc, .slice rA r.rm.length rc, .slice gA r.gd.length gc, .slice bA r.bd.length bc, .int .i64 r.vs] 25)).heap[w.heap.size]? = some (.cells #[.string r.nm, .slice kA r.kp.length kc, .slice rA r.rm.length rc, .slice gA r.gd.length gc, .slice bA r.bd.length bc, .int .i64 r.vs] 25 (0, 0)) := heap_alloc2_old _ _ _
  have hr2 : ((w.alloc (.cells #[.string r.nm, .slice kA r.kp.length kc, .slice rA r.rm.length rc, .slice gA r.gd.length gc, .slice bA r.bd.length bc, .int .i64 r.vs] 25)).alloc (.cells #[.string r.nm, .slice kA r.kp.length kc, .slice rA r.rm.length rc, .slice gA r.gd.length gc, .slice bA r.bd.length bc, .int .i64 r.vs] 25)).heap[w.heap.size + 1]? = some (.cells #[.string r.nm, .slice kA r.kp.length kc, .slice rA r.rm.length rc, .slice gA r.gd.length gc, .slice bA r.bd.length bc, .int .i64 r.vs] 25 (0, 0)) := heap_alloc2_new _ _ _
  have hrow : SlAt RlAt 6 ((w.alloc (.cells #[.string r.nm, .slice kA r.kp.length kc, .slice rA r.rm.length rc, .slice gA r.gd.length gc, .slice bA r.bd.length bc, .int .i64 r.vs] 25)).alloc (.cells #[.string r.nm, .slice kA r.kp.length kc, .slice rA r.rm.length rc, .slice gA r.gd.length gc, .slice bA r.bd.length bc, .int .i64 r.vs] 25)) (some ⟨w.heap.size + 1, 0, none⟩) [r] := by
    obtain ⟨q0, q1, q2, q3, q4, q5⟩ := cells_six hr2
    refine ⟨by simp [maxLen], fun k y hy => ?_⟩
    match k, hy with
    | 0, hy =>
      obtain rfl : r = y := by simpa using hy
      exact ⟨_, _, rfl, lt_of_block hr2, ⟨q0, h0⟩, ⟨_, _, q1, s1.below AtAt.stable hw2⟩, ⟨_, _, q2, s2.below AtAt.stable hw2⟩, ⟨_, _, q3, s3.below GlAt.stable hw2⟩, ⟨_, _, q4, s4.below GlAt.stable hw2⟩, q5, h5⟩
    | k + 1, hy => simp at hy
  have HGr := Lib.hid (greatRulesSz_any [r] (some ⟨w.heap.size + 1, 0, none⟩) 1 200 _ hrow (by decide) (by decide))
  have H1 := Lib.hid s1
  have H2 := Lib.hid s2
  have H3 := Lib.hid s3
  have H4 := Lib.hid s4
  have HB2 := Lib.hid hw2
  have Hb2 := Lib.hid hb2
  clear hw2 hb2 hr2 hrow s1 s2 s3 s4 h0 h5
  have HId := Lib.hid (fun W (hW : Below w.heap.size w W) => idem_any r kA rA gA bA kc rc gc bc W (H1.out.below AtAt.stable hW) (H2.out.below AtAt.stable hW) (H3.out.below GlAt.stable hW) (H4.out.below GlAt.stable hW))
  have HRd := Lib.hid (fun W (hW : Below w.heap.size w W) => ridem_any r kA rA gA bA kc rc gc bc W (H1.out.below AtAt.stable hW) (H2.out.below AtAt.stable hW) (H3.out.below GlAt.stable hW) (H4.out.below GlAt.stable hW))
  unfold rlv dcv at HId HRd
  unfold rlv
  obtain ⟨D, hD⟩ : ∃ D, D = idem r := ⟨_, rfl⟩
  rw [← hD] at HId HRd
  have HD := Lib.hid hD
  clear hD
  go_enter Try.func3, Try.ntmps3
  go_wp2_with fail
  refine HGr.out.mono ?_
  rintro e w3 ⟨⟨g, rfl, hg⟩, hb3⟩
  have HB3 := Lib.hid (HB2.out.trans (hb3.mono HB2.out.size))
  have bx3 := (hb3.block _ (lt_of_block Hb2.out)).trans Hb2.out
  cases g with
  | true =>
    clear hg hb3 bx3
    go_wp2
    go_ret
    exact ⟨rfl, HB3.out⟩
  | false =>
    have hsm := hg rfl r (by simp)
    have z1 := hsm.kp.2
    have z2 := hsm.rm.2
    have z3 := hsm.gd.2
    have z4 := hsm.bd.2
    have hz : szA (r.kp ++ r.rm) + szG (r.gd ++ r.bd) ≤ 100000 := by rw [szA_app, szG_app]; omega
    have Hsh := Lib.hid (fun (K : Int) (hK : Sm K) W (hW : Below w.heap.size w W) => shRule_any r kA rA gA bA kc rc gc bc K W (H1.out.below AtAt.stable hW) (H2.out.below AtAt.stable hW) (H3.out.below GlAt.stable hW) (H4.out.below GlAt.stable hW) hK (by omega) (by omega) (by omega) (by omega))
    have Hnb := Lib.hid (fun W (hW : Below w.heap.size w W) => numbered_any r kA rA gA bA kc rc gc bc W (H1.out.below AtAt.stable hW) (H2.out.below AtAt.stable hW) (H3.out.below GlAt.stable hW) (H4.out.below GlAt.stable hW) hz)
    have hvl : (vsR r).length ≤ 100000 := by
      have h1 := vsL_len (tsR r) []
      have h2 := szL_tsA (r.kp ++ r.rm)
      have h3 := szL_tsG (r.gd ++ r.bd)
      unfold vsR
      unfold tsR at *
      rw [szL_app] at h1
      simp only [List.length_nil] at h1
      omega
    have Hvl := Lib.hid hvl
    unfold rlv at Hsh Hnb
    clear hg hsm z1 z2 z3 z4 hz hvl hb3
    have lb3 := lt_of_block bx3
    have ⟨p0, p1, p2, p3, p4, p5⟩ := cells_six bx3
    have Bx3 := Lib.hid bx3
    clear bx3
    go_wp2_with fail
    refine (HId.out _ HB3.out).mono ?_
    rintro e w4 ⟨rfl, hb4⟩
    have hB4 := HB3.out.trans (hb4.mono HB3.out.size)
    have bx4 := (hb4.block _ (lt_of_block Bx3.out)).trans Bx3.out
    have hB5 : Below w.heap.size w (w4.alloc (.cells #[.string D.1.nm, .int .i64 D.1.ar] 29)) := hB4.alloc hB4.size _
    have hst5 : Below w4.heap.size w4 (w4.alloc (.cells #[.string D.1.nm, .int .i64 D.1.ar] 29)) := (Below.refl _ _).alloc (Nat.le_refl _) _
    have bx5 := (hst5.block _ (lt_of_block bx4)).trans bx4
    have da5 := heap_alloc_new w4 (.cells #[.string D.1.nm, .int .i64 D.1.ar] 29)
    have HB5 := Lib.hid hB5
    have Bx5 := Lib.hid bx5
    have Da5 := Lib.hid da5
    have lb5 := lt_of_block bx5
    have ⟨p0, p1, p2, p3, p4, p5⟩ := cells_six bx5
    clear hb4 hB4 bx4 hB5 hst5 bx5 da5
    go_wp2_with fail
    refine (HRd.out _ HB5.out).mono ?_
    rintro e w6 ⟨rfl, hb6⟩
    have hB6 := HB5.out.trans (hb6.mono HB5.out.size)
    have bx6 := (hb6.block _ (lt_of_block Bx5.out)).trans Bx5.out
    have da6 := (hb6.block _ (lt_of_block Da5.out)).trans Da5.out
    have hB7 : Below w.heap.size w (w6.alloc (.cells #[.string D.1.nm, .int .i64 D.1.ar] 29)) := hB6.alloc hB6.size _
    have hst7 : Below w6.heap.size w6 (w6.alloc (.cells #[.string D.1.nm, .int .i64 D.1.ar] 29)) := (Below.refl _ _).alloc (Nat.le_refl _) _
    have bx7 := (hst7.block _ (lt_of_block bx6)).trans bx6
    have da7 := (hst7.block _ (lt_of_block da6)).trans da6
    have db7 := heap_alloc_new w6 (.cells #[.string D.1.nm, .int .i64 D.1.ar] 29)
    have HB7 := Lib.hid hB7
    have Bx7 := Lib.hid bx7
    have Da7 := Lib.hid da7
    have Db7 := Lib.hid db7
    have lb7 := lt_of_block bx7
    clear p0 p1 p2 p3 p4 p5
    have ⟨p0, p1, p2, p3, p4, p5⟩ := cells_six bx7
    clear hb6 hB6 bx6 da6 hB7 hst7 bx7 da7 db7
    go_wp2_with fail
    refine (Hsh.out _ (sm_wrap x) _ HB7.out).mono ?_
    rintro e w8 ⟨⟨A1, A2, A3, A4, c1, c2, c3, c4, rfl, t1, t2, t3, t4⟩, hb8⟩
    obtain ⟨Rs, hRs⟩ : ∃ Rs, Rs = shRl (wrap64 (IntKind.i16.wrap x)) r := ⟨_, rfl⟩
    rw [← hRs] at t1 t2 t3 t4 ⊢
    have hB8 := HB7.out.trans (hb8.mono HB7.out.size)
    have bx8 := (hb8.block _ (lt_of_block Bx7.out)).trans Bx7.out
    have da8 := (hb8.block _ (lt_of_block Da7.out)).trans Da7.out
    have db8 := (hb8.block _ (lt_of_block Db7.out)).trans Db7.out
    have HI8 := Lib.hid (idem_any Rs A1 A2 A3 A4 c1 c2 c3 c4 w8 t1 t2 t3 t4)
    obtain ⟨E, hE⟩ : ∃ E, E = idem Rs := ⟨_, rfl⟩
    have hEq : numFrom 0 (vsR r) = true → E = D := fun h => by rw [hE, HD.out, hRs]; exact idem_numbered _ (sm_wrap x) r h Hvl.out
    rw [← hE] at HI8
    have HEq := Lib.hid hEq
    unfold dcv at HI8
    unfold rlv at HI8
    have HB8 := Lib.hid hB8
    have Bx8 := Lib.hid bx8
    have Da8 := Lib.hid da8
    have Db8 := Lib.hid db8
    clear hb8 hB8 bx8 da8 db8 hE hEq hRs t1 t2 t3 t4 p0 p1 p2 p3 p4 p5
    go_wp2_with fail
    refine HI8.out.mono ?_
    rintro e w9 ⟨rfl, hb9⟩
    have hB9 := HB8.out.trans (hb9.mono HB8.out.size)
    have bx9 := (hb9.block _ (lt_of_block Bx8.out)).trans Bx8.out
    have da9 := (hb9.block _ (lt_of_block Da8.out)).trans Da8.out
    have db9 := (hb9.block _ (lt_of_block Db8.out)).trans Db8.out
    have hBa : Below w.heap.size w (w9.alloc (.cells #[.string E.1.nm, .int .i64 E.1.ar] 29)) := hB9.alloc hB9.size _
    have hsta : Below w9.heap.size w9 (w9.alloc (.cells #[.string E.1.nm, .int .i64 E.1.ar] 29)) := (Below.refl _ _).alloc (Nat.le_refl _) _
    have bxa := (hsta.block _ (lt_of_block bx9)).trans bx9
    have daa := (hsta.block _ (lt_of_block da9)).trans da9
    have dba := (hsta.block _ (lt_of_block db9)).trans db9
    have dca := heap_alloc_new w9 (.cells #[.string E.1.nm, .int .i64 E.1.ar] 29)
    have HBa := Lib.hid hBa
    have Dca := Lib.hid dca
    have Daa := Lib.hid daa
    have lba := lt_of_block bxa
    have laa := lt_of_block daa
    have lab := lt_of_block dba
    have ⟨p0, p1, p2, p3, p4, p5⟩ := cells_six bxa
    have ⟨a0, a1⟩ := cells_two daa
    have ⟨b0, b1⟩ := cells_two dba
    clear hb9 hB9 bx9 da9 db9 hBa hsta bxa daa dba dca
    go_wp2_with fail
    refine (Hnb.out _ HBa.out).mono ?_
    rintro e wb ⟨rfl, hbb⟩
    have HBb := Lib.hid (HBa.out.trans (hbb.mono HBa.out.size))
    have dcb := (hbb.block _ (lt_of_block Dca.out)).trans Dca.out
    have dab := (hbb.block _ (lt_of_block Daa.out)).trans Daa.out
    have lcb := lt_of_block dcb
    have ldb := lt_of_block dab
    have ⟨x0, x1⟩ := cells_two dcb
    have ⟨y0, y1⟩ := cells_two dab
    clear hbb dcb dab p0 p1 p2 p3 p4 p5 a0 a1 b0 b1
    cases hn : numFrom 0 (vsR r) with
    | true =>
      obtain rfl : E = D := HEq.out hn
      clear hn
      go_wp2_with fail
      refine (live_any _).mono ?_
      rintro e wc ⟨rfl, hbc⟩
      have HBc := Lib.hid (HBb.out.trans (hbc.mono HBb.out.size))
      clear hbc
      go_wp2
      go_ret
      exact ⟨rfl, HBc.out⟩
    | false =>
      clear hn
      go_wp2_with fail
      refine (live_any _).mono ?_
      rintro e wc ⟨rfl, hbc⟩
      have HBc := Lib.hid (HBb.out.trans (hbc.mono HBb.out.size))
      clear hbc
      go_wp2
      go_ret
      exact ⟨rfl, HBc.out⟩
end Go.Proofs.Ytahhaiomdjlckaa
