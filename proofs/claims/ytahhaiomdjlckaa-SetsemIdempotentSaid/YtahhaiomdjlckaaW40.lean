/-
  The walks of vars and VarsOf, in the reference.
-/
import Derived.Test.YtahhaiomdjlckaaW39
namespace Go.Proofs.Ytahhaiomdjlckaa
set_option linter.unusedVariables false
set_option linter.unusedSimpArgs false
open Go.RowKit

theorem szL_takeLe : ∀ (l : List Tm) (k : Nat), szL (l.take k) ≤ szL l
  | [], k => by simp [szL]
  | t :: ts, 0 => by simp [szL]
  | t :: ts, k + 1 => by simp only [List.take_succ_cons, szL]; have := szL_takeLe ts k; omega
mutual
theorem vsT_len : ∀ (t : Tm) (l : List Int), (vsT l t).length ≤ l.length + szT t
  | .mk kd it nm ts, l => by
    unfold vsT szT
    split
    · split
      · omega
      · simp
    · split
      · have := vsL_len ts l; omega
      · omega
theorem vsL_len : ∀ (ts : List Tm) (l : List Int), (vsL l ts).length ≤ l.length + szL ts
  | [], l => by unfold vsL szL; omega
  | t :: ts, l => by
    unfold vsL szL
    have h1 := vsL_len ts (vsT l t)
    have h2 := vsT_len t l
    omega
end
theorem cells_four {w : World} {b : Nat} {t : TypeId} {x0 x1 x2 x3 : Value} (h : w.heap[b]? = some (.cells #[x0, x1, x2, x3] t (0, 0))) : w.cell? ⟨b, 0, none⟩ = some x0 ∧ w.cell? ⟨b, 1, none⟩ = some x1 ∧ w.cell? ⟨b, 2, none⟩ = some x2 ∧ w.cell? ⟨b, 3, none⟩ = some x3 :=
  ⟨by rw [cell_of_row _ _ 0 _ _ _ h]; rfl, by rw [cell_of_row _ _ 1 _ _ _ h]; rfl, by rw [cell_of_row _ _ 2 _ _ _ h]; rfl, by rw [cell_of_row _ _ 3 _ _ _ h]; rfl⟩
theorem szT_pos (t : Tm) : 0 < szT t := by obtain ⟨a, b, c, d⟩ := t; unfold szT; omega
theorem len_szL : ∀ l : List Tm, l.length ≤ szL l
  | [] => Nat.le_refl _
  | t :: ts => by
    simp only [List.length_cons, szL]
    have := len_szL ts
    have := szT_pos t
    omega
theorem vsL_take {l : List Int} {ts : List Tm} {k : Nat} {x : Tm} (h : ts[k]? = some x) : vsL l (ts.take (k + 1)) = vsT (vsL l (ts.take k)) x := by
  rw [List.take_add_one, h, vsL_app]
  simp [vsL]
def VarsN (n : Nat) : Prop := ∀ (t : Tm) (A : Option Addr) (c : Nat) (l : List Int) (v : Value) (w0 w : World), SizeOf.sizeOf t ≤ n → TmsAt w0 A t.ts → I64 t.it → Below w0.heap.size w0 w → Owned RI 3 1 w0 w v l → l.length + szT t ≤ 100000 →
  Calls Try.prog 64 #[v, tmv t A c] w fun e w' => ∃ v', e = .returned v' ∧ Owned RI 3 1 w0 w' v' (vsT l t) ∧ Below w0.heap.size w0 w'

set_option maxRecDepth 100000 in
set_option maxHeartbeats 2000000 in
theorem vars_step (n : Nat) (ih : VarsN n) : VarsN (n + 1) := by
  intro t A c l v w0 w hn hA hit hB hO hlen
  obtain ⟨i0, hi, hz0, hz1, hz2⟩ := info_parts Try.infoInt
  obtain ⟨B', c', rfl⟩ := hO.shape
  have hts := hA.1
  unfold maxLen at hts
  have hsz := szT_pos t
  have hll : l.length ≤ 1000000 := by omega
  have hw1 : Below w.heap.size w (w.alloc (.cells #[.int .i64 t.kd, .int .i64 t.it, .string t.nm, .slice A t.ts.length c] 69)) := (Below.refl _ _).alloc (Nat.le_refl _) _
  have HB1 := Lib.hid (hB.trans (hw1.mono hB.size))
  have HO1 := Lib.hid (hO.below hw1)
  have b1 := heap_alloc_new w (.cells #[.int .i64 t.kd, .int .i64 t.it, .string t.nm, .slice A t.ts.length c] 69)
  have Hb1 := Lib.hid b1
  have Hhas := Lib.hid (fun n W => has_any l n B' c' w0 W)
  have Hargs := Lib.hid (fun W => args_any t A c W)
  have Hi := Lib.hid hi
  have Hz0 := Lib.hid hz0
  have Hz1 := Lib.hid hz1
  have Hz2 := Lib.hid hz2
  have HA := Lib.hid hA
  have Hih := Lib.hid ih
  have HN := Lib.hid hn
  have HLen := Lib.hid hlen
  have Hit := Lib.hid hit
  clear hi hz0 hz1 hz2 hA ih hn hO hB hw1 b1
  unfold tmv at Hargs ⊢
  cases h1 : (t.kd == 1) with
  | true =>
    have q1 : t.kd = 1 := by simpa using h1
    have qa : argsV t A c = .slice none 0 0 := by unfold argsV; rw [if_neg (by omega)]
    cases hc : l.contains t.it with
    | true =>
      have hv : vsT l t = l := by obtain ⟨a, b, d, e⟩ := t; simp only [Tm.kd, Tm.it] at q1 hc; unfold vsT; rw [if_pos q1, if_pos hc]
      rw [hv]
      have Hc := Lib.hid hc
      have Hq := Lib.hid qa
      clear hv hc q1 qa hlen hit
      go_enter Try.func64, Try.ntmps64
      go_wp2_with fail
      refine (Hhas.out _ _ HO1.out hll).mono ?_
      rintro e w2 ⟨rfl, hb2⟩
      rw [Hc.out]
      have HB2 := Lib.hid (HB1.out.trans (hb2.mono HB1.out.size))
      have HO2 := Lib.hid (HO1.out.below hb2)
      have b2 := (hb2.block _ (lt_of_block Hb1.out)).trans Hb1.out
      have l2 := lt_of_block b2
      obtain ⟨e0, e1, e2, e3⟩ := cells_four b2
      clear hb2
      go_wp2_with fail
      refine (Hargs.out _).mono ?_
      rintro e w3 ⟨rfl, hb3⟩
      rw [Hq.out]
      have HB3 := Lib.hid (HB2.out.trans (hb3.mono HB2.out.size))
      have HO3 := Lib.hid (HO2.out.below hb3)
      clear hb3 b2
      go_wp2
      go_loopw [0, 6] (fun r i wr => i = .int .i64 0 ∧ r = .slice B' l.length c' ∧ Hid (Owned RI 3 1 w0 wr (.slice B' l.length c') l) ∧ Hid (Below w0.heap.size w0 wr)) (fun _ i _ => 0)
      case atStart => exact ⟨rfl, rfl, HO3, HB3⟩
      case round =>
        obtain ⟨rfl, rfl, HOr, HBr⟩ := hrel
        go_wp2
        go_ret
        exact ⟨_, rfl, HOr.out, HBr.out⟩
    | false =>
      have hv : vsT l t = l ++ [t.it] := by obtain ⟨a, b, d, e⟩ := t; simp only [Tm.kd, Tm.it] at q1 hc; unfold vsT; rw [if_pos q1, if_neg (by rw [hc]; simp)]; rfl
      rw [hv]
      have Hc := Lib.hid hc
      have Hq := Lib.hid qa
      clear hv hc q1 qa hlen hit
      go_enter Try.func64, Try.ntmps64
      go_wp2_with fail
      refine (Hhas.out _ _ HO1.out hll).mono ?_
      rintro e w2 ⟨rfl, hb2⟩
      rw [Hc.out]
      have HB2 := Lib.hid (HB1.out.trans (hb2.mono HB1.out.size))
      have HO2 := Lib.hid (HO1.out.below hb2)
      have b2 := (hb2.block _ (lt_of_block Hb1.out)).trans Hb1.out
      have c1 : w2.cell? ⟨w.heap.size, 1, none⟩ = some (.int .i64 t.it) := by rw [cell_of_row _ _ 1 _ _ _ b2]; rfl
      have hw3 : Below w2.heap.size w2 (w2.alloc (.cells #[.int .i64 t.it] 3)) := (Below.refl _ _).alloc (Nat.le_refl _) _
      have HB3 := Lib.hid (HB2.out.trans (hw3.mono HB2.out.size))
      have HO3 := Lib.hid (HO2.out.below hw3)
      have Hb3 := Lib.hid ((hw3.block _ (lt_of_block b2)).trans b2)
      have lt2 := lt_of_block b2
      have Src := Lib.hid (Srcs.one_el (sz := 1) (w0 := w0) (w := w2.alloc (.cells #[.int .i64 t.it] 3)) (A := ⟨w2.heap.size, 0, none⟩) (cs := [.int .i64 t.it]) rfl (RI.one (w := w0) ⟨rfl, Hit.out⟩) (x := t.it) (R := RI) ⟨rfl, Hit.out⟩ (World.news_of_block (cs := #[.int .i64 t.it]) (t := 3) (fr := (0, 0)) (heap_alloc_new w2 _)))
      have C1 := Lib.hid (show l.length + [t.it].length ≤ maxLen from by simp; unfold maxLen; omega)
      have C2 := Lib.hid (show (l.length + [t.it].length) * 8 ≤ 140737488355328 from by simp; omega)
      clear hb2 b2 hw3
      go_wp2_with (at_builtin; refine wpList_append_sl (l2 := [t.it]) rfl _ _ 55 rfl i0 _ 8 Try.underlying55 Hi.out Hz0.out Hz1.out Hz2.out rfl (by decide) rfl HO3.out rfl Src.out C1.out C2.out HB3.out ?_)
      intro v4 w4 hown4 hb4 hg4
      have b4 := HO3.out.other hg4 Hb3.out (by decide)
      have l4 := lt_of_block b4
      obtain ⟨e0, e1, e2, e3⟩ := cells_four b4
      have HO4 := Lib.hid hown4
      have HB4 := Lib.hid hb4
      clear hown4 hb4 hg4
      go_wp2_with fail
      refine (Hargs.out _).mono ?_
      rintro e w5 ⟨rfl, hb5⟩
      rw [Hq.out]
      have HB5 := Lib.hid (HB4.out.trans (hb5.mono HB4.out.size))
      have HO5 := Lib.hid (HO4.out.below hb5)
      clear hb5 b4
      go_wp2
      go_loopw [0, 6] (fun r i wr => i = .int .i64 0 ∧ Hid (Owned RI 3 1 w0 wr r (l ++ [t.it])) ∧ Hid (Below w0.heap.size w0 wr)) (fun _ i _ => 0)
      case atStart => exact ⟨rfl, HO5, HB5⟩
      case round =>
        obtain ⟨rfl, HOr, HBr⟩ := hrel
        go_wp2
        go_ret
        exact ⟨_, rfl, HOr.out, HBr.out⟩
  | false =>
    have q1 : ¬ t.kd = 1 := by simpa using h1
    cases h2 : (t.kd == 2) with
    | true =>
      have q2 : t.kd = 2 := by simpa using h2
      have qa : argsV t A c = .slice A t.ts.length c := by unfold argsV; rw [if_pos q2]
      have hv : vsT l t = vsL l t.ts := by obtain ⟨a, b, d, e⟩ := t; simp only [Tm.kd] at q1 q2; unfold vsT; rw [if_neg q1, if_pos q2]; rfl
      have hst := szT_mk t
      rw [hv]
      have Hq := Lib.hid qa
      clear hv q1 q2 qa hit
      go_enter Try.func64, Try.ntmps64
      have b2 := Hb1.out
      go_wp2_with fail
      refine (Hargs.out _).mono ?_
      rintro e w3 ⟨rfl, hb3⟩
      rw [Hq.out]
      have HB3 := Lib.hid (HB1.out.trans (hb3.mono HB1.out.size))
      have HO3 := Lib.hid (HO1.out.below hb3)
      clear hb3 b2
      go_wp2
      go_loopw [0, 6] (fun r i wr => ∃ k : Nat, k ≤ t.ts.length ∧ i = .int .i64 k ∧ Hid (Owned RI 3 1 w0 wr r (vsL l (t.ts.take k))) ∧ Hid (Below w0.heap.size w0 wr)) (fun _ i _ => t.ts.length - (intOf i).toNat)
      case atStart => exact ⟨0, Nat.zero_le _, rfl, Lib.hid (by rw [List.take_zero, vsL]; exact HO3.out), HB3⟩
      case round =>
        obtain ⟨k, hk, rfl, HOr, HBr⟩ := hrel
        by_cases hlt : k < t.ts.length
        · obtain ⟨x, hx⟩ : ∃ x, t.ts[k]? = some x := ⟨_, List.getElem?_eq_getElem hlt⟩
          obtain ⟨b, off, rfl, hblt, hx1⟩ := HA.out.2 k x hx
          obtain ⟨⟨p0, s0⟩, ⟨p1, s1⟩, ⟨p2, s2⟩, B, d, p3, hB⟩ := hx1.open_
          have f0 := (HBr.out.cell (p := ⟨b, off + k * 4, none⟩) hblt).trans p0
          have f1 := (HBr.out.cell (p := ⟨b, off + k * 4 + 1, none⟩) hblt).trans p1
          have f2 := (HBr.out.cell (p := ⟨b, off + k * 4 + 2, none⟩) hblt).trans p2
          have f3 := (HBr.out.cell (p := ⟨b, off + k * 4 + 3, none⟩) hblt).trans p3
          have hszx : SizeOf.sizeOf x ≤ n := by
            have := List.sizeOf_lt_of_mem (List.mem_of_getElem? hx)
            have := size_ts t
            have := HN.out
            omega
          have hlx : (vsL l (t.ts.take k)).length + szT x ≤ 100000 := by
            have e1 := vsL_len (t.ts.take k) l
            have e2 := szL_take hx
            have e3 := szL_takeLe t.ts (k + 1)
            have e4 := szT_mk x
            have e5 := HLen.out
            omega
          have hcall := Lib.hid (fun v W => Hih.out x B d (vsL l (t.ts.take k)) v w0 W hszx hB s1)
          unfold tmv at hcall
          have Hlx := Lib.hid hlx
          have Hx := Lib.hid hx
          clear p0 p1 p2 p3 hx1 hB hszx hlx hx
          go_wp2_with fail
          refine (hcall.out _ _ HBr.out HOr.out Hlx.out).mono ?_
          rintro e w4 ⟨v4, rfl, hown4, hb4⟩
          rw [← vsL_take Hx.out] at hown4
          have HO4 := Lib.hid hown4
          have HB4 := Lib.hid hb4
          clear hown4 hb4 f0 f1 f2 f3
          go_wp2
          go_roundw
          case rel => exact ⟨k + 1, by omega, by go_num, HO4, HB4⟩
          case measure => simp [intOf]; omega
        · obtain rfl : k = t.ts.length := by omega
          go_wp2
          go_ret
          exact ⟨_, rfl, by have := HOr.out; rwa [List.take_length] at this, HBr.out⟩
    | false =>
      have q2 : ¬ t.kd = 2 := by simpa using h2
      have qa : argsV t A c = .slice none 0 0 := by unfold argsV; rw [if_neg q2]
      have hv : vsT l t = l := by obtain ⟨a, b, d, e⟩ := t; simp only [Tm.kd] at q1 q2; unfold vsT; rw [if_neg q1, if_neg q2]
      rw [hv]
      have Hq := Lib.hid qa
      clear hv q1 q2 qa hit
      go_enter Try.func64, Try.ntmps64
      have b2 := Hb1.out
      go_wp2_with fail
      refine (Hargs.out _).mono ?_
      rintro e w3 ⟨rfl, hb3⟩
      rw [Hq.out]
      have HB3 := Lib.hid (HB1.out.trans (hb3.mono HB1.out.size))
      have HO3 := Lib.hid (HO1.out.below hb3)
      clear hb3 b2
      go_wp2
      go_loopw [0, 6] (fun r i wr => i = .int .i64 0 ∧ Hid (Owned RI 3 1 w0 wr r l) ∧ Hid (Below w0.heap.size w0 wr)) (fun _ i _ => 0)
      case atStart => exact ⟨rfl, HO3, HB3⟩
      case round =>
        obtain ⟨rfl, HOr, HBr⟩ := hrel
        go_wp2
        go_ret
        exact ⟨_, rfl, HOr.out, HBr.out⟩
theorem vars_all : ∀ n, VarsN n := by
  intro n
  induction n with
  | zero => intro t A c l v w0 w hn; exact absurd hn (by cases t; simp)
  | succ n ih => exact vars_step n ih

set_option maxRecDepth 100000 in
set_option maxHeartbeats 2000000 in
theorem varsOf_any (l : List Tm) (A : Option Addr) (c : Nat) (w : World) (hA : TmsAt w A l) (hlen : szL l ≤ 100000) :
    Calls Try.prog 49 #[.slice A l.length c] w fun e w' => ∃ v', e = .returned v' ∧ Owned RI 3 1 w w' v' (vsL [] l) ∧ Below w.heap.size w w' := by
  have hts := hA.1
  unfold maxLen at hts
  have HA := Lib.hid hA
  have HLen := Lib.hid hlen
  clear hA hlen
  go_enter Try.func49, Try.ntmps49
  go_wp2
  go_loopw [3, 4] (fun r i wr => ∃ k : Nat, k ≤ l.length ∧ i = .int .i64 k ∧ Hid (Owned RI 3 1 w wr r (vsL [] (l.take k))) ∧ Hid (Below w.heap.size w wr)) (fun _ i _ => l.length - (intOf i).toNat)
  case atStart => exact ⟨0, Nat.zero_le _, rfl, Lib.hid (by rw [List.take_zero, vsL]; exact Owned.nil), Lib.hid (Below.refl _ _)⟩
  case round =>
    obtain ⟨k, hk, rfl, HOr, HBr⟩ := hrel
    by_cases hlt : k < l.length
    · obtain ⟨x, hx⟩ : ∃ x, l[k]? = some x := ⟨_, List.getElem?_eq_getElem hlt⟩
      obtain ⟨b, off, rfl, hblt, hx1⟩ := HA.out.2 k x hx
      obtain ⟨⟨p0, s0⟩, ⟨p1, s1⟩, ⟨p2, s2⟩, B, d, p3, hB⟩ := hx1.open_
      have f0 := (HBr.out.cell (p := ⟨b, off + k * 4, none⟩) hblt).trans p0
      have f1 := (HBr.out.cell (p := ⟨b, off + k * 4 + 1, none⟩) hblt).trans p1
      have f2 := (HBr.out.cell (p := ⟨b, off + k * 4 + 2, none⟩) hblt).trans p2
      have f3 := (HBr.out.cell (p := ⟨b, off + k * 4 + 3, none⟩) hblt).trans p3
      have hlx : (vsL [] (l.take k)).length + szT x ≤ 100000 := by
        have e1 := vsL_len (l.take k) []
        have e2 := szL_take hx
        have e3 := szL_takeLe l (k + 1)
        have e4 := szT_mk x
        have e5 := HLen.out
        simp at e1
        omega
      have hcall := Lib.hid (fun v W => vars_all _ x B d (vsL [] (l.take k)) v w W (Nat.le_refl _) hB s1)
      unfold tmv at hcall
      have Hlx := Lib.hid hlx
      have Hx := Lib.hid hx
      clear p0 p1 p2 p3 hx1 hB hlx hx
      go_wp2_with fail
      refine (hcall.out _ _ HBr.out HOr.out Hlx.out).mono ?_
      rintro e w4 ⟨v4, rfl, hown4, hb4⟩
      rw [← vsL_take Hx.out] at hown4
      have HO4 := Lib.hid hown4
      have HB4 := Lib.hid hb4
      clear hown4 hb4 f0 f1 f2 f3
      go_wp2
      go_roundw
      case rel => exact ⟨k + 1, by omega, by go_num, HO4, HB4⟩
      case measure => simp [intOf]; omega
    · obtain rfl : k = l.length := by omega
      go_wp2
      go_ret
      exact ⟨_, rfl, by have := HOr.out; rwa [List.take_length] at this, HBr.out⟩
end Go.Proofs.Ytahhaiomdjlckaa
