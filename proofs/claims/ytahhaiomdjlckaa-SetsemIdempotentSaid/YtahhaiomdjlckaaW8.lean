/-
  The walks of merging and of repeated constraints, in the reference.
-/
import Derived.Test.YtahhaiomdjlckaaW7
import Derived.Test.YtahhaiomdjlckaaOwned
namespace Go.Proofs.Ytahhaiomdjlckaa
set_option linter.unusedVariables false
set_option linter.unusedSimpArgs false
open Go.RowKit

theorem Try.infoAtom : (Try.prog.info? 52).map (fun i => (i.zero, i.size, i.bytes)) = some (some (.agg #[.string ⟨#[]⟩, .slice none 0 0]), 2, 40) := by kernel_rfl
theorem info_parts {P : Program} {t : TypeId} {z : Option Value} {s b : Nat} (h : (P.info? t).map (fun i => (i.zero, i.size, i.bytes)) = some (z, s, b)) : ∃ i, P.info? t = some i ∧ i.zero = z ∧ i.size = s ∧ i.bytes = b := by
  cases hi : P.info? t with
  | none => rw [hi] at h; cases h
  | some i =>
    rw [hi] at h
    simp only [Option.map_some, Option.some.injEq, Prod.mk.injEq] at h
    exact ⟨i, rfl, h.1, h.2.1, h.2.2⟩
theorem cells_at {w : World} {g : Nat} {cs : List Value} {t : TypeId} {fr : Nat × Nat} (h : w.heap[g]? = some (.cells cs.toArray t fr)) : ∀ j u, cs[j]? = some u → w.cell? ((⟨g, 0, none⟩ : Addr).add j) = some u := by
  intro j u hj
  have hadd : (⟨g, 0, none⟩ : Addr).add j = ⟨g, j, none⟩ := by unfold Addr.add; split <;> simp_all
  rw [hadd, cell_of_row w g j _ _ _ h]
  simpa using hj
theorem or_true {a b : Bool} (h : a = true) : (a || b) = true := by rw [h]; rfl

set_option maxRecDepth 100000 in
set_option maxHeartbeats 2000000 in
theorem rmerge_any (l : List At) (A : Option Addr) (c : Nat) (w : World) (hA : SlAt AtAt 2 w A l) (h60 : l.length ≤ 60) :
    Calls Try.prog 23 #[.slice A l.length c] w fun e w' => ∃ v, e = .returned v ∧ Owned RA 52 2 w w' v (mrg l l.length) ∧ Below w.heap.size w w' := by
  obtain ⟨i0, hi, hz0, hz1, hz2⟩ := info_parts Try.infoAtom
  have Hi := Lib.hid hi
  have Hz0 := Lib.hid hz0
  have Hz1 := Lib.hid hz1
  have Hz2 := Lib.hid hz2
  clear hi hz0 hz1 hz2
  have HA := Lib.hid hA
  clear hA
  go_enter Try.func23, Try.ntmps23
  go_wp2
  go_loopw [3, 4, 5, 6] (fun v i _ _ wr => ∃ k : Nat, k ≤ l.length ∧ i = .int .i64 k ∧ Hid (Owned RA 52 2 w wr v (mrg l k)) ∧ Below w.heap.size w wr) (fun _ i _ _ _ => l.length - (intOf i).toNat)
  case atStart => exact ⟨0, Nat.zero_le _, rfl, Lib.hid Owned.nil, Below.refl _ _⟩
  case round =>
    obtain ⟨i, hil, rfl, hown, hbel⟩ := hrel
    by_cases hlt : i < l.length
    · obtain ⟨x, hx⟩ : ∃ x, l[i]? = some x := ⟨_, List.getElem?_eq_getElem hlt⟩
      obtain ⟨b, off, rfl, hblt, ⟨x0, x0s⟩, B, d, x1, hB⟩ := HA.out.2 i x hx
      have HB := Lib.hid hB
      clear hB
      have Hagn := Lib.hid (agn_at hx)
      have Hx := Lib.hid hx
      clear hx
      go_wp2
      obtain ⟨wo, hwo⟩ : ∃ W, W = wr := ⟨_, rfl⟩
      subst hwo
      go_loopw [5, 6] (fun g j wr' => ∃ k : Nat, k ≤ i ∧ j = .int .i64 k ∧ g = .bool ((l.take k).any (fun y => sameA y x)) ∧ Below wo.heap.size wo wr') (fun _ j _ => i - (intOf j).toNat)
      case atStart => exact ⟨0, Nat.zero_le _, rfl, rfl, Below.refl _ _⟩
      case round =>
        obtain ⟨k, hki, rfl, rfl, hb⟩ := hrel
        have hbw := hbel.trans (hb.mono hbel.size)
        by_cases hlt' : k < i
        · obtain ⟨y, hy⟩ : ∃ y, l[k]? = some y := ⟨_, List.getElem?_eq_getElem (by omega)⟩
          obtain ⟨b', off', hbo, hblt', ⟨y0, y0s⟩, B', d', y1, hB'⟩ := HA.out.2 k y hy
          simp only [Option.some.injEq, Addr.mk.injEq, and_true] at hbo
          obtain ⟨rfl, rfl⟩ := hbo
          have Hy := Lib.hid (any_take_succ (x := x) hy)
          have hkl : k < l.length := by omega
          clear hy
          have p0 := (hbw.cell (p := ⟨b, off + i * 2, none⟩) hblt).trans x0
          have p1 := (hbw.cell (p := ⟨b, off + i * 2 + 1, none⟩) hblt).trans x1
          have q0 := (hbw.cell (p := ⟨b, off + k * 2, none⟩) hblt).trans y0
          have q1 := (hbw.cell (p := ⟨b, off + k * 2 + 1, none⟩) hblt).trans y1
          have hbr : b < wr.heap.size := Nat.lt_of_lt_of_le hblt hbw.size
          have hdr : Below wr.heap.size wr wr.drew := (Below.refl _ _).drew
          have h0 := rsameA_any y x B' B d' d wr.drew (TmsAt.below hB' (hbw.trans (hdr.mono hbw.size))) (TmsAt.below HB.out (hbw.trans (hdr.mono hbw.size)))
          unfold atv at h0
          have hcall := Lib.hid h0
          clear h0 hB'
          have hbs := hb.size
          cases hg : (l.take k).any (fun y => sameA y x) with
          | true =>
            have Hg := Lib.hid hg
            clear hg
            have hnx : (l.take (k + 1)).any (fun y => sameA y x) = true := Hy.out.trans (by rw [Hg.out]; rfl)
            have Hnx := Lib.hid hnx
            clear hnx
            go_wp2
            go_quiet (fail)
            go_wp2
            go_roundw
            case rel => exact ⟨k + 1, by omega, by go_num, by rw [Hnx.out], below_drewN hb _⟩
            case measure => simp [intOf]; omega
          | false =>
            have Hg := Lib.hid hg
            clear hg
            go_wp2
            go_still_tail 10, (by kernel_rfl)
            change wpList _ _ _ _ _ wr.drew
            go_wp2_with (go_at_call 24; refine hcall.out.mono ?_; rintro e w1 ⟨rfl, hb1⟩)
            go_roundw
            case rel => exact ⟨k + 1, by omega, by go_num, by rw [Hy.out, Hg.out]; rfl, hb.trans ((hdr.trans hb1).mono hbs)⟩
            case measure => simp [intOf]; omega
        · have hki2 : k = i := by omega
          subst hki2
          rw [← Hagn.out]
          have hown1 := hown.out.below hb
          have hmrg : mrg l (k + 1) = if agn l k then mrg l k else mrg l k ++ [x] := by simp only [mrg, Hx.out]; rfl
          clear hown
          cases hg : agn l k with
          | true =>
            rw [hg, if_pos rfl] at hmrg
            rw [← hmrg] at hown1
            have Hown := Lib.hid hown1
            clear hg hmrg hown1
            go_wp2
            go_roundw
            case rel => exact ⟨k + 1, by omega, by go_num, Hown, hbw⟩
            case measure => simp [intOf]; omega
          | false =>
            rw [hg, if_neg (by simp)] at hmrg
            obtain ⟨css, c1, c2, c3, hrow⟩ := hown1
            have p0 := (hbw.cell (p := ⟨b, off + k * 2, none⟩) hblt).trans x0
            have p1 := (hbw.cell (p := ⟨b, off + k * 2 + 1, none⟩) hblt).trans x1
            have hbr : b < wr.heap.size := Nat.lt_of_lt_of_le hblt hbw.size
            have hi := Hi.out
            have hz0 := Hz0.out
            have hz1 := Hz1.out
            have hz2 := Hz2.out
            have hml := mrg_len l k
            have Hrow := Lib.hid hrow
            have Hmrg := Lib.hid hmrg
            have C1 := Lib.hid c1
            have C2 := Lib.hid c2
            have C3 := Lib.hid c3
            clear hg hmrg hrow c1 c2 c3
            go_wp2_with (at_builtin; refine wpList_append_own _ rfl _ _ 22 rfl w.heap.size 52 i0 _ 2 40 Try.underlying22 hi hz0 hz1 hz2 rfl (by decide) _ _ _ rfl (Hrow.out.alloc _) ⟨wr.heap.size, 0, none⟩ 1 1 [.string x.nm, .slice B x.ts.length d] rfl rfl ?c1 ?c2 ?c3 ?c4 ?c5 ?_)
            case c1 => exact cells_at (heap_alloc_new _ _)
            case c2 => intro u hu; simp only [List.mem_cons, List.not_mem_nil, or_false] at hu; rcases hu with rfl | rfl <;> rfl
            case c3 => unfold maxLen; omega
            case c4 => omega
            case c5 => have := hbw.size; simp; omega
            intro v2 w2 hown2 hg2 _
            have hlt2 := World.ownsRow.lt Hrow.out
            have hbel2 : Below w.heap.size w w2 := Below.grown (hbw.alloc hbw.size _) hg2 (by have := hbw.size; simp; omega) (fun g hg => (hlt2 g hg).1)
            have Hown2 : Hid (Owned RA 52 2 w w2 v2 (mrg l (k + 1))) := Lib.hid (Hmrg.out ▸ Owned.snoc C1.out C2.out C3.out ⟨B, d, rfl, HB.out, x0s⟩ rfl hown2)
            clear hown2 hg2 hlt2 hi hz0 hz1 hz2
            go_wp2
            go_roundw
            case rel => exact ⟨k + 1, by omega, by go_num, Hown2, hbel2⟩
            case measure => simp [intOf]; omega
    · go_wp2
      go_ret
      have : i = l.length := by omega
      subst this
      exact ⟨_, rfl, hown.out, hbel⟩
end Go.Proofs.Ytahhaiomdjlckaa
