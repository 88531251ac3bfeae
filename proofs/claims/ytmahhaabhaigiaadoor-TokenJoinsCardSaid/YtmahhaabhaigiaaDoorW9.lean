/-
  The walks of the statements TokenSymbols and TokenSuffix.
-/
import Derived.Test.YtmahhaabhaigiaaDoorW8
namespace Go.Proofs.YtmahhaabhaigiaaDoor
open Go.RowKit

set_option maxHeartbeats 400000 in
theorem rsymbol_out (s : ByteArray) (a : Int) (w : World) (_hs : s.size ≤ maxLen) (ha : a < 0 ∨ (s.size : Int) < a) :
    Calls Tryd.prog 18 #[.string s, .int .i64 a] w fun e w' => e = .returned (strv []) ∧ Below w.heap.size w w' := by
  by_cases h0 : a < 0
  · go_enter Tryd.func18, Tryd.ntmps18
    go_wp2_with fail
    go_ret
    exact ⟨rfl, Below.refl _ _⟩
  · have ha : (s.size : Int) < a := by omega
    go_enter Tryd.func18, Tryd.ntmps18
    go_wp2_with fail
    go_ret
    exact ⟨rfl, Below.refl _ _⟩

/-- the symbol at an offset, wherever that lies. -/
def symR (s : ByteArray) (a : Int) : List UInt8 := if a < 0 ∨ (s.size : Int) < a then [] else Tk.symF (tl s a.toNat)
theorem symbolR_any (s : ByteArray) (a : Int) (w : World) (hs : s.size ≤ maxLen) (htab : Tab w) :
    Calls Tryd.prog 17 #[.string s, .int .i64 a] w fun e w' => e = .returned (strv (symR s a)) ∧ w = w' := by
  unfold symR
  by_cases h : a < 0 ∨ (s.size : Int) < a
  · rw [if_pos h]; exact symbol_out s a w hs h
  · rw [if_neg h]
    obtain ⟨n, rfl⟩ := Int.eq_ofNat_of_zero_le (show 0 ≤ a by omega)
    exact symbol_any s n w hs (by omega) htab
theorem rsymbolR_any (s : ByteArray) (a : Int) (w : World) (hs : s.size ≤ maxLen) :
    Calls Tryd.prog 18 #[.string s, .int .i64 a] w fun e w' => e = .returned (strv (symR s a)) ∧ Below w.heap.size w w' := by
  unfold symR
  by_cases h : a < 0 ∨ (s.size : Int) < a
  · rw [if_pos h]; exact rsymbol_out s a w hs h
  · rw [if_neg h]
    obtain ⟨n, rfl⟩ := Int.eq_ofNat_of_zero_le (show 0 ≤ a by omega)
    exact rsymbol_any s n w hs (by omega)

theorem syms_head : ∀ x ∈ Tk.syms, ∃ c r, x = c :: r ∧ Tk.cls c.toNat = 0 ∧ c.toNat ≠ 35 := by
  intro x hx
  simp only [Tk.syms, List.mem_cons, List.not_mem_nil, or_false] at hx
  rcases hx with rfl | rfl | rfl | rfl | rfl | rfl | rfl | rfl | rfl | rfl | rfl | rfl | rfl | rfl | rfl | rfl | rfl | rfl | rfl | rfl | rfl | rfl | rfl <;> exact ⟨_, _, rfl, by decide, by decide⟩
/-- where a symbol begins, the token is this symbol. -/
theorem tokF_sym (l : List UInt8) (h : Tk.symF l ≠ []) : Tk.skipF false l = 0 ∧ Tk.tokF l = ⟨4, (Tk.symF l).length, 0⟩ := by
  have hm := (Tk.symF_mem l).resolve_left h
  obtain ⟨c, r, hx, hc, h35⟩ := syms_head _ hm
  have hp := Tk.symIn_pre Tk.syms l
  rw [show Tk.symIn Tk.syms l = Tk.symF l from rfl, hx] at hp
  cases l with
  | nil => simp [Tk.isPre] at hp
  | cons d m =>
    simp only [Tk.isPre, Bool.and_eq_true, beq_iff_eq] at hp
    obtain ⟨rfl, _⟩ := hp
    refine ⟨by simp [Tk.skipF, hc, h35], ?_⟩
    simp only [Tk.tokF]
    rw [if_neg (by omega), if_neg (by omega), if_neg h]
theorem nextR_sym (s : ByteArray) (a : Int) (h : symR s a ≠ []) (he : (nextR s a).er = 0) : ∃ tx : ByteArray, nextR s a = ⟨4, a, tx, a + (symR s a).length, 0⟩ ∧ tx.toList = symR s a ∧ 0 ≤ a ∧ a + (symR s a).length ≤ 16384 := by
  obtain ⟨h0, h1, h2, p, hp, hps, hte, hr⟩ := nextR_ok he
  unfold symR at h ⊢
  rw [if_neg (by omega)] at h ⊢
  obtain ⟨n, rfl⟩ := Int.eq_ofNat_of_zero_le h0
  simp only [Int.toNat_natCast] at *
  obtain ⟨hsk, htk⟩ := tokF_sym _ h
  rw [hsk] at hp
  obtain rfl : p = n := by omega
  have hl := Tk.symF_take (tl s p)
  rw [tl_len] at hl
  refine ⟨s.extract p (p + (Tk.symF (tl s p)).length), ?_, ?_, h0, by omega⟩
  · rw [hr, htk]
    rfl
  · have h1 := ext_pre s (Tk.symF (tl s p)) p (by omega)
    rw [Tk.isPre_take.2 ⟨by rw [tl_len]; exact hl.1, hl.2⟩] at h1
    simpa using h1

set_option maxHeartbeats 1000000 in
theorem tokenSymbols_walk (s : ByteArray) (a : Int) (w : World) (hs : s.size ≤ maxLen) (htab : Tab w) :
    Calls Tryd.prog 7 #[.string s, .int .i64 a] w fun e w' => e = .returned (.bool true) ∧ Below w.heap.size w w' := by
  have Hgr := Lib.hid (great_any s)
  by_cases hg : (3000 < s.size ∧ s.size ≤ 16384) ∨ 20000 < s.size
  · rw [decide_eq_true hg] at Hgr
    clear hg
    go_enter Tryd.func7, Tryd.ntmps7
    go_wp2_with (go_at_call 9; refine (Hgr.out _).mono ?_; rintro e w' ⟨rfl, rfl⟩)
    go_ret
    exact ⟨rfl, Below.refl _ _⟩
  · rw [decide_eq_false hg] at Hgr
    clear hg
    have Hy := Lib.hid (fun w => symbolR_any s a w hs)
    have Hry := Lib.hid (fun w => rsymbolR_any s a w hs)
    have Hn := Lib.hid (fun w => nextR_any s a w hs)
    have Hfact := Lib.hid (nextR_sym s a)
    generalize nextR s a = r at *
    generalize symR s a = x at *
    have hpos := htab.pos
    go_enter Tryd.func7, Tryd.ntmps7
    go_wp2_with (first | (go_at_call 9; refine (Hgr.out _).mono ?_; rintro e w' ⟨rfl, rfl⟩) | (go_at_call 17; refine (Hy.out _ htab).mono ?_; rintro e w1 ⟨rfl, rfl⟩; unfold strv))
    refine (Hry.out _).mono ?_
    rintro e w1 ⟨rfl, hb⟩
    unfold strv
    have htab1 := htab.below hpos hb
    go_wp2_with fail
    refine (Hn.out _ htab1).mono ?_
    rintro e w2 ⟨rfl, hb2⟩
    unfold NR.v tri tokv
    have hb3 := hb.trans (hb2.mono hb.size)
    have Hb3 := Lib.hid (hb3.alloc hb3.size (.cells #[.int .i64 r.kd, .int .i64 r.at_, .string r.tx] 24))
    have htab2 := htab.below hpos Hb3.out
    clear htab htab1 hb hb2 hb3
    by_cases hx : x = []
    · subst hx
      by_cases he : r.er = 0
      all_goals
        go_wp2_with (go_at_call 12; refine (live_any _ htab2).mono ?_; rintro e w3 ⟨rfl, hb4⟩)
        go_ret
        exact ⟨rfl, Hb3.out.trans (hb4.mono Hb3.out.size)⟩
    · have hx1 : x.isEmpty = false := by cases x <;> simp_all
      have hx2 : (x == []) = false := by cases x <;> simp_all
      by_cases he : r.er = 0
      · obtain ⟨tx, rfl, htx, ha0, ha1⟩ := Hfact.out hx he
        have hx3 : (tx.toList == x) = true := by simp [htx]
        clear hx htx he
        go_wp2_with (go_at_call 12; refine (live_any _ htab2).mono ?_; rintro e w3 ⟨rfl, hb4⟩)
        go_ret
        exact ⟨rfl, Hb3.out.trans (hb4.mono Hb3.out.size)⟩
      · have he1 : (r.er == 0) = false := by simp [he]
        clear hx he
        go_wp2_with (go_at_call 12; refine (live_any _ htab2).mono ?_; rintro e w3 ⟨rfl, hb4⟩)
        go_ret
        exact ⟨rfl, Hb3.out.trans (hb4.mono Hb3.out.size)⟩
end Go.Proofs.YtmahhaabhaigiaaDoor
