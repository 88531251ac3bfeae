/-
  The walk of the statement TokenSuffix.
-/
import Derived.Test.YtmahhaabhaigiaaDoorW9
namespace Go.Proofs.YtmahhaabhaigiaaDoor
open Go.RowKit

theorem tl_rest (s : ByteArray) (n k : Nat) : tl (s.extract n s.size) k = tl s (n + k) := by
  unfold tl
  have h : List.take (s.size - n) (List.drop n s.data.toList) = List.drop n s.data.toList := List.take_of_length_le (by simp)
  simp only [ByteArray.data_extract, Array.toList_extract, h, List.drop_drop]
theorem ext_rest (s : ByteArray) (n p q : Nat) (h : n + q ≤ s.size) : (s.extract n s.size).extract p q = s.extract (n + p) (n + q) := by
  ext1
  simp only [ByteArray.data_extract, Array.extract_extract]
  rw [Nat.min_eq_left (by omega)]
theorem nextR_rest (s : ByteArray) (n : Nat) (h : n ≤ s.size) (h16 : s.size ≤ 16384) :
    (nextR s n).er = (nextR (s.extract n s.size) 0).er ∧ (nextR s n).nx = (nextR (s.extract n s.size) 0).nx + n ∧
    ((nextR s n).er = 0 → (nextR s n).kd = (nextR (s.extract n s.size) 0).kd ∧ (nextR s n).tx = (nextR (s.extract n s.size) 0).tx ∧ (nextR s n).at_ = (nextR (s.extract n s.size) 0).at_ + n) := by
  have hsz : (s.extract n s.size).size = s.size - n := by simp [ByteArray.size_extract]
  unfold nextR
  rw [hsz, if_neg (by omega), if_neg (by omega), if_neg (by omega), if_neg (by omega)]
  simp only [Int.toNat_natCast, Int.toNat_zero, tl_rest, Nat.add_zero, Nat.zero_add]
  have hq := Tk.skipF_le (tl s n) false
  rw [tl_len] at hq
  generalize Tk.skipF false (tl s n) = q at *
  have hl := Tk.tokF_len (tl s (n + q))
  rw [tl_len] at hl
  unfold resR
  by_cases he : (Tk.tokF (tl s (n + q))).err = 0
  · simp only [if_pos he]
    refine ⟨trivial, by omega, fun _ => ⟨trivial, ?_, by omega⟩⟩
    rw [ext_rest s n _ _ (by omega)]
    congr 1; omega
  · simp only [if_neg he]
    exact ⟨trivial, by omega, fun h => absurd h he⟩

theorem mod_at (a : Int) (m : Nat) (hm : m ≤ 3000) : ∃ n : Nat, wrap64 ((IntKind.u64.wrap a).tmod ((m : Int) + 1)) = n ∧ n ≤ m := by
  have h0 : 0 ≤ IntKind.u64.wrap a := by
    rw [IntKind.wrap_u64]; omega
  generalize IntKind.u64.wrap a = b at *
  rw [Int.tmod_eq_emod_of_nonneg h0]
  have h1 := Int.emod_nonneg b (show (m : Int) + 1 ≠ 0 by omega)
  have h2 := Int.emod_lt_of_pos b (show (0 : Int) < m + 1 by omega)
  rw [IntWalk.wrap64_in _ (by omega)]
  exact ⟨(b % ((m : Int) + 1)).toNat, by omega, by omega⟩

theorem nextR_bd (s : ByteArray) (a : Int) : (0 ≤ (nextR s a).nx ∧ (nextR s a).nx ≤ 16384) ∧ 0 ≤ (nextR s a).at_ ∧ (nextR s a).at_ ≤ 16384 := by
  unfold nextR
  by_cases h1 : a < 0 ∨ (s.size : Int) < a
  · rw [if_pos h1]; refine ⟨⟨?_, ?_⟩, ?_, ?_⟩ <;> dsimp only <;> omega
  · rw [if_neg h1]
    by_cases h2 : 16384 < s.size
    · rw [if_pos h2]; refine ⟨⟨?_, ?_⟩, ?_, ?_⟩ <;> dsimp only <;> omega
    · rw [if_neg h2]
      have hq := Tk.skipF_le (tl s a.toNat) false
      rw [tl_len] at hq
      generalize Tk.skipF false (tl s a.toNat) = q at *
      have hl := Tk.tokF_len (tl s (a.toNat + q))
      rw [tl_len] at hl
      unfold resR
      split
      · refine ⟨⟨?_, ?_⟩, ?_, ?_⟩ <;> dsimp only <;> omega
      · refine ⟨⟨?_, ?_⟩, ?_, ?_⟩ <;> dsimp only <;> omega

set_option maxHeartbeats 1000000 in
theorem tokenSuffix_walk (s : ByteArray) (a : Int) (w : World) (hs : s.size ≤ maxLen) (htab : Tab w) :
    Calls Tryd.prog 8 #[.string s, .int .i64 a] w fun e w' => e = .returned (.bool true) ∧ Below w.heap.size w w' := by
  have hpos := htab.pos
  by_cases hg : 3000 < s.size
  · go_enter Tryd.func8, Tryd.ntmps8
    go_wp2_with (go_at_call 12; refine (live_any _ htab).mono ?_; rintro e w1 ⟨rfl, hb⟩)
    go_ret
    exact ⟨rfl, hb⟩
  · go_enter Tryd.func8, Tryd.ntmps8
    go_wp2_with (go_at_call 12; refine (live_any _ htab).mono ?_; rintro e w1 ⟨rfl, hb⟩)
    obtain ⟨n, hn, hle⟩ := mod_at a s.size (by omega)
    rw [hn]
    clear hn
    obtain ⟨f1, f2, f3⟩ := nextR_rest s n hle (by omega)
    have Hn := Lib.hid (fun w => nextR_any s n w hs)
    have Hu := Lib.hid (fun w => nextR_any (s.extract n s.size) 0 w (by simp [ByteArray.size_extract]; omega))
    have hbd := nextR_bd (s.extract n s.size) 0
    generalize nextR (s.extract n s.size) 0 = u at *
    generalize nextR s n = r at *
    obtain ⟨kd, at_, tx, nx, er⟩ := r
    obtain ⟨ukd, uat, utx, unx, uer⟩ := u
    dsimp only at f1 f2 f3 hbd
    subst f1 f2
    obtain ⟨⟨hb1, hb2⟩, hb3, hb4⟩ := hbd
    have htab1 := htab.below hpos hb
    by_cases he : er = 0
    · subst he
      obtain ⟨rfl, rfl, rfl⟩ := f3 rfl
      clear htab
      refine (Hn.out _ htab1).mono ?_
      rintro e w2 ⟨rfl, hc⟩
      unfold NR.v tri tokv
      go_wp2_with fail
      have hsz := hc.size
      have hsb := hb.size
      have Hb1 := Lib.hid ((hb.trans (hc.mono hsb)).alloc (by omega) (.cells #[.int .i64 kd, .int .i64 (uat + n), .string tx] 24))
      have htab2 := htab1.below (by omega) (hc.alloc hsz (.cells #[.int .i64 kd, .int .i64 (uat + n), .string tx] 24))
      refine (Hu.out _ htab2).mono ?_
      rintro e w3 ⟨rfl, hd⟩
      unfold NR.v tri tokv
      have hk := kept_cells hd
      have c0 := hk 0
      have c1 := hk 1
      have c2 := hk 2
      simp at c0 c1 c2
      have hlt12 : w2.heap.size < w3.heap.size := by have := hd.size; simp at this; omega
      have Hb3 := Lib.hid (Hb1.out.trans (hd.mono Hb1.out.size))
      clear hk hd hc hb htab1 htab2
      go_wp2
      go_ret
      exact ⟨rfl, Hb3.out.alloc Hb3.out.size _⟩
    · have he1 : (er == 0) = false := by simp [he]
      have he2 : (er != 0) = true := by simp [he]
      clear he f3 htab
      refine (Hn.out _ htab1).mono ?_
      rintro e w2 ⟨rfl, hc⟩
      unfold NR.v tri tokv
      go_wp2_with fail
      have hsz := hc.size
      have hsb := hb.size
      have Hb1 := Lib.hid ((hb.trans (hc.mono hsb)).alloc (by omega) (.cells #[.int .i64 kd, .int .i64 at_, .string tx] 24))
      have htab2 := htab1.below (by omega) (hc.alloc hsz (.cells #[.int .i64 kd, .int .i64 at_, .string tx] 24))
      refine (Hu.out _ htab2).mono ?_
      rintro e w3 ⟨rfl, hd⟩
      unfold NR.v tri tokv
      have hk := kept_cells hd
      have c0 := hk 0
      have c1 := hk 1
      have c2 := hk 2
      simp at c0 c1 c2
      have hlt12 : w2.heap.size < w3.heap.size := by have := hd.size; simp at this; omega
      have Hb3 := Lib.hid (Hb1.out.trans (hd.mono Hb1.out.size))
      clear hk hd hc hb htab1 htab2
      go_wp2
      go_ret
      exact ⟨rfl, Hb3.out.alloc Hb3.out.size _⟩
end Go.Proofs.YtmahhaabhaigiaaDoor
