/-
  The walks of one token.
-/
import Derived.Test.YtmahhaabhaigiaaDoorW2
namespace Go.Proofs.YtmahhaabhaigiaaDoor
open Go.RowKit

def tokv (kind a : Int) (text : ByteArray) : Value := .agg #[.int .i64 kind, .int .i64 a, .string text]
def resv (s : ByteArray) (p : Nat) (t : Tk.Tr) : Value :=
  if t.err = 0 then .tuple #[tokv t.kind p (s.extract p (p + t.len)), .int .i64 ((p + t.len : Nat) : Int), .int .i64 0]
  else .tuple #[tokv 0 0 ⟨#[]⟩, .int .i64 p, .int .i64 t.err]
theorem resv_end (s : ByteArray) (p : Nat) (h : p = s.size) : resv s p (Tk.tokF (tl s p)) = .tuple #[tokv 0 p ⟨#[]⟩, .int .i64 p, .int .i64 0] := by
  rw [tl_nil s p (by omega)]
  have he : s.extract p (p + 0) = ⟨#[]⟩ := by
    ext1; simp
  simp only [resv, Tk.tokF, if_true, he]
  rfl
theorem resv_name (s : ByteArray) (p : Nat) (h : p < s.size) (hc : Tk.cls s[p].toNat = 2 ∨ Tk.cls s[p].toNat = 3) (hr : ¬ 40 < Tk.runF 2 (tl s p)) :
    resv s p (Tk.tokF (tl s p)) = .tuple #[tokv (if Tk.cls s[p].toNat = 3 then 2 else 1) p (s.extract p (p + Tk.runF 2 (tl s p))), .int .i64 ((p + Tk.runF 2 (tl s p) : Nat) : Int), .int .i64 0] := by
  rw [tl_cons s p h] at hr ⊢
  simp only [resv, Tk.tokF, if_pos hc, if_neg hr, if_true]
theorem resv_long (s : ByteArray) (p : Nat) (h : p < s.size) (hc : Tk.cls s[p].toNat = 2 ∨ Tk.cls s[p].toNat = 3) (hr : 40 < Tk.runF 2 (tl s p)) :
    resv s p (Tk.tokF (tl s p)) = .tuple #[tokv 0 0 ⟨#[]⟩, .int .i64 p, .int .i64 7] := by
  rw [tl_cons s p h] at hr ⊢
  simp only [resv, Tk.tokF, if_pos hc, if_pos hr]; rfl
theorem resv_int (s : ByteArray) (p : Nat) (h : p < s.size) (hc : Tk.cls s[p].toNat = 4) (hr : ¬ 2147483648 < Tk.valF 0 ((tl s p).take (Tk.runF 4 (tl s p)))) :
    resv s p (Tk.tokF (tl s p)) = .tuple #[tokv 3 p (s.extract p (p + Tk.runF 4 (tl s p))), .int .i64 ((p + Tk.runF 4 (tl s p) : Nat) : Int), .int .i64 0] := by
  rw [tl_cons s p h] at hr ⊢
  simp only [resv, Tk.tokF, if_neg (show ¬ (Tk.cls s[p].toNat = 2 ∨ Tk.cls s[p].toNat = 3) by omega), if_pos hc, if_neg hr, if_true]
theorem resv_big (s : ByteArray) (p : Nat) (h : p < s.size) (hc : Tk.cls s[p].toNat = 4) (hr : 2147483648 < Tk.valF 0 ((tl s p).take (Tk.runF 4 (tl s p)))) :
    resv s p (Tk.tokF (tl s p)) = .tuple #[tokv 0 0 ⟨#[]⟩, .int .i64 p, .int .i64 5] := by
  rw [tl_cons s p h] at hr ⊢
  simp only [resv, Tk.tokF, if_neg (show ¬ (Tk.cls s[p].toNat = 2 ∨ Tk.cls s[p].toNat = 3) by omega), if_pos hc, if_pos hr]; rfl
theorem resv_sym (s : ByteArray) (p : Nat) (h : p < s.size) (hc : Tk.cls s[p].toNat = 0 ∨ Tk.cls s[p].toNat = 1) (hr : Tk.symF (tl s p) ≠ []) :
    resv s p (Tk.tokF (tl s p)) = .tuple #[tokv 4 p (s.extract p (p + (Tk.symF (tl s p)).length)), .int .i64 ((p + (Tk.symF (tl s p)).length : Nat) : Int), .int .i64 0] := by
  rw [tl_cons s p h] at hr ⊢
  simp only [resv, Tk.tokF, if_neg (show ¬ (Tk.cls s[p].toNat = 2 ∨ Tk.cls s[p].toNat = 3) by omega), if_neg (show ¬ Tk.cls s[p].toNat = 4 by omega), if_neg hr, if_true]
theorem resv_none (s : ByteArray) (p : Nat) (h : p < s.size) (hc : Tk.cls s[p].toNat = 0 ∨ Tk.cls s[p].toNat = 1) (hr : Tk.symF (tl s p) = []) :
    resv s p (Tk.tokF (tl s p)) = .tuple #[tokv 0 0 ⟨#[]⟩, .int .i64 p, .int .i64 16] := by
  rw [tl_cons s p h] at hr ⊢
  simp only [resv, Tk.tokF, if_neg (show ¬ (Tk.cls s[p].toNat = 2 ∨ Tk.cls s[p].toNat = 3) by omega), if_neg (show ¬ Tk.cls s[p].toNat = 4 by omega), if_pos hr]; rfl

set_option maxHeartbeats 1000000 in
theorem read_end (s : ByteArray) (a : Nat) (w : World) (_hs : s.size ≤ maxLen) (ha : a = s.size) :
    Calls Tryd.prog 19 #[.string s, .int .i64 a] w fun e w' => e = .returned (resv s a (Tk.tokF (tl s a))) ∧ Below w.heap.size w w' := by
  rw [resv_end s a ha]
  subst ha
  go_enter Tryd.func19, Tryd.ntmps19
  go_wp2
  refine bodyPost_ret (v := .tuple #[.agg #[.int .i64 (0), .int .i64 (s.size), .string (⟨#[]⟩)], .int .i64 (s.size), .int .i64 (0)]) (by simp [results, Tryd.results19, go_sem]) rfl ⟨rfl, ?_⟩
  exact (Below.refl _ _).alloc (Nat.le_refl _) _
set_option maxHeartbeats 1000000 in
theorem read_name (s : ByteArray) (a : Nat) (w : World) (hs : s.size ≤ maxLen) (ha : a < s.size) (hc : Tk.cls s[a].toNat = 2 ∨ Tk.cls s[a].toNat = 3) :
    Calls Tryd.prog 19 #[.string s, .int .i64 a] w fun e w' => e = .returned (resv s a (Tk.tokF (tl s a))) ∧ Below w.heap.size w w' := by
  have hsm := hs
  unfold maxLen at hs
  have hrl := Tk.runF_le 2 (tl s a)
  rw [tl_len] at hrl
  by_cases h40 : 40 < Tk.runF 2 (tl s a)
  · rw [resv_long s a ha hc h40]
    have Hrun := Lib.hid (run_any s a 2)
    generalize Tk.runF 2 (tl s a) = r at *
    rcases hc with hc | hc
    · have h2 : (Tk.cls s[a].toNat == 2) = true := by simp [hc]
      have h3 : (Tk.cls s[a].toNat == 3) = false := by simp [hc]
      clear hc
      go_enter Tryd.func19, Tryd.ntmps19
      go_wp2_with (first | (go_at_call 27; refine (of_any _ _).mono ?_; rintro e w' ⟨rfl, rfl⟩) | (go_at_call 28; refine (Hrun.out _ hsm (by omega)).mono ?_; rintro e w' ⟨rfl, rfl⟩))
      refine bodyPost_ret (v := .tuple #[.agg #[.int .i64 (0), .int .i64 (0), .string (⟨#[]⟩)], .int .i64 (a), .int .i64 (7)]) (by simp [results, Tryd.results19, go_sem]) rfl ⟨rfl, ?_⟩
      exact (Below.refl _ _).alloc (Nat.le_refl _) _
    · have h2 : (Tk.cls s[a].toNat == 2) = false := by simp [hc]
      have h3 : (Tk.cls s[a].toNat == 3) = true := by simp [hc]
      clear hc
      go_enter Tryd.func19, Tryd.ntmps19
      go_wp2_with (first | (go_at_call 27; refine (of_any _ _).mono ?_; rintro e w' ⟨rfl, rfl⟩) | (go_at_call 28; refine (Hrun.out _ hsm (by omega)).mono ?_; rintro e w' ⟨rfl, rfl⟩))
      refine bodyPost_ret (v := .tuple #[.agg #[.int .i64 (0), .int .i64 (0), .string (⟨#[]⟩)], .int .i64 (a), .int .i64 (7)]) (by simp [results, Tryd.results19, go_sem]) rfl ⟨rfl, ?_⟩
      exact (Below.refl _ _).alloc (Nat.le_refl _) _
  · rw [resv_name s a ha hc h40]
    have Hrun := Lib.hid (run_any s a 2)
    generalize Tk.runF 2 (tl s a) = r at *
    rcases hc with hc | hc
    · have h2 : (Tk.cls s[a].toNat == 2) = true := by simp [hc]
      have h3 : (Tk.cls s[a].toNat == 3) = false := by simp [hc]
      rw [if_neg (by omega)]
      clear hc
      go_enter Tryd.func19, Tryd.ntmps19
      go_wp2_with (first | (go_at_call 27; refine (of_any _ _).mono ?_; rintro e w' ⟨rfl, rfl⟩) | (go_at_call 28; refine (Hrun.out _ hsm (by omega)).mono ?_; rintro e w' ⟨rfl, rfl⟩))
      refine bodyPost_ret (v := .tuple #[.agg #[.int .i64 (1), .int .i64 (a), .string (s.extract a (a + r))], .int .i64 ((a + r : Nat)), .int .i64 (0)]) (by simp [results, Tryd.results19, go_sem]) rfl ⟨rfl, ?_⟩
      exact (Below.refl _ _).alloc (Nat.le_refl _) _
    · have h2 : (Tk.cls s[a].toNat == 2) = false := by simp [hc]
      have h3 : (Tk.cls s[a].toNat == 3) = true := by simp [hc]
      rw [if_pos hc]
      clear hc
      go_enter Tryd.func19, Tryd.ntmps19
      go_wp2_with (first | (go_at_call 27; refine (of_any _ _).mono ?_; rintro e w' ⟨rfl, rfl⟩) | (go_at_call 28; refine (Hrun.out _ hsm (by omega)).mono ?_; rintro e w' ⟨rfl, rfl⟩))
      refine bodyPost_ret (v := .tuple #[.agg #[.int .i64 (2), .int .i64 (a), .string (s.extract a (a + r))], .int .i64 ((a + r : Nat)), .int .i64 (0)]) (by simp [results, Tryd.results19, go_sem]) rfl ⟨rfl, ?_⟩
      exact (Below.refl _ _).alloc (Nat.le_refl _) _
set_option maxHeartbeats 1000000 in
theorem read_sym (s : ByteArray) (a : Nat) (w : World) (hs : s.size ≤ maxLen) (htab : Tab w) (ha : a < s.size) (hc : Tk.cls s[a].toNat = 0 ∨ Tk.cls s[a].toNat = 1) :
    Calls Tryd.prog 19 #[.string s, .int .i64 a] w fun e w' => e = .returned (resv s a (Tk.tokF (tl s a))) ∧ Below w.heap.size w w' := by
  have hsm := hs
  unfold maxLen at hs
  have h2 : (Tk.cls s[a].toNat == 2) = false := by simp; omega
  have h3 : (Tk.cls s[a].toNat == 3) = false := by simp; omega
  have h4 : (Tk.cls s[a].toNat == 4) = false := by simp; omega
  have hl := (Tk.symF_take (tl s a)).1
  rw [tl_len] at hl
  have htab1 : ∀ o, Tab (w.alloc o) := fun o => htab.below htab.pos ((Below.refl _ _).alloc (Nat.le_refl _) _)
  by_cases hz : Tk.symF (tl s a) = []
  · rw [resv_none s a ha hc hz]
    have Hsym := Lib.hid (fun w => symbol_any s a w hsm (by omega))
    rw [hz] at Hsym
    have Hz := Lib.hid hz
    clear hc hz
    go_enter Tryd.func19, Tryd.ntmps19
    go_wp2_with (first | (go_at_call 27; refine (of_any _ _).mono ?_; rintro e w' ⟨rfl, rfl⟩) | (go_at_call 17; refine (Hsym.out _ (htab1 _)).mono ?_; rintro e w' ⟨rfl, rfl⟩; unfold strv))
    refine bodyPost_ret (v := .tuple #[.agg #[.int .i64 (0), .int .i64 (0), .string (⟨#[]⟩)], .int .i64 (a), .int .i64 (16)]) (by simp [results, Tryd.results19, go_sem]) rfl ⟨rfl, ?_⟩
    exact (Below.refl _ _).alloc (Nat.le_refl _) _
  · rw [resv_sym s a ha hc hz]
    have Hsym := Lib.hid (fun w => symbol_any s a w hsm (by omega))
    generalize Tk.symF (tl s a) = x at *
    have hz1 : x.isEmpty = false := by cases x <;> simp_all
    have hz2 : (x == []) = false := by cases x <;> simp_all
    clear hc hz
    go_enter Tryd.func19, Tryd.ntmps19
    go_wp2_with (first | (go_at_call 27; refine (of_any _ _).mono ?_; rintro e w' ⟨rfl, rfl⟩) | (go_at_call 17; refine (Hsym.out _ (htab1 _)).mono ?_; rintro e w' ⟨rfl, rfl⟩; unfold strv))
    refine bodyPost_ret (v := .tuple #[.agg #[.int .i64 (4), .int .i64 (a), .string (s.extract a (a + x.length))], .int .i64 ((a + x.length : Nat)), .int .i64 (0)]) (by simp [results, Tryd.results19, go_sem]) rfl ⟨rfl, ?_⟩
    exact (Below.refl _ _).alloc (Nat.le_refl _) _

theorem runF_all (m : Int) : ∀ (l : List UInt8) (j : Nat) (h : j < l.length), j < Tk.runF m l → m ≤ Tk.cls l[j].toNat
  | [], j, h, _ => by simp at h
  | c :: r, j, h, hj => by
    simp only [Tk.runF] at hj
    split at hj
    · rename_i hc
      cases j with
      | zero => simpa using hc
      | succ j => simpa using runF_all m r j (by simpa using h) (by omega)
    · omega
/-- the value of a part of the digits. -/
def IntAt (s : ByteArray) (a r k n : Nat) : Prop := a ≤ k ∧ k ≤ a + r ∧ n ≤ 2147483648 ∧ Tk.valF n ((tl s k).take (a + r - k)) = Tk.valF 0 ((tl s a).take r)
theorem IntAt.start {s : ByteArray} {a r : Nat} : IntAt s a r a 0 := ⟨Nat.le_refl _, by omega, by omega, by rw [Nat.add_sub_cancel_left]⟩
theorem IntAt.step {s : ByteArray} {a r k n : Nat} (h : IntAt s a r k n) (hlt : k < a + r) (hks : k < s.size) (hdg : 48 ≤ s[k].toNat ∧ s[k].toNat ≤ 57) :
    Tk.valF (min (n * 10 + (s[k].toNat - 48)) 2147483649) ((tl s (k + 1)).take (a + r - (k + 1))) = Tk.valF 0 ((tl s a).take r) := by
  rw [← h.2.2.2, tl_cons s k hks, show a + r - k = (a + r - (k + 1)) + 1 by omega, List.take_succ_cons, Tk.valF]
  have : Tk.dig s[k] = s[k].toNat - 48 := by unfold Tk.dig; omega
  rw [this]
theorem IntAt.more {s : ByteArray} {a r k n : Nat} (h : IntAt s a r k n) (hlt : k < a + r) (hks : k < s.size) (hdg : 48 ≤ s[k].toNat ∧ s[k].toNat ≤ 57) (h10 : ¬ 2147483648 < n * 10 + (s[k].toNat - 48)) :
    IntAt s a r (k + 1) (n * 10 + (s[k].toNat - 48)) := by
  have h1 := h.step hlt hks hdg
  rw [show min (n * 10 + (s[k].toNat - 48)) 2147483649 = n * 10 + (s[k].toNat - 48) by omega] at h1
  have := h.1
  exact ⟨by omega, by omega, by omega, h1⟩
theorem IntAt.over {s : ByteArray} {a r k n : Nat} (h : IntAt s a r k n) (hlt : k < a + r) {hks : k < s.size} (hdg : 48 ≤ s[k].toNat ∧ s[k].toNat ≤ 57) (h10 : 2147483648 < n * 10 + (s[k].toNat - 48)) :
    2147483648 < Tk.valF 0 ((tl s a).take r) := by
  rw [← h.step hlt hks hdg]
  have := Tk.valF_mono ((tl s (k + 1)).take (a + r - (k + 1))) (min (n * 10 + (s[k].toNat - 48)) 2147483649) (by omega)
  omega
theorem IntAt.done {s : ByteArray} {a r k n : Nat} (h : IntAt s a r k n) (hlt : ¬ k < a + r) : Tk.valF 0 ((tl s a).take r) ≤ 2147483648 := by
  rw [← h.2.2.2, show a + r - k = 0 by omega]
  simpa [Tk.valF] using h.2.2.1

set_option maxHeartbeats 1000000 in
theorem read_int (s : ByteArray) (a : Nat) (w : World) (hs : s.size ≤ maxLen) (ha : a < s.size) (hc : Tk.cls s[a].toNat = 4) :
    Calls Tryd.prog 19 #[.string s, .int .i64 a] w fun e w' => e = .returned (resv s a (Tk.tokF (tl s a))) ∧ Below w.heap.size w w' := by
  have hsm := hs
  unfold maxLen at hs
  have hrl := Tk.runF_le 4 (tl s a)
  rw [tl_len] at hrl
  have Hdig := Lib.hid (show ∀ (k : Nat) (hks : k < s.size), a ≤ k → k < a + Tk.runF 4 (tl s a) → 48 ≤ s[k].toNat ∧ s[k].toNat ≤ 57 by
    intro k hks h1 h2
    have h := runF_all 4 (tl s a) (k - a) (by rw [tl_len]; omega) (by omega)
    have e : (tl s a)[k - a]'(by rw [tl_len]; omega) = s[k] := by
      unfold tl
      simp only [List.getElem_drop, Array.getElem_toList]
      have : a + (k - a) = k := by omega
      simp only [this]; rfl
    rw [e] at h
    have h5 := Tk.cls_range s[k].toNat
    exact Tk.cls_digit.1 (by omega))
  have Hrun := Lib.hid (run_any s a 4)
  have h2 : (Tk.cls s[a].toNat == 2) = false := by simp [hc]
  have h3 : (Tk.cls s[a].toNat == 3) = false := by simp [hc]
  have h4 : (Tk.cls s[a].toNat == 4) = true := by simp [hc]
  by_cases hV : 2147483648 < Tk.valF 0 ((tl s a).take (Tk.runF 4 (tl s a)))
  · rw [resv_big s a ha hc hV]
    have hV0 := Lib.hid hV
    clear hV
    generalize Tk.runF 4 (tl s a) = r at *
    clear hc
    go_enter Tryd.func19, Tryd.ntmps19
    go_wp2_with (first | (go_at_call 27; refine (of_any _ _).mono ?_; rintro e w' ⟨rfl, rfl⟩) | (go_at_call 28; refine (Hrun.out _ hsm (by omega)).mono ?_; rintro e w' ⟨rfl, rfl⟩))
    go_loop [5, 6, 7, 8] (fun x y v i => ∃ k n : Nat, IntAt s a r k n ∧ i = .int .i64 k ∧ v = .int .i64 n ∧ x = .int .i64 (a + r : Nat) ∧ y = .int .i64 0) (fun _ _ _ i => s.size - (intOf i).toNat)
    case atStart => exact ⟨a, 0, IntAt.start, rfl, rfl, rfl, rfl⟩
    case round =>
      obtain ⟨k, n, hk, rfl, rfl, rfl, rfl⟩ := hrel
      have hk1 := hk.1
      have hk2 := hk.2.1
      have hn := hk.2.2.1
      by_cases hlt : k < a + r
      · have hks : k < s.size := by omega
        have hdg := Hdig.out k hks hk1 hlt
        by_cases h10 : 2147483648 < n * 10 + (s[k].toNat - 48)
        · go_wp2
          refine bodyPost_ret (v := .tuple #[.agg #[.int .i64 (0), .int .i64 (0), .string (⟨#[]⟩)], .int .i64 (a), .int .i64 (5)]) (by simp [results, Tryd.results19, go_sem]) rfl ⟨rfl, ?_⟩
          exact (Below.refl _ _).alloc (Nat.le_refl _) _
        · have hk3 := hk.more hlt hks hdg h10
          go_wp2
          go_round
          case rel => exact ⟨k + 1, n * 10 + (s[k].toNat - 48), hk3, by go_num, by go_num, rfl, rfl⟩
          case measure => simp [intOf]; omega
      · exact absurd hV0.out (by have := hk.done hlt; omega)
  · rw [resv_int s a ha hc hV]
    have hV0 := Lib.hid hV
    clear hV
    generalize Tk.runF 4 (tl s a) = r at *
    clear hc
    go_enter Tryd.func19, Tryd.ntmps19
    go_wp2_with (first | (go_at_call 27; refine (of_any _ _).mono ?_; rintro e w' ⟨rfl, rfl⟩) | (go_at_call 28; refine (Hrun.out _ hsm (by omega)).mono ?_; rintro e w' ⟨rfl, rfl⟩))
    go_loop [5, 6, 7, 8] (fun x y v i => ∃ k n : Nat, IntAt s a r k n ∧ i = .int .i64 k ∧ v = .int .i64 n ∧ x = .int .i64 (a + r : Nat) ∧ y = .int .i64 0) (fun _ _ _ i => s.size - (intOf i).toNat)
    case atStart => exact ⟨a, 0, IntAt.start, rfl, rfl, rfl, rfl⟩
    case round =>
      obtain ⟨k, n, hk, rfl, rfl, rfl, rfl⟩ := hrel
      have hk1 := hk.1
      have hk2 := hk.2.1
      have hn := hk.2.2.1
      by_cases hlt : k < a + r
      · have hks : k < s.size := by omega
        have hdg := Hdig.out k hks hk1 hlt
        by_cases h10 : 2147483648 < n * 10 + (s[k].toNat - 48)
        · 
          exact absurd (hk.over hlt hdg h10) hV0.out
        · have hk3 := hk.more hlt hks hdg h10
          go_wp2
          go_round
          case rel => exact ⟨k + 1, n * 10 + (s[k].toNat - 48), hk3, by go_num, by go_num, rfl, rfl⟩
          case measure => simp [intOf]; omega
      · go_wp2
        refine bodyPost_ret (v := .tuple #[.agg #[.int .i64 (3), .int .i64 (a), .string (s.extract a (a + r))], .int .i64 ((a + r : Nat)), .int .i64 (0)]) (by simp [results, Tryd.results19, go_sem]) rfl ⟨rfl, ?_⟩
        exact (Below.refl _ _).alloc (Nat.le_refl _) _

theorem read_any (s : ByteArray) (a : Nat) (w : World) (hs : s.size ≤ maxLen) (ha : a ≤ s.size) (htab : Tab w) :
    Calls Tryd.prog 19 #[.string s, .int .i64 a] w fun e w' => e = .returned (resv s a (Tk.tokF (tl s a))) ∧ Below w.heap.size w w' := by
  by_cases h : a < s.size
  · have hr := Tk.cls_range s[a].toNat
    by_cases h2 : Tk.cls s[a].toNat = 2 ∨ Tk.cls s[a].toNat = 3
    · exact read_name s a w hs h h2
    · by_cases h4 : Tk.cls s[a].toNat = 4
      · exact read_int s a w hs h h4
      · exact read_sym s a w hs htab h (by omega)
  · exact read_end s a w hs (by omega)
end Go.Proofs.YtmahhaabhaigiaaDoor
