/-
  The walk of the reference's Next: symbols, and all cases joined.
-/
import Derived.Test.YtmahhaabhaigiaaDoorW4
namespace Go.Proofs.YtmahhaabhaigiaaDoor
open Go.RowKit
set_option maxHeartbeats 1000000 in
theorem rnext_sym (s : ByteArray) (n q : Nat) (w : World) (hs : s.size ≤ maxLen) (h16 : s.size ≤ 16384) (hn : n ≤ s.size) (hq : q = Tk.skipF false (tl s n)) (ha : n + q < s.size) (hc : Tk.cls s[n + q].toNat = 0 ∨ Tk.cls s[n + q].toNat = 1) :
    Calls Tryd.prog 11 #[.string s, .int .i64 n] w fun e w' => e = .returned (resv s (n + q) (Tk.tokF (tl s (n + q)))) ∧ Below w.heap.size w w' := by
  have hsm := hs
  unfold maxLen at hs
  have Hskip := Lib.hid (rskip_any s n)
  rw [← hq] at Hskip
  clear hq
  have ha2 : ((n : Int) + q == s.size) = false := by simp; omega
  have h2 : (Tk.cls s[n + q].toNat == 2) = false := by simp; omega
  have h3 : (Tk.cls s[n + q].toNat == 3) = false := by simp; omega
  have h4 : (Tk.cls s[n + q].toNat == 4) = false := by simp; omega
  have hl := (Tk.symF_take (tl s (n + q))).1
  rw [tl_len] at hl
  have Hsym := Lib.hid (fun w => rsymbol_any s (n + q) w hsm (by omega))
  by_cases hz : Tk.symF (tl s (n + q)) = []
  · rw [resv_none s _ ha hc hz]
    rw [hz] at Hsym
    clear hc hz hl
    go_enter Tryd.func11, Tryd.ntmps11
    go_wp2_with (first | (go_at_call 21; refine (Hskip.out _ hsm (by omega)).mono ?_; rintro e w' ⟨rfl, rfl⟩) | (go_at_call 22; refine (lower_any _ _).mono ?_; rintro e w' ⟨rfl, rfl⟩) | (go_at_call 23; refine (upper_any _ _).mono ?_; rintro e w' ⟨rfl, rfl⟩) | (go_at_call 24; refine (digit_any _ _).mono ?_; rintro e w' ⟨rfl, rfl⟩) | (go_at_call 18; refine (Hsym.out _).mono ?_; rintro e w1 ⟨rfl, hb⟩; unfold strv; obtain ⟨hc, hf⟩ := bcell hb; have hz := hb.size; simp only [World.size_alloc] at hc hf hz))
    refine bodyPost_ret (v := .tuple #[.agg #[.int .i64 (0), .int .i64 (0), .string (⟨#[]⟩)], .int .i64 ((n + q : Nat)), .int .i64 (16)]) ?_ rfl ⟨by first | rfl | (simp [tokv]; done), ?_⟩
    · have hcell : ∀ j v, (w.alloc (Obj.cells #[Value.int IntKind.i64 0, Value.int IntKind.i64 0, Value.string ⟨#[]⟩] 24)).cell? ⟨w.heap.size, j, none⟩ = some v → w1.cell? ⟨w.heap.size, j, none⟩ = some v := fun j v h => (hb.cell (p := ⟨w.heap.size, j, none⟩) (by simp)).trans h
      have g0 := hcell 0 _ (by simp [go_sem]; rfl)
      have g1 := hcell 1 _ (by simp [go_sem]; rfl)
      have g2 := hcell 2 _ (by simp [go_sem]; rfl)
      simp [results, Tryd.results11, go_sem, g0, g1, g2]
    · exact ((((Below.refl _ _).alloc (Nat.le_refl _) _).trans (hb.mono (by simp))).setCell (by simp) _).setCell (by simp) _ |>.setCell (by simp) _
  · rw [resv_sym s _ ha hc hz]
    generalize Tk.symF (tl s (n + q)) = x at *
    have hx0 : 0 < x.length := List.length_pos_iff.2 hz
    have hx1 : ((n : Int) + q + x.length == n + q) = false := by simp; omega
    clear hc hz
    go_enter Tryd.func11, Tryd.ntmps11
    go_wp2_with (first | (go_at_call 21; refine (Hskip.out _ hsm (by omega)).mono ?_; rintro e w' ⟨rfl, rfl⟩) | (go_at_call 22; refine (lower_any _ _).mono ?_; rintro e w' ⟨rfl, rfl⟩) | (go_at_call 23; refine (upper_any _ _).mono ?_; rintro e w' ⟨rfl, rfl⟩) | (go_at_call 24; refine (digit_any _ _).mono ?_; rintro e w' ⟨rfl, rfl⟩) | (go_at_call 18; refine (Hsym.out _).mono ?_; rintro e w1 ⟨rfl, hb⟩; unfold strv; obtain ⟨hc, hf⟩ := bcell hb; have hz := hb.size; simp only [World.size_alloc] at hc hf hz))
    refine bodyPost_ret (v := .tuple #[.agg #[.int .i64 (4), .int .i64 ((n + q : Nat)), .string (s.extract (n + q) (n + q + x.length))], .int .i64 ((n + q + x.length : Nat)), .int .i64 (0)]) ?_ rfl ⟨by first | rfl | (simp [tokv]; done), ?_⟩
    · have hcell : ∀ j v, (w.alloc (Obj.cells #[Value.int IntKind.i64 0, Value.int IntKind.i64 0, Value.string ⟨#[]⟩] 24)).cell? ⟨w.heap.size, j, none⟩ = some v → w1.cell? ⟨w.heap.size, j, none⟩ = some v := fun j v h => (hb.cell (p := ⟨w.heap.size, j, none⟩) (by simp)).trans h
      have g0 := hcell 0 _ (by simp [go_sem]; rfl)
      have g1 := hcell 1 _ (by simp [go_sem]; rfl)
      have g2 := hcell 2 _ (by simp [go_sem]; rfl)
      simp [results, Tryd.results11, go_sem, g0, g1, g2]
    · exact ((((Below.refl _ _).alloc (Nat.le_refl _) _).trans (hb.mono (by simp))).setCell (by simp) _).setCell (by simp) _ |>.setCell (by simp) _

set_option maxHeartbeats 1000000 in
theorem rnext_any (s : ByteArray) (a : Int) (w : World) (hs : s.size ≤ maxLen) :
    Calls Tryd.prog 11 #[.string s, .int .i64 a] w fun e w' => e = .returned (nextv s a) ∧ Below w.heap.size w w' := by
  have hsm := hs
  unfold maxLen at hs
  by_cases h1 : a < 0
  · rw [nextv, if_pos (.inl h1)]
    go_enter Tryd.func11, Tryd.ntmps11
    go_wp2
    refine bodyPost_ret (v := .tuple #[.agg #[.int .i64 (0), .int .i64 (0), .string (⟨#[]⟩)], .int .i64 (0), .int .i64 (2)]) (by simp [results, Tryd.results11, go_sem]) rfl ⟨rfl, ?_⟩
    exact (Below.refl _ _).alloc (Nat.le_refl _) _
  by_cases h2 : (s.size : Int) < a
  · rw [nextv, if_pos (.inr h2)]
    go_enter Tryd.func11, Tryd.ntmps11
    go_wp2
    refine bodyPost_ret (v := .tuple #[.agg #[.int .i64 (0), .int .i64 (0), .string (⟨#[]⟩)], .int .i64 (0), .int .i64 (2)]) (by simp [results, Tryd.results11, go_sem]) rfl ⟨rfl, ?_⟩
    exact (Below.refl _ _).alloc (Nat.le_refl _) _
  by_cases h3 : 16384 < s.size
  · rw [nextv, if_neg (by omega), if_pos h3]
    go_enter Tryd.func11, Tryd.ntmps11
    go_wp2
    refine bodyPost_ret (v := .tuple #[.agg #[.int .i64 (0), .int .i64 (0), .string (⟨#[]⟩)], .int .i64 (0), .int .i64 (6)]) (by simp [results, Tryd.results11, go_sem]) rfl ⟨rfl, ?_⟩
    exact (Below.refl _ _).alloc (Nat.le_refl _) _
  rw [nextv, if_neg (by omega), if_neg h3]
  obtain ⟨n, rfl⟩ := Int.eq_ofNat_of_zero_le (show 0 ≤ a by omega)
  simp only [Int.toNat_natCast]
  have hsk := Tk.skipF_le (tl s n) false
  rw [tl_len] at hsk
  obtain ⟨q, hq⟩ : ∃ q, q = Tk.skipF false (tl s n) := ⟨_, rfl⟩
  rw [← hq] at hsk ⊢
  by_cases h : n + q < s.size
  · have hr := Tk.cls_range s[n + q].toNat
    by_cases h2 : Tk.cls s[n + q].toNat = 2 ∨ Tk.cls s[n + q].toNat = 3
    · exact rnext_name s n q w hsm (by omega) (by omega) hq h h2
    · by_cases h4 : Tk.cls s[n + q].toNat = 4
      · exact rnext_int s n q w hsm (by omega) (by omega) hq h h4
      · exact rnext_sym s n q w hsm (by omega) (by omega) hq h (by omega)
  · exact rnext_end s n q w hsm (by omega) (by omega) hq (by omega)
end Go.Proofs.YtmahhaabhaigiaaDoor
