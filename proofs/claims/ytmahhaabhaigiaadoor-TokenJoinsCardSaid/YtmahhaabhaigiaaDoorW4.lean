/-
  The walks of Next, in the program and in the reference.
-/
import Derived.Test.YtmahhaabhaigiaaDoorW3
namespace Go.Proofs.YtmahhaabhaigiaaDoor
open Go.RowKit

def tri (kd a : Int) (tx : ByteArray) (nx er : Int) : Value := .tuple #[tokv kd a tx, .int .i64 nx, .int .i64 er]
def nextv (s : ByteArray) (a : Int) : Value :=
  if a < 0 ∨ (s.size : Int) < a then tri 0 0 ⟨#[]⟩ 0 2
  else if 16384 < s.size then tri 0 0 ⟨#[]⟩ 0 6
  else resv s (a.toNat + Tk.skipF false (tl s a.toNat)) (Tk.tokF (tl s (a.toNat + Tk.skipF false (tl s a.toNat))))
theorem resv_form (s : ByteArray) (p : Nat) (t : Tk.Tr) : ∃ kd a tx nx er, resv s p t = tri kd a tx nx er := by
  unfold resv; split
  · exact ⟨_, _, _, _, _, rfl⟩
  · exact ⟨_, _, _, _, _, rfl⟩
theorem bcell {B : Nat} {W w1 : World} (hb : Below B W w1) : (∀ b o, b < B → w1.cell? ⟨b, o, none⟩ = W.cell? ⟨b, o, none⟩) ∧ (∀ b o, b < B → w1.frozen? ⟨b, o, none⟩ = W.frozen? ⟨b, o, none⟩) :=
  ⟨fun b o h => hb.cell (p := ⟨b, o, none⟩) h, fun b o h => hb.frozen (p := ⟨b, o, none⟩) h⟩

set_option maxHeartbeats 1000000 in
theorem next_any (s : ByteArray) (a : Int) (w : World) (hs : s.size ≤ maxLen) (htab : Tab w) :
    Calls Tryd.prog 10 #[.string s, .int .i64 a] w fun e w' => e = .returned (nextv s a) ∧ Below w.heap.size w w' := by
  have hsm := hs
  unfold maxLen at hs
  by_cases h1 : a < 0
  · rw [nextv, if_pos (.inl h1)]
    go_enter Tryd.func10, Tryd.ntmps10
    go_wp2
    refine bodyPost_ret (v := .tuple #[.agg #[.int .i64 0, .int .i64 0, .string ⟨#[]⟩], .int .i64 0, .int .i64 2]) (by simp [results, Tryd.results10, go_sem]) rfl ⟨rfl, ?_⟩
    exact (Below.refl _ _).alloc (Nat.le_refl _) _
  by_cases h2 : (s.size : Int) < a
  · rw [nextv, if_pos (.inr h2)]
    go_enter Tryd.func10, Tryd.ntmps10
    go_wp2
    refine bodyPost_ret (v := .tuple #[.agg #[.int .i64 0, .int .i64 0, .string ⟨#[]⟩], .int .i64 0, .int .i64 2]) (by simp [results, Tryd.results10, go_sem]) rfl ⟨rfl, ?_⟩
    exact (Below.refl _ _).alloc (Nat.le_refl _) _
  by_cases h3 : 16384 < s.size
  · rw [nextv, if_neg (by omega), if_pos h3]
    go_enter Tryd.func10, Tryd.ntmps10
    go_wp2
    refine bodyPost_ret (v := .tuple #[.agg #[.int .i64 0, .int .i64 0, .string ⟨#[]⟩], .int .i64 0, .int .i64 6]) (by simp [results, Tryd.results10, go_sem]) rfl ⟨rfl, ?_⟩
    exact (Below.refl _ _).alloc (Nat.le_refl _) _
  rw [nextv, if_neg (by omega), if_neg h3]
  obtain ⟨n, rfl⟩ := Int.eq_ofNat_of_zero_le (show 0 ≤ a by omega)
  simp only [Int.toNat_natCast]
  have hsk := Tk.skipF_le (tl s n) false
  rw [tl_len] at hsk
  have Hskip := Lib.hid (skip_any s n)
  have htab1 : ∀ o, Tab (w.alloc o) := fun o => htab.below htab.pos ((Below.refl _ _).alloc (Nat.le_refl _) _)
  generalize Tk.skipF false (tl s n) = q at *
  have Hread := Lib.hid (read_any s (n + q))
  obtain ⟨kd, at_, tx, nx, er, hr⟩ := resv_form s (n + q) (Tk.tokF (tl s (n + q)))
  rw [hr] at Hread ⊢
  clear hr
  go_enter Tryd.func10, Tryd.ntmps10
  go_wp2_with (first | (go_at_call 20; refine (Hskip.out _ hsm (by omega)).mono ?_; rintro e w' ⟨rfl, rfl⟩) | (go_at_call 19; refine (Hread.out _ hsm (by omega) (htab1 _)).mono ?_; rintro e w1 ⟨rfl, hb⟩; unfold tri tokv; obtain ⟨hc, hf⟩ := bcell hb; have hz := hb.size; simp only [World.size_alloc] at hc hf hz))
  refine bodyPost_ret (v := .tuple #[.agg #[.int .i64 kd, .int .i64 at_, .string tx], .int .i64 nx, .int .i64 er]) ?_ rfl ⟨rfl, ?_⟩
  · have hcell : ∀ j v, (w.alloc (Obj.cells #[Value.int IntKind.i64 0, Value.int IntKind.i64 0, Value.string ⟨#[]⟩] 24)).cell? ⟨w.heap.size, j, none⟩ = some v → w1.cell? ⟨w.heap.size, j, none⟩ = some v := fun j v h => (hb.cell (p := ⟨w.heap.size, j, none⟩) (by simp)).trans h
    have g0 := hcell 0 _ (by simp [go_sem]; rfl)
    have g1 := hcell 1 _ (by simp [go_sem]; rfl)
    have g2 := hcell 2 _ (by simp [go_sem]; rfl)
    simp [results, Tryd.results10, go_sem, g0, g1, g2]
  · refine ((((Below.refl _ _).alloc (Nat.le_refl _) _).trans (hb.mono (by simp))).setCell (by simp) _).setCell (by simp) _ |>.setCell (by simp) _
-- REFERENCE
theorem tl_extract (s : ByteArray) (p r : Nat) (_h : p + r ≤ s.size) : tl (s.extract p (p + r)) 0 = (tl s p).take r := by
  unfold tl
  simp [ByteArray.data_extract, List.take_drop]
set_option maxHeartbeats 1000000 in
theorem rnext_end (s : ByteArray) (n q : Nat) (w : World) (hs : s.size ≤ maxLen) (h16 : s.size ≤ 16384) (hn : n ≤ s.size) (hq : q = Tk.skipF false (tl s n)) (ha : n + q = s.size) :
    Calls Tryd.prog 11 #[.string s, .int .i64 n] w fun e w' => e = .returned (resv s (n + q) (Tk.tokF (tl s (n + q)))) ∧ Below w.heap.size w w' := by
  have hsm := hs
  unfold maxLen at hs
  have Hskip := Lib.hid (rskip_any s n)
  rw [← hq] at Hskip
  clear hq
  rw [resv_end s (n + q) ha]
  have he : s.extract (n + q) (n + q) = ⟨#[]⟩ := by
    ext1; simp
  have ha2 : ((n : Int) + q == s.size) = true := by simp; omega
  have ha1 : n + q ≤ s.size := by omega
  clear ha
  go_enter Tryd.func11, Tryd.ntmps11
  go_wp2_with (first | (go_at_call 21; refine (Hskip.out _ hsm (by omega)).mono ?_; rintro e w' ⟨rfl, rfl⟩) | (go_at_call 22; refine (lower_any _ _).mono ?_; rintro e w' ⟨rfl, rfl⟩) | (go_at_call 23; refine (upper_any _ _).mono ?_; rintro e w' ⟨rfl, rfl⟩) | (go_at_call 24; refine (digit_any _ _).mono ?_; rintro e w' ⟨rfl, rfl⟩))
  refine bodyPost_ret (v := .tuple #[.agg #[.int .i64 (0), .int .i64 ((n + q : Nat)), .string (⟨#[]⟩)], .int .i64 ((n + q : Nat)), .int .i64 (0)]) (by simp [results, Tryd.results11, go_sem]; rfl) rfl ⟨rfl, ?_⟩
  exact (Below.refl _ _).alloc (Nat.le_refl _) _
set_option maxHeartbeats 1000000 in
theorem rnext_name (s : ByteArray) (n q : Nat) (w : World) (hs : s.size ≤ maxLen) (h16 : s.size ≤ 16384) (hn : n ≤ s.size) (hq : q = Tk.skipF false (tl s n)) (ha : n + q < s.size) (hc : Tk.cls s[n + q].toNat = 2 ∨ Tk.cls s[n + q].toNat = 3) :
    Calls Tryd.prog 11 #[.string s, .int .i64 n] w fun e w' => e = .returned (resv s (n + q) (Tk.tokF (tl s (n + q)))) ∧ Below w.heap.size w w' := by
  have hsm := hs
  unfold maxLen at hs
  have Hskip := Lib.hid (rskip_any s n)
  rw [← hq] at Hskip
  clear hq
  have hrl := Tk.runF_le 2 (tl s (n + q))
  rw [tl_len] at hrl
  have ha2 : ((n : Int) + q == s.size) = false := by simp; omega
  obtain ⟨kd, hkd⟩ : ∃ kd : Int, kd = if Tk.cls s[n + q].toNat = 3 then 2 else 1 := ⟨_, rfl⟩
  have hres : resv s (n + q) (Tk.tokF (tl s (n + q))) = if 40 < Tk.runF 2 (tl s (n + q)) then .tuple #[tokv 0 0 ⟨#[]⟩, .int .i64 (n + q : Nat), .int .i64 7] else .tuple #[tokv kd (n + q : Nat) (s.extract (n + q) (n + q + Tk.runF 2 (tl s (n + q)))), .int .i64 ((n + q + Tk.runF 2 (tl s (n + q)) : Nat) : Int), .int .i64 0] := by
    split
    · rename_i h; exact resv_long s _ ha hc h
    · rename_i h; rw [resv_name s _ ha hc h, hkd]
  rw [hres]
  clear hres
  have Hst := Lib.hid (RunAt.start (m := 2) (show n + q ≤ s.size by omega))
  have Hdone := Lib.hid (fun k => @RunAt.done s 2 (n + q) k)
  have Hstop := Lib.hid (fun k => @RunAt.stop s 2 (n + q) k)
  generalize Tk.runF 2 (tl s (n + q)) = r at *
  rcases hc with hc | hc
  · have h2 : (Tk.cls s[n + q].toNat == 2) = true := by simp [hc]
    have h3 : (Tk.cls s[n + q].toNat == 3) = false := by simp [hc]
    obtain rfl : kd = 1 := by rw [hkd]; simp [hc]
    clear hc hkd
    go_enter Tryd.func11, Tryd.ntmps11
    go_wp2_with (first | (go_at_call 21; refine (Hskip.out _ hsm (by omega)).mono ?_; rintro e w' ⟨rfl, rfl⟩) | (go_at_call 22; refine (lower_any _ _).mono ?_; rintro e w' ⟨rfl, rfl⟩) | (go_at_call 23; refine (upper_any _ _).mono ?_; rintro e w' ⟨rfl, rfl⟩) | (go_at_call 24; refine (digit_any _ _).mono ?_; rintro e w' ⟨rfl, rfl⟩))
    go_loop [7] (fun v => ∃ k : Nat, RunAt s 2 (n + q) k ∧ v = .int .i64 k) (fun v => s.size - (intOf v).toNat)
    case atStart => exact ⟨n + q, Hst.out, by go_num⟩
    case round =>
      obtain ⟨k, hk, rfl⟩ := hrel
      have hk1 := hk.1
      have hk2 := hk.2.1
      by_cases hlt : k < s.size
      · have hcr := Tk.cls_range s[k].toNat
        by_cases hd : 2 ≤ Tk.cls s[k].toNat
        · have hk3 := hk.more hlt hd
          have hor : (Tk.cls s[k].toNat == 2) = true ∨ ((Tk.cls s[k].toNat == 2) = false ∧ (Tk.cls s[k].toNat == 3) = true) ∨ ((Tk.cls s[k].toNat == 2) = false ∧ (Tk.cls s[k].toNat == 3) = false ∧ (Tk.cls s[k].toNat == 4) = true) := by
            simp; omega
          clear hd hcr
          rcases hor with g2 | ⟨g2, g3⟩ | ⟨g2, g3, g4⟩
          all_goals
            go_wp2_with (first | (go_at_call 21; refine (Hskip.out _ hsm (by omega)).mono ?_; rintro e w' ⟨rfl, rfl⟩) | (go_at_call 22; refine (lower_any _ _).mono ?_; rintro e w' ⟨rfl, rfl⟩) | (go_at_call 23; refine (upper_any _ _).mono ?_; rintro e w' ⟨rfl, rfl⟩) | (go_at_call 24; refine (digit_any _ _).mono ?_; rintro e w' ⟨rfl, rfl⟩))
            go_round
            case rel => exact ⟨k + 1, hk3, by go_num⟩
            case measure => simp [intOf]; omega
        · have g2 : (Tk.cls s[k].toNat == 2) = false := by simp; omega
          have g3 : (Tk.cls s[k].toNat == 3) = false := by simp; omega
          have g4 : (Tk.cls s[k].toNat == 4) = false := by simp; omega
          have hkr : k = n + q + r := by have := Hstop.out k hk hlt (by omega); omega
          clear hk
          obtain rfl := hkr
          by_cases h40 : 40 < r
          · go_wp2_with (first | (go_at_call 21; refine (Hskip.out _ hsm (by omega)).mono ?_; rintro e w' ⟨rfl, rfl⟩) | (go_at_call 22; refine (lower_any _ _).mono ?_; rintro e w' ⟨rfl, rfl⟩) | (go_at_call 23; refine (upper_any _ _).mono ?_; rintro e w' ⟨rfl, rfl⟩) | (go_at_call 24; refine (digit_any _ _).mono ?_; rintro e w' ⟨rfl, rfl⟩))
            refine bodyPost_ret (v := .tuple #[.agg #[.int .i64 (0), .int .i64 (0), .string (⟨#[]⟩)], .int .i64 ((n + q : Nat)), .int .i64 (7)]) (by simp [results, Tryd.results11, go_sem]) rfl ⟨by first | rfl | (rw [if_pos h40]; rfl), ?_⟩
            exact (Below.refl _ _).alloc (Nat.le_refl _) _
          · go_wp2_with (first | (go_at_call 21; refine (Hskip.out _ hsm (by omega)).mono ?_; rintro e w' ⟨rfl, rfl⟩) | (go_at_call 22; refine (lower_any _ _).mono ?_; rintro e w' ⟨rfl, rfl⟩) | (go_at_call 23; refine (upper_any _ _).mono ?_; rintro e w' ⟨rfl, rfl⟩) | (go_at_call 24; refine (digit_any _ _).mono ?_; rintro e w' ⟨rfl, rfl⟩))
            refine bodyPost_ret (v := .tuple #[.agg #[.int .i64 (1), .int .i64 ((n + q : Nat)), .string (s.extract (n + q) (n + q + r))], .int .i64 ((n + q + r : Nat)), .int .i64 (0)]) (by simp [results, Tryd.results11, go_sem]) rfl ⟨by first | rfl | (rw [if_neg h40]; rfl), ?_⟩
            exact (Below.refl _ _).alloc (Nat.le_refl _) _
      · have hge : (k : Int) ≥ s.size := by omega
        have hkr : k = n + q + r := by have := Hdone.out k hk (by omega); omega
        clear hk
        obtain rfl := hkr
        by_cases h40 : 40 < r
        · go_wp2_with (first | (go_at_call 21; refine (Hskip.out _ hsm (by omega)).mono ?_; rintro e w' ⟨rfl, rfl⟩) | (go_at_call 22; refine (lower_any _ _).mono ?_; rintro e w' ⟨rfl, rfl⟩) | (go_at_call 23; refine (upper_any _ _).mono ?_; rintro e w' ⟨rfl, rfl⟩) | (go_at_call 24; refine (digit_any _ _).mono ?_; rintro e w' ⟨rfl, rfl⟩))
          refine bodyPost_ret (v := .tuple #[.agg #[.int .i64 (0), .int .i64 (0), .string (⟨#[]⟩)], .int .i64 ((n + q : Nat)), .int .i64 (7)]) (by simp [results, Tryd.results11, go_sem]) rfl ⟨by first | rfl | (rw [if_pos h40]; rfl), ?_⟩
          exact (Below.refl _ _).alloc (Nat.le_refl _) _
        · go_wp2_with (first | (go_at_call 21; refine (Hskip.out _ hsm (by omega)).mono ?_; rintro e w' ⟨rfl, rfl⟩) | (go_at_call 22; refine (lower_any _ _).mono ?_; rintro e w' ⟨rfl, rfl⟩) | (go_at_call 23; refine (upper_any _ _).mono ?_; rintro e w' ⟨rfl, rfl⟩) | (go_at_call 24; refine (digit_any _ _).mono ?_; rintro e w' ⟨rfl, rfl⟩))
          refine bodyPost_ret (v := .tuple #[.agg #[.int .i64 (1), .int .i64 ((n + q : Nat)), .string (s.extract (n + q) (n + q + r))], .int .i64 ((n + q + r : Nat)), .int .i64 (0)]) (by simp [results, Tryd.results11, go_sem]) rfl ⟨by first | rfl | (rw [if_neg h40]; rfl), ?_⟩
          exact (Below.refl _ _).alloc (Nat.le_refl _) _
  · have h2 : (Tk.cls s[n + q].toNat == 2) = false := by simp [hc]
    have h3 : (Tk.cls s[n + q].toNat == 3) = true := by simp [hc]
    obtain rfl : kd = 2 := by rw [hkd]; simp [hc]
    clear hc hkd
    go_enter Tryd.func11, Tryd.ntmps11
    go_wp2_with (first | (go_at_call 21; refine (Hskip.out _ hsm (by omega)).mono ?_; rintro e w' ⟨rfl, rfl⟩) | (go_at_call 22; refine (lower_any _ _).mono ?_; rintro e w' ⟨rfl, rfl⟩) | (go_at_call 23; refine (upper_any _ _).mono ?_; rintro e w' ⟨rfl, rfl⟩) | (go_at_call 24; refine (digit_any _ _).mono ?_; rintro e w' ⟨rfl, rfl⟩))
    go_loop [7] (fun v => ∃ k : Nat, RunAt s 2 (n + q) k ∧ v = .int .i64 k) (fun v => s.size - (intOf v).toNat)
    case atStart => exact ⟨n + q, Hst.out, by go_num⟩
    case round =>
      obtain ⟨k, hk, rfl⟩ := hrel
      have hk1 := hk.1
      have hk2 := hk.2.1
      by_cases hlt : k < s.size
      · have hcr := Tk.cls_range s[k].toNat
        by_cases hd : 2 ≤ Tk.cls s[k].toNat
        · have hk3 := hk.more hlt hd
          have hor : (Tk.cls s[k].toNat == 2) = true ∨ ((Tk.cls s[k].toNat == 2) = false ∧ (Tk.cls s[k].toNat == 3) = true) ∨ ((Tk.cls s[k].toNat == 2) = false ∧ (Tk.cls s[k].toNat == 3) = false ∧ (Tk.cls s[k].toNat == 4) = true) := by
            simp; omega
          clear hd hcr
          rcases hor with g2 | ⟨g2, g3⟩ | ⟨g2, g3, g4⟩
          all_goals
            go_wp2_with (first | (go_at_call 21; refine (Hskip.out _ hsm (by omega)).mono ?_; rintro e w' ⟨rfl, rfl⟩) | (go_at_call 22; refine (lower_any _ _).mono ?_; rintro e w' ⟨rfl, rfl⟩) | (go_at_call 23; refine (upper_any _ _).mono ?_; rintro e w' ⟨rfl, rfl⟩) | (go_at_call 24; refine (digit_any _ _).mono ?_; rintro e w' ⟨rfl, rfl⟩))
            go_round
            case rel => exact ⟨k + 1, hk3, by go_num⟩
            case measure => simp [intOf]; omega
        · have g2 : (Tk.cls s[k].toNat == 2) = false := by simp; omega
          have g3 : (Tk.cls s[k].toNat == 3) = false := by simp; omega
          have g4 : (Tk.cls s[k].toNat == 4) = false := by simp; omega
          have hkr : k = n + q + r := by have := Hstop.out k hk hlt (by omega); omega
          clear hk
          obtain rfl := hkr
          by_cases h40 : 40 < r
          · go_wp2_with (first | (go_at_call 21; refine (Hskip.out _ hsm (by omega)).mono ?_; rintro e w' ⟨rfl, rfl⟩) | (go_at_call 22; refine (lower_any _ _).mono ?_; rintro e w' ⟨rfl, rfl⟩) | (go_at_call 23; refine (upper_any _ _).mono ?_; rintro e w' ⟨rfl, rfl⟩) | (go_at_call 24; refine (digit_any _ _).mono ?_; rintro e w' ⟨rfl, rfl⟩))
            refine bodyPost_ret (v := .tuple #[.agg #[.int .i64 (0), .int .i64 (0), .string (⟨#[]⟩)], .int .i64 ((n + q : Nat)), .int .i64 (7)]) (by simp [results, Tryd.results11, go_sem]) rfl ⟨by first | rfl | (rw [if_pos h40]; rfl), ?_⟩
            exact (Below.refl _ _).alloc (Nat.le_refl _) _
          · go_wp2_with (first | (go_at_call 21; refine (Hskip.out _ hsm (by omega)).mono ?_; rintro e w' ⟨rfl, rfl⟩) | (go_at_call 22; refine (lower_any _ _).mono ?_; rintro e w' ⟨rfl, rfl⟩) | (go_at_call 23; refine (upper_any _ _).mono ?_; rintro e w' ⟨rfl, rfl⟩) | (go_at_call 24; refine (digit_any _ _).mono ?_; rintro e w' ⟨rfl, rfl⟩))
            refine bodyPost_ret (v := .tuple #[.agg #[.int .i64 (2), .int .i64 ((n + q : Nat)), .string (s.extract (n + q) (n + q + r))], .int .i64 ((n + q + r : Nat)), .int .i64 (0)]) (by simp [results, Tryd.results11, go_sem]) rfl ⟨by first | rfl | (rw [if_neg h40]; rfl), ?_⟩
            exact (Below.refl _ _).alloc (Nat.le_refl _) _
      · have hge : (k : Int) ≥ s.size := by omega
        have hkr : k = n + q + r := by have := Hdone.out k hk (by omega); omega
        clear hk
        obtain rfl := hkr
        by_cases h40 : 40 < r
        · go_wp2_with (first | (go_at_call 21; refine (Hskip.out _ hsm (by omega)).mono ?_; rintro e w' ⟨rfl, rfl⟩) | (go_at_call 22; refine (lower_any _ _).mono ?_; rintro e w' ⟨rfl, rfl⟩) | (go_at_call 23; refine (upper_any _ _).mono ?_; rintro e w' ⟨rfl, rfl⟩) | (go_at_call 24; refine (digit_any _ _).mono ?_; rintro e w' ⟨rfl, rfl⟩))
          refine bodyPost_ret (v := .tuple #[.agg #[.int .i64 (0), .int .i64 (0), .string (⟨#[]⟩)], .int .i64 ((n + q : Nat)), .int .i64 (7)]) (by simp [results, Tryd.results11, go_sem]) rfl ⟨by first | rfl | (rw [if_pos h40]; rfl), ?_⟩
          exact (Below.refl _ _).alloc (Nat.le_refl _) _
        · go_wp2_with (first | (go_at_call 21; refine (Hskip.out _ hsm (by omega)).mono ?_; rintro e w' ⟨rfl, rfl⟩) | (go_at_call 22; refine (lower_any _ _).mono ?_; rintro e w' ⟨rfl, rfl⟩) | (go_at_call 23; refine (upper_any _ _).mono ?_; rintro e w' ⟨rfl, rfl⟩) | (go_at_call 24; refine (digit_any _ _).mono ?_; rintro e w' ⟨rfl, rfl⟩))
          refine bodyPost_ret (v := .tuple #[.agg #[.int .i64 (2), .int .i64 ((n + q : Nat)), .string (s.extract (n + q) (n + q + r))], .int .i64 ((n + q + r : Nat)), .int .i64 (0)]) (by simp [results, Tryd.results11, go_sem]) rfl ⟨by first | rfl | (rw [if_neg h40]; rfl), ?_⟩
          exact (Below.refl _ _).alloc (Nat.le_refl _) _
set_option maxHeartbeats 1000000 in
theorem rnext_int (s : ByteArray) (n q : Nat) (w : World) (hs : s.size ≤ maxLen) (h16 : s.size ≤ 16384) (hn : n ≤ s.size) (hq : q = Tk.skipF false (tl s n)) (ha : n + q < s.size) (hc : Tk.cls s[n + q].toNat = 4) :
    Calls Tryd.prog 11 #[.string s, .int .i64 n] w fun e w' => e = .returned (resv s (n + q) (Tk.tokF (tl s (n + q)))) ∧ Below w.heap.size w w' := by
  have hsm := hs
  unfold maxLen at hs
  have Hskip := Lib.hid (rskip_any s n)
  rw [← hq] at Hskip
  clear hq
  have hrl := Tk.runF_le 4 (tl s (n + q))
  rw [tl_len] at hrl
  have ha2 : ((n : Int) + q == s.size) = false := by simp; omega
  have hres : resv s (n + q) (Tk.tokF (tl s (n + q))) = if 2147483648 < Tk.valF 0 ((tl s (n + q)).take (Tk.runF 4 (tl s (n + q)))) then .tuple #[tokv 0 0 ⟨#[]⟩, .int .i64 (n + q : Nat), .int .i64 5] else .tuple #[tokv 3 (n + q : Nat) (s.extract (n + q) (n + q + Tk.runF 4 (tl s (n + q)))), .int .i64 ((n + q + Tk.runF 4 (tl s (n + q)) : Nat) : Int), .int .i64 0] := by
    split
    · rename_i h; exact resv_big s _ ha hc h
    · rename_i h; exact resv_int s _ ha hc h
  rw [hres]
  clear hres
  have Hst := Lib.hid (RunAt.start (m := 4) (show n + q ≤ s.size by omega))
  have Hdone := Lib.hid (fun k => @RunAt.done s 4 (n + q) k)
  have Hstop := Lib.hid (fun k => @RunAt.stop s 4 (n + q) k)
  have Hval := Lib.hid (fun w => value_any (s.extract (n + q) (n + q + Tk.runF 4 (tl s (n + q)))) w)
  rw [tl_extract s _ _ (by omega)] at Hval
  generalize Tk.runF 4 (tl s (n + q)) = r at *
  generalize Tk.valF 0 ((tl s (n + q)).take r) = V at *
  have h2 : (Tk.cls s[n + q].toNat == 2) = false := by simp [hc]
  have h3 : (Tk.cls s[n + q].toNat == 3) = false := by simp [hc]
  have h4 : (Tk.cls s[n + q].toNat == 4) = true := by simp [hc]
  clear hc
  go_enter Tryd.func11, Tryd.ntmps11
  go_wp2_with (first | (go_at_call 21; refine (Hskip.out _ hsm (by omega)).mono ?_; rintro e w' ⟨rfl, rfl⟩) | (go_at_call 22; refine (lower_any _ _).mono ?_; rintro e w' ⟨rfl, rfl⟩) | (go_at_call 23; refine (upper_any _ _).mono ?_; rintro e w' ⟨rfl, rfl⟩) | (go_at_call 24; refine (digit_any _ _).mono ?_; rintro e w' ⟨rfl, rfl⟩))
  go_loop [7] (fun v => ∃ k : Nat, RunAt s 4 (n + q) k ∧ v = .int .i64 k) (fun v => s.size - (intOf v).toNat)
  case atStart => exact ⟨n + q, Hst.out, by go_num⟩
  case round =>
    obtain ⟨k, hk, rfl⟩ := hrel
    have hk1 := hk.1
    have hk2 := hk.2.1
    by_cases hlt : k < s.size
    · have hcr := Tk.cls_range s[k].toNat
      by_cases hd : 4 ≤ Tk.cls s[k].toNat
      · have hk3 := hk.more hlt hd
        have g4 : (Tk.cls s[k].toNat == 4) = true := by simp; omega
        go_wp2_with (first | (go_at_call 21; refine (Hskip.out _ hsm (by omega)).mono ?_; rintro e w' ⟨rfl, rfl⟩) | (go_at_call 22; refine (lower_any _ _).mono ?_; rintro e w' ⟨rfl, rfl⟩) | (go_at_call 23; refine (upper_any _ _).mono ?_; rintro e w' ⟨rfl, rfl⟩) | (go_at_call 24; refine (digit_any _ _).mono ?_; rintro e w' ⟨rfl, rfl⟩))
        go_round
        case rel => exact ⟨k + 1, hk3, by go_num⟩
        case measure => simp [intOf]; omega
      · have g4 : (Tk.cls s[k].toNat == 4) = false := by simp; omega
        have hkr : k = n + q + r := by have := Hstop.out k hk hlt (by omega); omega
        clear hk
        obtain rfl := hkr
        by_cases hV : 2147483648 < V
        · go_wp2_with (first | (go_at_call 21; refine (Hskip.out _ hsm (by omega)).mono ?_; rintro e w' ⟨rfl, rfl⟩) | (go_at_call 22; refine (lower_any _ _).mono ?_; rintro e w' ⟨rfl, rfl⟩) | (go_at_call 23; refine (upper_any _ _).mono ?_; rintro e w' ⟨rfl, rfl⟩) | (go_at_call 24; refine (digit_any _ _).mono ?_; rintro e w' ⟨rfl, rfl⟩) | (go_at_call 25; refine (Hval.out _ (by simp [ByteArray.size_extract]; unfold maxLen; omega)).mono ?_; rintro e w' ⟨rfl, rfl⟩))
          refine bodyPost_ret (v := .tuple #[.agg #[.int .i64 (0), .int .i64 (0), .string (⟨#[]⟩)], .int .i64 ((n + q : Nat)), .int .i64 (5)]) (by simp [results, Tryd.results11, go_sem]) rfl ⟨by first | rfl | (rw [if_pos hV]; rfl), ?_⟩
          exact (Below.refl _ _).alloc (Nat.le_refl _) _
        · go_wp2_with (first | (go_at_call 21; refine (Hskip.out _ hsm (by omega)).mono ?_; rintro e w' ⟨rfl, rfl⟩) | (go_at_call 22; refine (lower_any _ _).mono ?_; rintro e w' ⟨rfl, rfl⟩) | (go_at_call 23; refine (upper_any _ _).mono ?_; rintro e w' ⟨rfl, rfl⟩) | (go_at_call 24; refine (digit_any _ _).mono ?_; rintro e w' ⟨rfl, rfl⟩) | (go_at_call 25; refine (Hval.out _ (by simp [ByteArray.size_extract]; unfold maxLen; omega)).mono ?_; rintro e w' ⟨rfl, rfl⟩))
          refine bodyPost_ret (v := .tuple #[.agg #[.int .i64 (3), .int .i64 ((n + q : Nat)), .string (s.extract (n + q) (n + q + r))], .int .i64 ((n + q + r : Nat)), .int .i64 (0)]) (by simp [results, Tryd.results11, go_sem]) rfl ⟨by first | rfl | (rw [if_neg hV]; rfl), ?_⟩
          exact (Below.refl _ _).alloc (Nat.le_refl _) _
    · have hge : (k : Int) ≥ s.size := by omega
      have hkr : k = n + q + r := by have := Hdone.out k hk (by omega); omega
      clear hk
      obtain rfl := hkr
      by_cases hV : 2147483648 < V
      · go_wp2_with (first | (go_at_call 21; refine (Hskip.out _ hsm (by omega)).mono ?_; rintro e w' ⟨rfl, rfl⟩) | (go_at_call 22; refine (lower_any _ _).mono ?_; rintro e w' ⟨rfl, rfl⟩) | (go_at_call 23; refine (upper_any _ _).mono ?_; rintro e w' ⟨rfl, rfl⟩) | (go_at_call 24; refine (digit_any _ _).mono ?_; rintro e w' ⟨rfl, rfl⟩) | (go_at_call 25; refine (Hval.out _ (by simp [ByteArray.size_extract]; unfold maxLen; omega)).mono ?_; rintro e w' ⟨rfl, rfl⟩))
        refine bodyPost_ret (v := .tuple #[.agg #[.int .i64 (0), .int .i64 (0), .string (⟨#[]⟩)], .int .i64 ((n + q : Nat)), .int .i64 (5)]) (by simp [results, Tryd.results11, go_sem]) rfl ⟨by first | rfl | (rw [if_pos hV]; rfl), ?_⟩
        exact (Below.refl _ _).alloc (Nat.le_refl _) _
      · go_wp2_with (first | (go_at_call 21; refine (Hskip.out _ hsm (by omega)).mono ?_; rintro e w' ⟨rfl, rfl⟩) | (go_at_call 22; refine (lower_any _ _).mono ?_; rintro e w' ⟨rfl, rfl⟩) | (go_at_call 23; refine (upper_any _ _).mono ?_; rintro e w' ⟨rfl, rfl⟩) | (go_at_call 24; refine (digit_any _ _).mono ?_; rintro e w' ⟨rfl, rfl⟩) | (go_at_call 25; refine (Hval.out _ (by simp [ByteArray.size_extract]; unfold maxLen; omega)).mono ?_; rintro e w' ⟨rfl, rfl⟩))
        refine bodyPost_ret (v := .tuple #[.agg #[.int .i64 (3), .int .i64 ((n + q : Nat)), .string (s.extract (n + q) (n + q + r))], .int .i64 ((n + q + r : Nat)), .int .i64 (0)]) (by simp [results, Tryd.results11, go_sem]) rfl ⟨by first | rfl | (rw [if_neg hV]; rfl), ?_⟩
        exact (Below.refl _ _).alloc (Nat.le_refl _) _
end Go.Proofs.YtmahhaabhaigiaaDoor
