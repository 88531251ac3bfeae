/-
  The walks of Same and Gap, of 'great' and of the examples ('live').
-/
import Derived.Test.YtmahhaabhaigiaaDoorW6
namespace Go.Proofs.YtmahhaabhaigiaaDoor
open Go.RowKit

/-- a slice value that reads as these tokens. -/
def Toks (w : World) (A : Option Addr) (l : List NR) : Prop :=
  ∀ k r, l[k]? = some r → ∃ g, A = some ⟨g, 0, none⟩ ∧ g < w.heap.size ∧ w.cell? ⟨g, k * 3, none⟩ = some (.int .i64 r.kd) ∧ w.cell? ⟨g, k * 3 + 1, none⟩ = some (.int .i64 r.at_) ∧ w.cell? ⟨g, k * 3 + 2, none⟩ = some (.string r.tx)
theorem flat_at : ∀ (l : List NR) (k : Nat) (r : NR), l[k]? = some r → (l.flatMap NR.cells)[k * 3]? = some (.int .i64 r.kd) ∧ (l.flatMap NR.cells)[k * 3 + 1]? = some (.int .i64 r.at_) ∧ (l.flatMap NR.cells)[k * 3 + 2]? = some (.string r.tx)
  | [], k, r, h => by simp at h
  | x :: l, 0, r, h => by
    simp only [List.getElem?_cons_zero, Option.some.injEq] at h
    subst h
    simp [NR.cells]
  | x :: l, k + 1, r, h => by
    have ih := flat_at l k r (by simpa using h)
    simp only [List.flatMap_cons, NR.cells]
    rw [show (k + 1) * 3 = k * 3 + 3 by omega, show k * 3 + 3 + 1 = (k * 3 + 1) + 3 by omega, show k * 3 + 3 + 2 = (k * 3 + 2) + 3 by omega]
    simpa using ih
theorem flat_len : ∀ l : List NR, (l.flatMap NR.cells).length = l.length * 3
  | [] => rfl
  | x :: l => by simp [NR.cells, flat_len l]; omega
theorem Owns.form {w : World} {B : Nat} {v : Value} {l : List NR} (h : Owns w B v l) : ∃ A c, v = .slice A l.length c ∧ Toks w A l ∧ l.length ≤ maxLen := by
  have hlt : ∀ k, v.ownBlock = some k → B ≤ k ∧ k < w.heap.size := World.ownsRow.lt h
  obtain ⟨h1, h2⟩ := id h
  rcases h2 with ⟨rfl, hn⟩ | ⟨g, cap, cur, rfl, hB, hh, hle, hcap, hsz, htk⟩
  · refine ⟨none, 0, by rw [hn], fun k r hr => ?_, by rw [hn]; exact Nat.zero_le _⟩
    have : l = [] := List.eq_nil_of_length_eq_zero hn
    subst this; simp at hr
  · refine ⟨_, _, rfl, fun k r hr => ?_, Nat.le_trans hle hcap⟩
    obtain ⟨a0, a1, a2⟩ := flat_at l k r hr
    have hk : k < l.length := (List.getElem?_eq_some_iff.1 hr).1
    have hc := fun j hj => World.ownsRow.cellAt h j hj
    exact ⟨g, rfl, (hlt g rfl).2, by rw [hc _ (by omega), a0], by rw [hc _ (by omega), a1], by rw [hc _ (by omega), a2]⟩
theorem Toks.below {w w' : World} {A : Option Addr} {l : List NR} (h : Toks w A l) (hb : Below w.heap.size w w') : Toks w' A l := by
  intro k r hr
  obtain ⟨g, e, hg, h0, h1, h2⟩ := h k r hr
  exact ⟨g, e, Nat.lt_of_lt_of_le hg hb.size, (hb.cell (p := ⟨g, _, none⟩) hg).trans h0, (hb.cell (p := ⟨g, _, none⟩) hg).trans h1, (hb.cell (p := ⟨g, _, none⟩) hg).trans h2⟩

set_option maxHeartbeats 1000000 in
theorem same_any (A A' : Option Addr) (c c' : Nat) (l : List NR) (w : World) (h : Toks w A l) (h' : Toks w A' l) (hl : l.length ≤ maxLen) :
    Calls Tryd.prog 15 #[.slice A l.length c, .slice A' l.length c'] w fun e w' => e = .returned (.bool true) ∧ ∃ n, w' = w.drewN n := by
  unfold maxLen at hl
  have H := Lib.hid h
  have H' := Lib.hid h'
  clear h h'
  go_enter Tryd.func15, Tryd.ntmps15
  go_wp2
  go_loopw [5] (fun i wr => ∃ k n : Nat, k ≤ l.length ∧ i = .int .i64 k ∧ wr = w.drewN n) (fun i _ => l.length - (intOf i).toNat)
  case atStart => exact ⟨0, 0, Nat.zero_le _, rfl, rfl⟩
  case round =>
    obtain ⟨k, n, hk, rfl, rfl⟩ := hrel
    by_cases hlt : k < l.length
    · obtain ⟨r, hr⟩ : ∃ r, l[k]? = some r := ⟨_, List.getElem?_eq_getElem hlt⟩
      obtain ⟨g, rfl, _, a0, a1, a2⟩ := H.out k r hr
      obtain ⟨g', rfl, _, b0, b1, b2⟩ := H'.out k r hr
      clear hr
      go_wp2
      go_quiet (fail)
      go_wp2
      go_roundw
      case rel => exact ⟨k + 1, _, by omega, by go_num, rfl⟩
      case measure => simp [intOf]; omega
    · go_wp2
      go_ret
      exact ⟨rfl, n, rfl⟩

theorem wNat (n : Nat) (h : n ≤ maxLen) : n ≤ 9223372036854775807 := h
set_option maxHeartbeats 1000000 in
theorem great_any (s : ByteArray) (w : World) :
    Calls Tryd.prog 9 #[.string s] w fun e w' => e = .returned (.bool (decide ((3000 < s.size ∧ s.size ≤ 16384) ∨ 20000 < s.size))) ∧ w = w' := by
  by_cases h1 : 3000 < s.size
  · by_cases h2 : s.size ≤ 16384
    · go_enter Tryd.func9, Tryd.ntmps9
      go_wp2
      go_ret
      exact ⟨ret_bool (by first | (rw [Bool.eq_iff_iff]; simp only [Bool.or_eq_true, decide_eq_true_eq]; omega) | (simp; done)), rfl⟩
    · go_enter Tryd.func9, Tryd.ntmps9
      go_wp2
      go_ret
      exact ⟨ret_bool (by first | (rw [Bool.eq_iff_iff]; simp only [Bool.or_eq_true, decide_eq_true_eq]; omega) | (simp; done)), rfl⟩
  · go_enter Tryd.func9, Tryd.ntmps9
    go_wp2
    go_ret
    exact ⟨ret_bool (by first | (rw [Bool.eq_iff_iff]; simp only [decide_eq_true_eq]; omega) | (simp; done)), rfl⟩

/-- white space and comments only between two offsets. -/
def gapB (s : ByteArray) (a b : Int) : Bool := decide (0 ≤ a ∧ a ≤ b ∧ b ≤ s.size) && (a + (Tk.skipF false (tl (s.extract 0 b.toNat) a.toNat) : Nat) == b)
set_option maxHeartbeats 1000000 in
theorem gap_any (s : ByteArray) (a b : Int) (w : World) (hs : s.size ≤ maxLen) :
    Calls Tryd.prog 16 #[.string s, .int .i64 a, .int .i64 b] w fun e w' => e = .returned (.bool (gapB s a b)) ∧ w = w' := by
  unfold maxLen at hs
  unfold gapB
  by_cases h1 : 0 ≤ a
  · by_cases h2 : a ≤ b
    · by_cases h3 : b ≤ s.size
      · obtain ⟨n, rfl⟩ := Int.eq_ofNat_of_zero_le h1
        obtain ⟨m, rfl⟩ := Int.eq_ofNat_of_zero_le (show 0 ≤ b by omega)
        have hsz : (s.extract 0 m).size = m := by simp [ByteArray.size_extract]; omega
        have Hskip := Lib.hid (fun w => rskip_any (s.extract 0 m) n w (by rw [hsz]; unfold maxLen; omega) (by rw [hsz]; omega))
        have hd : decide ((0 : Int) ≤ n ∧ (n : Int) ≤ m ∧ (m : Int) ≤ s.size) = true := by simp; omega
        simp only [Int.toNat_natCast, hd, Bool.true_and]
        have hq := Tk.skipF_le (tl (s.extract 0 m) n) false
        rw [tl_len, hsz] at hq
        generalize Tk.skipF false (tl (s.extract 0 m) n) = q at *
        clear hd hsz
        go_enter Tryd.func16, Tryd.ntmps16
        go_wp2_with (go_at_call 21; refine (Hskip.out _).mono ?_; rintro e w' ⟨rfl, rfl⟩)
        go_ret
        exact ⟨rfl, rfl⟩
      · go_enter Tryd.func16, Tryd.ntmps16
        go_wp2
        go_ret
        exact ⟨ret_bool (by simp; omega), rfl⟩
    · go_enter Tryd.func16, Tryd.ntmps16
      go_wp2
      go_ret
      exact ⟨ret_bool (by simp; omega), rfl⟩
  · go_enter Tryd.func16, Tryd.ntmps16
    go_wp2
    go_ret
    exact ⟨ret_bool (by simp; omega), rfl⟩

/-- the examples. -/
def ex1 : ByteArray := ⟨#[32, 32, 97, 98, 49, 50, 32, 35, 32, 99]⟩
def ex2 : ByteArray := ⟨#[112, 40, 88, 41, 32, 60, 61, 62, 32, 55, 46]⟩
def ex3 : ByteArray := ⟨#[97, 61, 58, 61, 98]⟩
theorem ex1_next : nextR ex1 1 = ⟨1, 2, ⟨#[97, 98, 49, 50]⟩, 6, 0⟩ := by kernel_rfl
theorem ex2_scan : (scanR ex2).2.2 = 0 := by kernel_rfl
theorem ex2_len : (scanR ex2).1.length = 8 := by kernel_rfl
theorem ex2_at : ((scanR ex2).1[4]?).map NR.tx = some ⟨#[60, 61, 62]⟩ := by kernel_rfl
theorem ex3_sym : strv (Tk.symF (tl ex3 1)) = .string ⟨#[61, 58, 61]⟩ := by kernel_rfl

theorem ex2_form {w : World} {B : Nat} {v : Value} (h : Owns w B v (scanR ex2).1) : ∃ g c, v = .slice (some ⟨g, 0, none⟩) 8 c ∧ g < w.heap.size ∧ w.cell? ⟨g, 14, none⟩ = some (.string ⟨#[60, 61, 62]⟩) := by
  obtain ⟨A, c, hv, ht, _⟩ := h.form
  rw [ex2_len] at hv
  cases h4 : (scanR ex2).1[4]? with
  | none => have := ex2_at; rw [h4] at this; cases this
  | some r =>
    have := ex2_at
    rw [h4] at this
    obtain ⟨g, rfl, hg, _, _, hc⟩ := ht 4 r h4
    exact ⟨g, c, hv, hg, hc.trans (congrArg (Option.map Value.string) this)⟩

set_option maxHeartbeats 1000000 in
theorem live_any (w : World) (htab : Tab w) :
    Calls Tryd.prog 12 #[] w fun e w' => e = .returned (.bool true) ∧ Below w.heap.size w w' := by
  have Hn := Lib.hid (fun w => nextR_any ex1 1 w (by unfold maxLen; decide))
  have Hs := Lib.hid (fun w => scan_any ex2 w (by unfold maxLen; decide))
  have Hy := Lib.hid (fun w => symbol_any ex3 1 w (by unfold maxLen; decide) (by decide))
  rw [ex1_next] at Hn
  rw [ex2_scan] at Hs
  rw [ex3_sym] at Hy
  unfold ex1 at Hn
  unfold ex3 at Hy
  go_enter Tryd.func12, Tryd.ntmps12
  go_wp2_with (go_at_call 10; refine (Hn.out _ htab).mono ?_; rintro e w1 ⟨rfl, hb⟩; unfold NR.v tri tokv)
  have hpos := htab.pos
  have hsz := hb.size
  have htab1 := htab.below hpos hb
  have Hb := Lib.hid ((hb.alloc hsz (.cells #[.int .i64 1, .int .i64 2, .string ⟨#[97, 98, 49, 50]⟩] 24)))
  have htab2 := htab.below hpos Hb.out
  clear hb htab htab1
  refine (Hs.out _ htab2).mono ?_
  rintro e w2 ⟨v, rfl, hown, hb2⟩
  obtain ⟨g, c, rfl, hg, hcell⟩ := ex2_form hown
  have hc0 : ∀ j u, (w1.alloc (.cells #[.int .i64 1, .int .i64 2, .string ⟨#[97, 98, 49, 50]⟩] 24)).cell? ⟨w1.heap.size, j, none⟩ = some u → w2.cell? ⟨w1.heap.size, j, none⟩ = some u := fun j u h => (hb2.cell (p := ⟨w1.heap.size, j, none⟩) (by simp)).trans h
  have c0 := hc0 0 (.int .i64 1) (by simp [go_sem])
  have c1 := hc0 1 (.int .i64 2) (by simp [go_sem])
  have c2 := hc0 2 (.string ⟨#[97, 98, 49, 50]⟩) (by simp [go_sem])
  have htab3 := htab2.below (by simp) hb2
  have Hb2 := Lib.hid (Hb.out.trans (hb2.mono (by simp; omega)))
  clear hc0 hown hb2
  generalize (scanR ex2).2.1 = z
  go_wp2_with (go_at_call 17; refine (Hy.out _ htab3).mono ?_; rintro e w3 ⟨rfl, rfl⟩)
  go_ret
  exact ⟨rfl, Hb2.out⟩
end Go.Proofs.YtmahhaabhaigiaaDoor
