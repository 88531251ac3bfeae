/-
  The walks of numbers and symbols.
-/
import Derived.Test.YtmahhaabhaigiaaDoorW1
import Derived.Deep.QuietTactic
import Derived.BigQuiet
namespace Go.Proofs.YtmahhaabhaigiaaDoor
open Go.RowKit

def ValAt (l : List UInt8) (s : ByteArray) (k n : Nat) : Prop := k ≤ s.size ∧ n ≤ 2147483649 ∧ Tk.valF n (tl s k) = Tk.valF 0 l
theorem ValAt.more {l : List UInt8} {s : ByteArray} {k n m : Nat} (h : ValAt l s k n) (hk : k < s.size) (hm : (m : Int) = if 2147483649 < (n : Int) * 10 + (s[k].toNat - 48) % 256 then 2147483649 else (n : Int) * 10 + (s[k].toNat - 48) % 256) : ValAt l s (k + 1) m := by
  obtain ⟨h1, h2, h3⟩ := h
  rw [tl_cons s k hk, Tk.valF] at h3
  have : m = min (n * 10 + Tk.dig s[k]) 2147483649 := by
    unfold Tk.dig
    split at hm <;> omega
  exact ⟨by omega, by omega, by rw [this]; exact h3⟩
theorem ValAt.done {l : List UInt8} {s : ByteArray} {k n : Nat} (h : ValAt l s k n) (hk : s.size ≤ k) : (n : Int) = ((Tk.valF 0 l : Nat) : Int) := by
  obtain ⟨h1, h2, h3⟩ := h
  rw [tl_nil s k hk] at h3
  simp only [Tk.valF] at h3
  omega

set_option maxHeartbeats 400000 in
theorem value_any (s : ByteArray) (w : World) (hs : s.size ≤ maxLen) :
    Calls Tryd.prog 25 #[.string s] w fun e w' => e = .returned (.int .i64 (Tk.valF 0 (tl s 0) : Nat)) ∧ w = w' := by
  unfold maxLen at hs
  go_enter Tryd.func25, Tryd.ntmps25
  go_wp2
  go_loop [3, 4] (fun v i => ∃ k n : Nat, ValAt (tl s 0) s k n ∧ i = .int .i64 k ∧ v = .int .i64 n) (fun _ i => s.size - (intOf i).toNat)
  case atStart => exact ⟨0, 0, ⟨by omega, by omega, rfl⟩, rfl, rfl⟩
  case round =>
    obtain ⟨k, n, hv, rfl, rfl⟩ := hrel
    have hk := hv.1
    have hn := hv.2.1
    by_cases hlt : k < s.size
    · have hb : s[k].toNat < 256 := UInt8.toNat_lt _
      go_wp2
      go_round
      case rel =>
        obtain ⟨m, hm⟩ : ∃ m : Nat, (m : Int) = if 2147483649 < (n : Int) * 10 + (s[k].toNat - 48) % 256 then 2147483649 else (n : Int) * 10 + (s[k].toNat - 48) % 256 :=
          ⟨(if 2147483649 < (n : Int) * 10 + (s[k].toNat - 48) % 256 then 2147483649 else (n : Int) * 10 + (s[k].toNat - 48) % 256).toNat, by split <;> omega⟩
        exact ⟨k + 1, m, hv.more hlt hm, by go_num, by rw [hm]⟩
      case measure => simp [intOf]; omega
    · go_wp2
      go_ret
      exact ⟨ret_int (hv.done (by omega)), rfl⟩

/-- the table of the symbols, as the program has it. -/
def strv (l : List UInt8) : Value := .string ⟨l.toArray⟩
def tabA : Array Value := (Tk.syms.map strv).toArray
def Tab (w : World) : Prop := ∃ t fr, w.heap[(0 : Nat)]? = some (.cells tabA t fr)
theorem Tab.below {w w' : World} {B : Nat} (h : Tab w) (hB : 0 < B) (hb : Below B w w') : Tab w' := by
  obtain ⟨t, fr, h⟩ := h
  exact ⟨t, fr, (hb.block _ hB).trans h⟩
theorem Tab.pos {w : World} (h : Tab w) : 0 < w.heap.size := by
  obtain ⟨t, fr, h⟩ := h
  rcases Nat.lt_or_ge 0 w.heap.size with hlt | hge
  · exact hlt
  · rw [Array.getElem?_eq_none hge] at h; cases h
theorem tab_row (w : World) (k : Nat) (x : List UInt8) (hx : Tk.syms[k]? = some x) : (Instr.index 41 (.agg tabA) (.int .i64 k)).run Tryd.prog w = .ok (strv x) w := by
  have hk : k < 23 := by
    have : k < Tk.syms.length := (List.getElem?_eq_some_iff.1 hx).1
    simpa [Tk.syms] using this
  have hall : ∀ j : Nat, j < 23 → ∀ w, (Instr.index 41 (.agg tabA) (.int .i64 (j : Int))).run Tryd.prog w = .ok (strv (Tk.syms.getD j [])) w := by
    intro j hj w
    obtain rfl|rfl|rfl|rfl|rfl|rfl|rfl|rfl|rfl|rfl|rfl|rfl|rfl|rfl|rfl|rfl|rfl|rfl|rfl|rfl|rfl|rfl|rfl : j = 0 ∨ j = 1 ∨ j = 2 ∨ j = 3 ∨ j = 4 ∨ j = 5 ∨ j = 6 ∨ j = 7 ∨ j = 8 ∨ j = 9 ∨ j = 10 ∨ j = 11 ∨ j = 12 ∨ j = 13 ∨ j = 14 ∨ j = 15 ∨ j = 16 ∨ j = 17 ∨ j = 18 ∨ j = 19 ∨ j = 20 ∨ j = 21 ∨ j = 22 := by omega
    all_goals kernel_rfl
  have := hall k hk w
  simpa [List.getD, hx] using this

def SymAt (s : ByteArray) (a k : Nat) : Prop := k ≤ 23 ∧ Tk.symIn (Tk.syms.drop k) (tl s a) = Tk.symF (tl s a)
theorem ext_pre (s : ByteArray) (x : List UInt8) (a : Nat) (h : a + x.length ≤ s.size) : ((s.extract a (a + x.length)).toList == x) = Tk.isPre x (tl s a) := by
  rw [Bool.eq_iff_iff, Tk.isPre_take, beq_iff_eq, ByteArray.toList_eq]
  have h1 : (s.extract a (a + x.length)).data.toList = (tl s a).take x.length := by
    unfold tl
    simp [ByteArray.data_extract, List.take_drop]
  rw [h1, tl_len]
  constructor
  · exact fun e => ⟨by omega, e⟩
  · exact fun e => e.2
theorem sym_drop {k : Nat} {x : List UInt8} (hx : Tk.syms[k]? = some x) : Tk.syms.drop k = x :: Tk.syms.drop (k + 1) := by
  obtain ⟨h, rfl⟩ := List.getElem?_eq_some_iff.1 hx
  exact List.drop_eq_getElem_cons h
theorem SymAt.hit {s : ByteArray} {a k : Nat} {x : List UInt8} (h : SymAt s a k) (hx : Tk.syms[k]? = some x) (hp : Tk.isPre x (tl s a) = true) : x = Tk.symF (tl s a) := by
  rw [← h.2, sym_drop hx, Tk.symIn_cons, if_pos hp]
theorem SymAt.miss {s : ByteArray} {a k : Nat} {x : List UInt8} (h : SymAt s a k) (hx : Tk.syms[k]? = some x) (hp : ¬ Tk.isPre x (tl s a) = true) (hk : k < 23) : SymAt s a (k + 1) := by
  have h2 := h.2
  rw [sym_drop hx, Tk.symIn_cons, if_neg hp] at h2
  exact ⟨by omega, h2⟩
theorem SymAt.end_ {s : ByteArray} {a k : Nat} (h : SymAt s a k) (hk : ¬ k < 23) : [] = Tk.symF (tl s a) := by
  rw [← h.2, List.drop_of_length_le (by simp [Tk.syms]; omega)]; rfl
theorem ret_str {l m : List UInt8} (h : l = m) : Ending.returned (.string ⟨l.toArray⟩) = .returned (strv m) := by rw [h]; rfl

set_option maxHeartbeats 400000 in
theorem symbol_any (s : ByteArray) (a : Nat) (w : World) (hs : s.size ≤ maxLen) (ha : a ≤ s.size) (htab : Tab w) :
    Calls Tryd.prog 17 #[.string s, .int .i64 a] w fun e w' => e = .returned (strv (Tk.symF (tl s a))) ∧ w = w' := by
  unfold maxLen at hs
  obtain ⟨tt, fr, hg1⟩ := htab
  have Hg := Lib.hid hg1
  clear hg1
  go_enter Tryd.func17, Tryd.ntmps17
  go_wp2_with (refine wpList_load_row rfl 41 _ rfl 0 rfl tt tabA fr _ Hg.out Tryd.underlying41 rfl (by kernel_rfl) ?_)
  go_loop [6, 16] (fun _ i => ∃ k : Nat, SymAt s a k ∧ i = .int .i64 k) (fun _ i => 23 - (intOf i).toNat)
  case atStart => exact ⟨0, ⟨by omega, rfl⟩, rfl⟩
  case round =>
    obtain ⟨k, hk, rfl⟩ := hrel
    have hkle := hk.1
    by_cases hlt : k < 23
    · obtain ⟨x, hx⟩ : ∃ x, Tk.syms[k]? = some x := ⟨_, List.getElem?_eq_getElem (by simpa [Tk.syms] using hlt)⟩
      have hidx := fun w => tab_row w k x hx
      obtain ⟨X, hX⟩ : ∃ X : ByteArray, X = ⟨x.toArray⟩ := ⟨_, rfl⟩
      unfold strv at hidx
      rw [← hX] at hidx
      go_wp2
      · have hle : a + x.length ≤ s.size := by omega
        go_ret
        refine ⟨ret_str (hk.hit hx ?_), rfl⟩
        rw [← ext_pre s x a hle]; assumption
      · have hle : a + x.length ≤ s.size := by omega
        have hm : ((s.extract a (a + x.length)).toList == x) = false := by assumption
        have hk2 := hk.miss hx (by rw [← ext_pre s x a hle, hm]; simp) hlt
        go_round
        case rel => exact ⟨k + 1, hk2, by go_num⟩
        case measure => simp [intOf]; omega
      · have hk2 := hk.miss hx (fun h => by have := Tk.isPre_len h; rw [tl_len] at this; omega) hlt
        go_round
        case rel => exact ⟨k + 1, hk2, by go_num⟩
        case measure => simp [intOf]; omega
    · go_wp2
      go_ret
      exact ⟨ret_str (hk.end_ hlt), rfl⟩

set_option maxHeartbeats 400000 in
theorem symbol_out (s : ByteArray) (a : Int) (w : World) (_hs : s.size ≤ maxLen) (ha : a < 0 ∨ (s.size : Int) < a) :
    Calls Tryd.prog 17 #[.string s, .int .i64 a] w fun e w' => e = .returned (strv []) ∧ w = w' := by
  rcases ha with ha | ha
  · go_enter Tryd.func17, Tryd.ntmps17
    go_wp2
    go_ret
    exact ⟨rfl, rfl⟩
  · by_cases h0 : a < 0
    · go_enter Tryd.func17, Tryd.ntmps17
      go_wp2
      go_ret
      exact ⟨rfl, rfl⟩
    · go_enter Tryd.func17, Tryd.ntmps17
      go_wp2
      go_ret
      exact ⟨rfl, rfl⟩

def tabR : Array Value := (Tk.symsR.map strv).toArray
set_option maxHeartbeats 400000 in
theorem symbols_any (w : World) :
    Calls Tryd.prog 26 #[] w fun e w' => e = .returned (.slice (some ⟨w.heap.size, 0, none⟩) 23 23) ∧ w' = w.alloc (.cells tabR 9) := by
  go_enter Tryd.func26, Tryd.ntmps26
  go_wp2
  go_ret
  exact ⟨rfl, rfl⟩
theorem tabR_at {k : Nat} {x : List UInt8} (hx : Tk.symsR[k]? = some x) : tabR[k]? = some (strv x) := by
  simp [tabR, hx]
def BestAt (l : List UInt8) (k : Nat) (b : List UInt8) : Prop := k ≤ 23 ∧ Tk.bestIn l (Tk.symsR.drop k) b = Tk.symF l
theorem symR_drop {k : Nat} {x : List UInt8} (hx : Tk.symsR[k]? = some x) : Tk.symsR.drop k = x :: Tk.symsR.drop (k + 1) := by
  obtain ⟨h, rfl⟩ := List.getElem?_eq_some_iff.1 hx
  exact List.drop_eq_getElem_cons h
theorem symR_len {k : Nat} {x : List UInt8} (hx : Tk.symsR[k]? = some x) : x.length ≤ 3 := by
  have h : ∀ x ∈ Tk.symsR, x.length ≤ 3 := by decide
  exact h x (List.mem_of_getElem? hx)
theorem BestAt.hit {l : List UInt8} {k : Nat} {b x : List UInt8} (h : BestAt l k b) (hx : Tk.symsR[k]? = some x) (hp : Tk.isPre x l = true) (hb : b.length < x.length) (hk : k < 23) : BestAt l (k + 1) x := by
  have h2 := h.2
  rw [symR_drop hx, Tk.bestIn, if_pos ⟨hp, hb⟩] at h2
  exact ⟨by omega, h2⟩
theorem BestAt.miss {l : List UInt8} {k : Nat} {b x : List UInt8} (h : BestAt l k b) (hx : Tk.symsR[k]? = some x) (hp : ¬ (Tk.isPre x l = true ∧ b.length < x.length)) (hk : k < 23) : BestAt l (k + 1) b := by
  have h2 := h.2
  rw [symR_drop hx, Tk.bestIn, if_neg hp] at h2
  exact ⟨by omega, h2⟩
theorem BestAt.end_ {l : List UInt8} {k : Nat} {b : List UInt8} (h : BestAt l k b) (hk : ¬ k < 23) : b = Tk.symF l := by
  have h2 := h.2
  rw [List.drop_of_length_le (by simp [Tk.symsR]; omega)] at h2
  exact h2
set_option maxHeartbeats 1000000 in
theorem rsymbol_any (s : ByteArray) (a : Nat) (w : World) (hs : s.size ≤ maxLen) (ha : a ≤ s.size) :
    Calls Tryd.prog 18 #[.string s, .int .i64 a] w fun e w' => e = .returned (strv (Tk.symF (tl s a))) ∧ Below w.heap.size w w' := by
  unfold maxLen at hs
  go_enter Tryd.func18, Tryd.ntmps18
  go_wp2_with (go_at_call 26; refine (symbols_any _).mono ?_; rintro e w' ⟨rfl, rfl⟩)
  go_loopw [5, 7] (fun v i wr => ∃ (k : Nat) (b : List UInt8), BestAt (tl s a) k b ∧ i = .int .i64 k ∧ v = .string ⟨b.toArray⟩ ∧ b.length ≤ 3 ∧ wr.heap[w.heap.size]? = some (.cells tabR 9 (0, 0)) ∧ Below w.heap.size w wr) (fun _ i _ => 23 - (intOf i).toNat)
  case atStart => exact ⟨0, [], ⟨by omega, Tk.best_sym _⟩, rfl, rfl, by simp, heap_alloc_new _ _, (Below.refl _ _).alloc (Nat.le_refl _) _⟩
  case round =>
    obtain ⟨k, b, hk, rfl, rfl, hbl, hblk, hbel⟩ := hrel
    have hkle := hk.1
    have Hblk := Lib.hid hblk
    clear hblk
    by_cases hlt : k < 23
    · obtain ⟨x, hx⟩ : ∃ x, Tk.symsR[k]? = some x := ⟨_, List.getElem?_eq_getElem (by simpa [Tk.symsR] using hlt)⟩
      have hxl := symR_len hx
      have hcell : wr.cell? ⟨w.heap.size, k, none⟩ = some (.string ⟨x.toArray⟩) := (cell_of_row wr _ _ _ _ _ Hblk.out).trans (tabR_at hx)
      have Hx := Lib.hid hx
      clear hx
      by_cases hle : a + x.length ≤ s.size
      · cases he : Tk.isPre x (tl s a) with
        | true =>
          have he1 : ((s.extract a (a + x.length)).toList == x) = true := by rw [ext_pre s x a hle, he]
          by_cases hbx : b.length < x.length
          · have hk2 := hk.hit Hx.out he hbx hlt
            clear he
            go_wp2
            have hd : (x.length : Int) ≤ (s.size : Int) - a := by omega
            have e1 : IntKind.i64.wrap ((s.size : Int) - a) = (s.size : Int) - a := IntWalk.i64_in _ (by omega)
            have e2 : IntKind.i64.wrap ((a : Int) + x.length) = (a : Int) + x.length := IntWalk.i64_in _ (by omega)
            have e3 : ((a : Int) + x.length).toNat = a + x.length := by omega
            go_quiet (fail)
            clear e1 e2 e3
            go_wp2
            go_roundw
            case rel => exact ⟨k + 1, x, hk2, by go_num, rfl, hxl, Hblk.out, ⟨hbel.os, hbel.tape, hbel.output, hbel.size, hbel.block⟩⟩
            case measure => simp [intOf]; omega
          · have hk2 := hk.miss Hx.out (fun h => hbx h.2) hlt
            clear he
            go_wp2
            have hd : (x.length : Int) ≤ (s.size : Int) - a := by omega
            have e1 : IntKind.i64.wrap ((s.size : Int) - a) = (s.size : Int) - a := IntWalk.i64_in _ (by omega)
            have e2 : IntKind.i64.wrap ((a : Int) + x.length) = (a : Int) + x.length := IntWalk.i64_in _ (by omega)
            have e3 : ((a : Int) + x.length).toNat = a + x.length := by omega
            go_quiet (fail)
            clear e1 e2 e3
            go_wp2
            go_roundw
            case rel => exact ⟨k + 1, b, hk2, by go_num, rfl, hbl, Hblk.out, ⟨hbel.os, hbel.tape, hbel.output, hbel.size, hbel.block⟩⟩
            case measure => simp [intOf]; omega
        | false =>
          have he1 : ((s.extract a (a + x.length)).toList == x) = false := by rw [ext_pre s x a hle, he]
          have hk2 := hk.miss Hx.out (fun h => by rw [he] at h; exact absurd h.1 (by simp)) hlt
          clear he
          go_wp2
          have hd : (x.length : Int) ≤ (s.size : Int) - a := by omega
          have e1 : IntKind.i64.wrap ((s.size : Int) - a) = (s.size : Int) - a := IntWalk.i64_in _ (by omega)
          have e2 : IntKind.i64.wrap ((a : Int) + x.length) = (a : Int) + x.length := IntWalk.i64_in _ (by omega)
          have e3 : ((a : Int) + x.length).toNat = a + x.length := by omega
          go_quiet (fail)
          clear e1 e2 e3
          go_wp2
          go_roundw
          case rel => exact ⟨k + 1, b, hk2, by go_num, rfl, hbl, Hblk.out, ⟨hbel.os, hbel.tape, hbel.output, hbel.size, hbel.block⟩⟩
          case measure => simp [intOf]; omega
      · have hk2 := hk.miss Hx.out (fun h => by have := Tk.isPre_len h.1; rw [tl_len] at this; omega) hlt
        go_wp2
        have hd : decide ((x.length : Int) ≤ (s.size : Int) - a) = false := by simp; omega
        have e1 : IntKind.i64.wrap ((s.size : Int) - a) = (s.size : Int) - a := IntWalk.i64_in _ (by omega)
        go_quiet (fail)
        clear e1
        go_wp2
        go_roundw
        case rel => exact ⟨k + 1, b, hk2, by go_num, rfl, hbl, Hblk.out, ⟨hbel.os, hbel.tape, hbel.output, hbel.size, hbel.block⟩⟩
        case measure => simp [intOf]; omega
    · go_wp2
      go_ret
      exact ⟨ret_str (hk.end_ hlt), hbel⟩
end Go.Proofs.YtmahhaabhaigiaaDoor
