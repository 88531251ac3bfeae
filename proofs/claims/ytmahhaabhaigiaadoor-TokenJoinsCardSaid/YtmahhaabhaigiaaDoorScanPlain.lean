/-
  Scanning as a function: tokens as records, and what a scan of a text gives.
-/
import Derived.Test.YtmahhaabhaigiaaDoorW5
namespace Go.Proofs.YtmahhaabhaigiaaDoor
open Go.RowKit

structure NR where
  kd : Int
  at_ : Int
  tx : ByteArray
  nx : Int
  er : Int
def NR.v (r : NR) : Value := tri r.kd r.at_ r.tx r.nx r.er
def NR.cells (r : NR) : List Value := [.int .i64 r.kd, .int .i64 r.at_, .string r.tx]
def resR (s : ByteArray) (p : Nat) (t : Tk.Tr) : NR :=
  if t.err = 0 then ⟨t.kind, p, s.extract p (p + t.len), ((p + t.len : Nat) : Int), 0⟩ else ⟨0, 0, ⟨#[]⟩, p, t.err⟩
def nextR (s : ByteArray) (a : Int) : NR :=
  if a < 0 ∨ (s.size : Int) < a then ⟨0, 0, ⟨#[]⟩, 0, 2⟩
  else if 16384 < s.size then ⟨0, 0, ⟨#[]⟩, 0, 6⟩
  else resR s (a.toNat + Tk.skipF false (tl s a.toNat)) (Tk.tokF (tl s (a.toNat + Tk.skipF false (tl s a.toNat))))
theorem resv_eq (s : ByteArray) (p : Nat) (t : Tk.Tr) : resv s p t = (resR s p t).v := by
  unfold resv resR; split <;> rfl
theorem nextv_eq (s : ByteArray) (a : Int) : nextv s a = (nextR s a).v := by
  unfold nextv nextR
  split
  · rfl
  · split
    · rfl
    · exact resv_eq _ _ _

def scanF (s : ByteArray) : Nat → Int → List NR → List NR × Int × Int
  | 0, _, acc => (acc, 0, 0)
  | f + 1, a, acc =>
    if (nextR s a).er ≠ 0 then ([], (nextR s a).nx, (nextR s a).er)
    else if (nextR s a).kd = 0 then (acc ++ [nextR s a], 0, 0)
    else scanF s f (nextR s a).nx (acc ++ [nextR s a])
def scanR (s : ByteArray) : List NR × Int × Int := scanF s (s.size + 1) 0 []

theorem tokF_pos (l : List UInt8) (h0 : (Tk.tokF l).err = 0) (hk : (Tk.tokF l).kind ≠ 0) : 0 < (Tk.tokF l).len := by
  unfold Tk.tokF at h0 hk ⊢
  split at h0
  · simp at hk
  · rename_i c r
    dsimp only at h0 hk ⊢
    by_cases h1 : Tk.cls c.toNat = 2 ∨ Tk.cls c.toNat = 3
    · rw [if_pos h1] at h0 hk ⊢
      by_cases h2 : 40 < Tk.runF 2 (c :: r)
      · rw [if_pos h2] at h0; simp at h0
      · rw [if_neg h2]
        simp only [Tk.runF]
        rw [if_pos (by omega)]; omega
    · rw [if_neg h1] at h0 hk ⊢
      by_cases h4 : Tk.cls c.toNat = 4
      · rw [if_pos h4] at h0 hk ⊢
        by_cases h2 : 2147483648 < Tk.valF 0 ((c :: r).take (Tk.runF 4 (c :: r)))
        · rw [if_pos h2] at h0; simp at h0
        · rw [if_neg h2]
          simp only [Tk.runF]
          rw [if_pos (by omega)]; omega
      · rw [if_neg h4] at h0 hk ⊢
        by_cases hz : Tk.symF (c :: r) = []
        · rw [if_pos hz] at h0; simp at h0
        · rw [if_neg hz]
          exact List.length_pos_iff.2 hz
theorem nextR_ok {s : ByteArray} {a : Int} (h : (nextR s a).er = 0) : 0 ≤ a ∧ a ≤ s.size ∧ s.size ≤ 16384 ∧ (∃ p : Nat, p = a.toNat + Tk.skipF false (tl s a.toNat) ∧ p ≤ s.size ∧ (Tk.tokF (tl s p)).err = 0 ∧
    nextR s a = ⟨(Tk.tokF (tl s p)).kind, p, s.extract p (p + (Tk.tokF (tl s p)).len), ((p + (Tk.tokF (tl s p)).len : Nat) : Int), 0⟩) := by
  unfold nextR at h ⊢
  by_cases h1 : a < 0 ∨ (s.size : Int) < a
  · rw [if_pos h1] at h; simp at h
  · rw [if_neg h1] at h ⊢
    by_cases h2 : 16384 < s.size
    · rw [if_pos h2] at h; simp at h
    · rw [if_neg h2] at h ⊢
      refine ⟨by omega, by omega, by omega, _, rfl, ?_, ?_⟩
      · have := Tk.skipF_le (tl s a.toNat) false
        rw [tl_len] at this; omega
      · unfold resR at h ⊢
        by_cases h3 : (Tk.tokF (tl s (a.toNat + Tk.skipF false (tl s a.toNat)))).err = 0
        · rw [if_pos h3]; exact ⟨h3, rfl⟩
        · rw [if_neg h3] at h; exact absurd h h3
theorem nextR_next {s : ByteArray} {a : Int} (h : (nextR s a).er = 0) : a ≤ (nextR s a).nx ∧ (nextR s a).nx ≤ s.size ∧ ((nextR s a).kd ≠ 0 → a < (nextR s a).nx) := by
  obtain ⟨h0, h1, h2, p, hp, hps, he, hr⟩ := nextR_ok h
  have hl := Tk.tokF_len (tl s p)
  rw [tl_len] at hl
  rw [hr]
  refine ⟨by dsimp only; omega, by dsimp only; omega, fun hk => ?_⟩
  have := tokF_pos _ he hk
  dsimp only; omega

theorem scanF_err {s : ByteArray} {f : Nat} {a : Int} {acc : List NR} (h : (nextR s a).er ≠ 0) : scanF s (f + 1) a acc = ([], (nextR s a).nx, (nextR s a).er) := by
  rw [scanF, if_pos h]
theorem scanF_end {s : ByteArray} {f : Nat} {a : Int} {acc : List NR} (h : (nextR s a).er = 0) (hk : (nextR s a).kd = 0) : scanF s (f + 1) a acc = (acc ++ [nextR s a], 0, 0) := by
  rw [scanF, if_neg (by simp [h]), if_pos hk]
theorem scanF_more {s : ByteArray} {f : Nat} {a : Int} {acc : List NR} (h : (nextR s a).er = 0) (hk : (nextR s a).kd ≠ 0) : scanF s (f + 1) a acc = scanF s f (nextR s a).nx (acc ++ [nextR s a]) := by
  rw [scanF, if_neg (by simp [h]), if_neg hk]

/-- the head of a round of a scan: so many tokens so far. -/
def ScanAt (s : ByteArray) (k : Nat) (a : Nat) (acc : List NR) : Prop := acc.length = k ∧ k ≤ a ∧ a ≤ s.size ∧ scanF s (s.size + 1 - k) a acc = scanR s
theorem ScanAt.start (s : ByteArray) : ScanAt s 0 0 [] := ⟨rfl, Nat.le_refl _, Nat.zero_le _, rfl⟩
theorem ScanAt.fuel {s : ByteArray} {k a : Nat} {acc : List NR} (h : ScanAt s k a acc) : ∃ f, s.size + 1 - k = f + 1 := ⟨s.size - k, by have := h.2.1; have := h.2.2.1; omega⟩
theorem ScanAt.err {s : ByteArray} {k a : Nat} {acc : List NR} (h : ScanAt s k a acc) (he : (nextR s a).er ≠ 0) : scanR s = ([], (nextR s a).nx, (nextR s a).er) := by
  obtain ⟨f, hf⟩ := h.fuel
  rw [← h.2.2.2, hf, scanF_err he]
theorem ScanAt.end_ {s : ByteArray} {k a : Nat} {acc : List NR} (h : ScanAt s k a acc) (he : (nextR s a).er = 0) (hk : (nextR s a).kd = 0) : scanR s = (acc ++ [nextR s a], 0, 0) := by
  obtain ⟨f, hf⟩ := h.fuel
  rw [← h.2.2.2, hf, scanF_end he hk]
theorem ScanAt.more {s : ByteArray} {k a : Nat} {acc : List NR} (h : ScanAt s k a acc) (he : (nextR s a).er = 0) (hk : (nextR s a).kd ≠ 0) : ∃ b : Nat, (nextR s a).nx = b ∧ a < b ∧ ScanAt s (k + 1) b (acc ++ [nextR s a]) := by
  obtain ⟨f, hf⟩ := h.fuel
  obtain ⟨h1, h2, h3⟩ := nextR_next he
  have h4 := h3 hk
  refine ⟨(nextR s a).nx.toNat, by omega, by omega, by simp [h.1], by have := h.2.1; omega, by omega, ?_⟩
  have h5 := h.2.2.2
  rw [hf, scanF_more he hk] at h5
  rw [show s.size + 1 - (k + 1) = f by omega, show (((nextR s a).nx.toNat : Nat) : Int) = (nextR s a).nx by omega]
  exact h5
end Go.Proofs.YtmahhaabhaigiaaDoor
