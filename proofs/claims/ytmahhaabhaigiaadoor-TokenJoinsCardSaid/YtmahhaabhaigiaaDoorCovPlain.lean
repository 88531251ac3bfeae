/-
  What a scan without an error gives: a chain of tokens, each at the end of the one before it.
-/
import Derived.Test.YtmahhaabhaigiaaDoorW10
namespace Go.Proofs.YtmahhaabhaigiaaDoor
open Go.RowKit

/-- the tokens from an offset on. -/
def Chain (s : ByteArray) : Int → List NR → Prop
  | _, [] => False
  | a, [r] => r = nextR s a ∧ r.er = 0 ∧ r.kd = 0
  | a, r :: l => r = nextR s a ∧ r.er = 0 ∧ r.kd ≠ 0 ∧ Chain s r.nx l
theorem chain_cons {s : ByteArray} {a : Int} {r : NR} {l : List NR} (h : Chain s a (r :: l)) : r = nextR s a ∧ r.er = 0 ∧ ((r.kd = 0 ∧ l = []) ∨ (r.kd ≠ 0 ∧ Chain s r.nx l)) := by
  cases l with
  | nil => exact ⟨h.1, h.2.1, .inl ⟨h.2.2, rfl⟩⟩
  | cons x l => exact ⟨h.1, h.2.1, .inr ⟨h.2.2.1, h.2.2.2⟩⟩
theorem scanF_chain (s : ByteArray) : ∀ (f a : Nat) (acc : List NR), a ≤ s.size → s.size - a < f →
    (∃ l, scanF s f a acc = (acc ++ l, 0, 0) ∧ Chain s a l) ∨ (∃ nx er, scanF s f a acc = ([], nx, er) ∧ er ≠ 0 ∧ 0 ≤ nx ∧ nx ≤ s.size)
  | 0, a, acc, _, h => by omega
  | f + 1, a, acc, ha, hf => by
    by_cases he : (nextR s a).er = 0
    · obtain ⟨h1, h2, h3⟩ := nextR_next he
      by_cases hk : (nextR s a).kd = 0
      · exact .inl ⟨[nextR s a], scanF_end he hk, rfl, he, hk⟩
      · have h4 := h3 hk
        rw [scanF_more he hk]
        have hn : (((nextR s a).nx.toNat : Nat) : Int) = (nextR s a).nx := by omega
        rcases scanF_chain s f (nextR s a).nx.toNat (acc ++ [nextR s a]) (by omega) (by omega) with ⟨l, hl, hc⟩ | h
        · rw [hn] at hl hc
          refine .inl ⟨nextR s a :: l, by rw [hl]; simp, ?_⟩
          cases l with
          | nil => exact hc.elim
          | cons x l => exact ⟨rfl, he, hk, hc⟩
        · rw [hn] at h
          exact .inr h
    · rw [scanF_err he]
      refine .inr ⟨_, _, rfl, he, ?_⟩
      unfold nextR at he ⊢
      rw [if_neg (by omega)] at he ⊢
      by_cases h2 : 16384 < s.size
      · rw [if_pos h2]; dsimp only; omega
      · rw [if_neg h2] at he ⊢
        have hq := Tk.skipF_le (tl s (a : Int).toNat) false
        rw [tl_len] at hq
        generalize Tk.skipF false (tl s (a : Int).toNat) = q at *
        unfold resR at he ⊢
        split
        · rename_i h; rw [if_pos h] at he; simp at he
        · dsimp only; omega
theorem scanR_cases (s : ByteArray) : (∃ l, scanR s = (l, 0, 0) ∧ Chain s 0 l) ∨ (∃ nx er, scanR s = ([], nx, er) ∧ er ≠ 0 ∧ 0 ≤ nx ∧ nx ≤ s.size) := by
  have := scanF_chain s (s.size + 1) 0 [] (Nat.zero_le _) (by omega)
  simpa [scanR] using this

theorem skip_take : ∀ (l : List UInt8) (b : Bool), Tk.skipF b (l.take (Tk.skipF b l)) = Tk.skipF b l
  | [], b => by cases b <;> simp [Tk.skipF]
  | c :: r, false => by
    have h0 := skip_take r false
    have h1 := skip_take r true
    by_cases hc : Tk.cls c.toNat = 1
    · simp [Tk.skipF, hc, h0]
    · by_cases h35 : c.toNat = 35
      · have e : Tk.skipF false (c :: r) = Tk.skipF true r + 1 := by rw [Tk.skipF, if_neg hc, if_pos h35]
        rw [e, List.take_succ_cons, Tk.skipF, if_neg hc, if_pos h35, h1]
      · simp [Tk.skipF, hc, h35]
  | c :: r, true => by
    have h0 := skip_take r false
    have h1 := skip_take r true
    by_cases hc : c.toNat = 10
    · simp [Tk.skipF, hc, h0]
    · simp [Tk.skipF, hc, h1]
theorem tokF_zero (l : List UInt8) (he : (Tk.tokF l).err = 0) (hk : (Tk.tokF l).kind = 0) : l = [] := by
  cases l with
  | nil => rfl
  | cons c r =>
    exfalso
    unfold Tk.tokF at he hk
    dsimp only at he hk
    by_cases h1 : Tk.cls c.toNat = 2 ∨ Tk.cls c.toNat = 3
    · rw [if_pos h1] at he hk
      by_cases h2 : 40 < Tk.runF 2 (c :: r)
      · rw [if_pos h2] at he; simp at he
      · rw [if_neg h2] at hk; dsimp only at hk; split at hk <;> omega
    · rw [if_neg h1] at he hk
      by_cases h4 : Tk.cls c.toNat = 4
      · rw [if_pos h4] at he hk
        by_cases h2 : 2147483648 < Tk.valF 0 ((c :: r).take (Tk.runF 4 (c :: r)))
        · rw [if_pos h2] at he; simp at he
        · rw [if_neg h2] at hk; simp at hk
      · rw [if_neg h4] at he hk
        by_cases hz : Tk.symF (c :: r) = []
        · rw [if_pos hz] at he; simp at he
        · rw [if_neg hz] at hk; simp at hk

/-- all that the statement asks of one token. -/
theorem token_facts {s : ByteArray} {a : Nat} (ha : (nextR s a).er = 0) : ∃ (kd : Int) (p : Nat) (tx : ByteArray), nextR s a = ⟨kd, p, tx, ((p + tx.size : Nat) : Int), 0⟩ ∧ a ≤ p ∧ p + tx.size ≤ s.size ∧ s.size ≤ 16384 ∧
    gapB s a p = true ∧ ((s.extract p (p + tx.size)).toList == tx.toList) = true ∧ (kd = 0 ↔ tx.size = 0) ∧ (kd = 0 → p = s.size) := by
  obtain ⟨h0, h1, h2, p, hp, hps, hte, hr⟩ := nextR_ok ha
  have hl := Tk.tokF_len (tl s p)
  rw [tl_len] at hl
  have hsz : (s.extract p (p + (Tk.tokF (tl s p)).len)).size = (Tk.tokF (tl s p)).len := by
    rw [ByteArray.size_extract]; omega
  refine ⟨(Tk.tokF (tl s p)).kind, p, s.extract p (p + (Tk.tokF (tl s p)).len), ?_, by simp at hp; omega, by rw [hsz]; omega, h2, ?_, ?_, ?_, ?_⟩
  · rw [hr, hsz]
  · simp only [Int.toNat_natCast] at hp
    unfold gapB
    simp only [Int.toNat_natCast, Bool.and_eq_true, decide_eq_true_eq, beq_iff_eq]
    refine ⟨by omega, ?_⟩
    have ht : tl (s.extract 0 p) a = (tl s a).take (Tk.skipF false (tl s a)) := by
      unfold tl
      simp [ByteArray.data_extract, List.take_drop]
      unfold tl at hp
      rw [hp]
    rw [ht, skip_take]
    omega
  · rw [hsz]; simp
  · rw [hsz]
    constructor
    · intro hk
      have := tokF_zero _ hte hk
      rw [this]; rfl
    · intro hz
      apply Classical.byContradiction
      intro hk
      have := tokF_pos _ hte hk
      omega
  · intro hk
    have h := tokF_zero _ hte hk
    have := congrArg List.length h
    rw [tl_len] at this
    simp at this
    omega
theorem chain_last {s : ByteArray} : ∀ {a : Int} {l : List NR}, Chain s a l → ∃ r, l[l.length - 1]? = some r ∧ r.kd = 0 ∧ 0 < l.length
  | a, [], h => h.elim
  | a, [r], h => ⟨r, rfl, h.2.2, by simp⟩
  | a, r :: x :: l, h => by
    obtain ⟨q, hq, hk, _⟩ := chain_last h.2.2.2
    refine ⟨q, ?_, hk, by simp⟩
    simpa using hq
/-- the head of a round over the tokens. -/
def CovAt (s : ByteArray) (l : List NR) (k a : Nat) : Prop := k ≤ l.length ∧ a ≤ s.size ∧ ((k < l.length ∧ Chain s a (l.drop k)) ∨ (k = l.length ∧ a = s.size))
theorem CovAt.start {s : ByteArray} {l : List NR} (h : Chain s 0 l) : CovAt s l 0 0 := by
  obtain ⟨r, _, _, hl⟩ := chain_last h
  exact ⟨Nat.zero_le _, Nat.zero_le _, .inl ⟨hl, by simpa using h⟩⟩
theorem CovAt.step {s : ByteArray} {l : List NR} {k a : Nat} (h : CovAt s l k a) (hk : k < l.length) : ∃ (kd : Int) (p : Nat) (tx : ByteArray), nextR s a = ⟨kd, p, tx, ((p + tx.size : Nat) : Int), 0⟩ ∧ l[k]? = some ⟨kd, p, tx, ((p + tx.size : Nat) : Int), 0⟩ ∧
    a ≤ p ∧ p + tx.size ≤ s.size ∧ s.size ≤ 16384 ∧ gapB s a p = true ∧ ((s.extract p (p + tx.size)).toList == tx.toList) = true ∧ (kd = 0 ↔ tx.size = 0) ∧ CovAt s l (k + 1) (p + tx.size) := by
  obtain ⟨h1, h2, ⟨_, hc⟩ | ⟨h3, _⟩⟩ := h
  · rw [List.drop_eq_getElem_cons hk] at hc
    obtain ⟨hr, he, hrest⟩ := chain_cons hc
    rw [hr] at he
    obtain ⟨kd, p, tx, hn, g1, g2, g3, g4, g5, g6, g7⟩ := token_facts he
    rw [hn] at hr
    refine ⟨kd, p, tx, hn, by rw [List.getElem?_eq_getElem hk, hr], g1, g2, g3, g4, g5, g6, by omega, by omega, ?_⟩
    rw [hr] at hrest
    rcases hrest with ⟨hz, hnil⟩ | ⟨hz, hch⟩
    · have hz : kd = 0 := hz
      have := g7 hz
      have := g6.1 hz
      have hlen := congrArg List.length hnil
      simp at hlen
      exact .inr ⟨by omega, by omega⟩
    · have hlen : k + 1 < l.length := by
        obtain ⟨_, _, _, hp⟩ := chain_last hch
        simp at hp; omega
      exact .inl ⟨hlen, hch⟩
  · omega
theorem CovAt.end_ {s : ByteArray} {l : List NR} {k a : Nat} (h : CovAt s l k a) (hk : ¬ k < l.length) : a = s.size := by
  obtain ⟨h1, h2, ⟨h3, _⟩ | ⟨_, h3⟩⟩ := h
  · omega
  · exact h3
end Go.Proofs.YtmahhaabhaigiaaDoor
