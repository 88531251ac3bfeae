/-
  The walk of the statement TokenJoins.
-/
import Derived.Test.YtmahhaabhaigiaaDoorJoinPlain
namespace Go.Proofs.YtmahhaabhaigiaaDoor
open Go.RowKit

theorem app_toList (a b : ByteArray) : (a ++ b).data.toList = a.data.toList ++ b.data.toList := by simp [ByteArray.data_append]
/-- no line ends in a note. -/
def NoLine (n : ByteArray) (k : Nat) : Prop := ∀ c ∈ n.data.toList.take k, c.toNat ≠ 10
theorem NoLine.zero (n : ByteArray) : NoLine n 0 := by intro c hc; simp at hc
theorem NoLine.step {n : ByteArray} {k : Nat} (h : NoLine n k) (hk : k < n.size) (hc : n[k].toNat ≠ 10) : NoLine n (k + 1) := by
  intro c h2
  rw [List.take_succ_eq_append_getElem (by simpa using hk)] at h2
  rcases List.mem_append.1 h2 with h3 | h3
  · exact h c h3
  · simp only [List.mem_singleton] at h3
    subst h3
    exact hc
theorem NoLine.all {n : ByteArray} {k : Nat} (h : NoLine n k) (hk : n.size ≤ k) : ∀ c ∈ n.data.toList, c.toNat ≠ 10 := by
  unfold NoLine at h
  rw [List.take_of_length_le (by simpa using hk)] at h
  exact h
def sepB (n : ByteArray) : List UInt8 := [9, 35] ++ n.data.toList ++ [10]
def preB (n : ByteArray) : List UInt8 := [35] ++ n.data.toList ++ [10]
/-- the two joined texts behind so many tokens. -/
def JoinAt (n : ByteArray) (l : List NR) (k : Nat) (X Y : ByteArray) : Prop :=
  k ≤ l.length ∧ X.data.toList = joinL [32] ((l.take k).map NR.kt) ∧ Y.data.toList = preB n ++ joinL (sepB n) ((l.take (min k 300)).map NR.kt)
theorem take_succ_kt (p : List UInt8) (l : List NR) (k : Nat) (r : NR) (h : l[k]? = some r) : joinL p ((l.take (k + 1)).map NR.kt) = joinL p ((l.take k).map NR.kt) ++ (r.tx.data.toList ++ p) := by
  obtain ⟨hk, rfl⟩ := List.getElem?_eq_some_iff.1 h
  rw [List.take_succ_eq_append_getElem hk, List.map_append, joinL_append]
  simp [joinL, NR.kt, ByteArray.toList_eq]
theorem JoinAt.start (n : ByteArray) (l : List NR) : JoinAt n l 0 ⟨#[]⟩ (⟨#[35]⟩ ++ n ++ ⟨#[10]⟩) := by
  refine ⟨Nat.zero_le _, by simp [joinL], ?_⟩
  simp only [app_toList]
  simp [joinL, preB]
theorem JoinAt.more {n : ByteArray} {l : List NR} {k : Nat} {X Y : ByteArray} {r : NR} (h : JoinAt n l k X Y) (hr : l[k]? = some r) (hk : k < 300) :
    JoinAt n l (k + 1) (X ++ r.tx ++ ⟨#[32]⟩) (Y ++ r.tx ++ ⟨#[9, 35]⟩ ++ n ++ ⟨#[10]⟩) := by
  have hlt : k < l.length := (List.getElem?_eq_some_iff.1 hr).1
  refine ⟨hlt, ?_, ?_⟩
  · rw [take_succ_kt _ l k r hr, ← h.2.1]
    simp only [app_toList]
    simp
  · rw [show min (k + 1) 300 = k + 1 by omega, take_succ_kt _ l k r hr]
    have := h.2.2
    rw [show min k 300 = k by omega] at this
    rw [← List.append_assoc, ← this]
    simp only [app_toList]
    simp [sepB]
theorem JoinAt.past {n : ByteArray} {l : List NR} {k : Nat} {X Y : ByteArray} {r : NR} (h : JoinAt n l k X Y) (hr : l[k]? = some r) (hk : ¬ k < 300) :
    JoinAt n l (k + 1) (X ++ r.tx ++ ⟨#[32]⟩) Y := by
  have hlt : k < l.length := (List.getElem?_eq_some_iff.1 hr).1
  refine ⟨hlt, ?_, ?_⟩
  · rw [take_succ_kt _ l k r hr, ← h.2.1]
    simp only [app_toList]
    simp
  · rw [show min (k + 1) 300 = min k 300 by omega]
    exact h.2.2
theorem JoinAt.size {n : ByteArray} {l : List NR} {k : Nat} {X Y : ByteArray} (h : JoinAt n l k X Y) (hl : sizes l ≤ 2000) (hl2 : l.length ≤ 2001) (hn : n.size ≤ 20) : X.size ≤ 4001 ∧ Y.size ≤ 8922 := by
  have h1 := congrArg List.length h.2.1
  have h2 := congrArg List.length h.2.2
  rw [join_len] at h1
  rw [List.length_append, join_len] at h2
  have s1 := sizes_take l k
  have s2 := sizes_take l (min k 300)
  have e1 : X.data.toList.length = X.size := by simp
  have e2 : Y.data.toList.length = Y.size := by simp
  have e3 : (sepB n).length = n.size + 3 := by simp [sepB]
  have e4 : (preB n).length = n.size + 2 := by simp [preB]
  have e5 : (l.take k).length ≤ 2001 := by rw [List.length_take]; omega
  have e6 : (l.take (min k 300)).length ≤ 300 := by rw [List.length_take]; omega
  have m1 : (l.take (min k 300)).length * (sepB n).length ≤ 300 * 23 := Nat.mul_le_mul e6 (by omega)
  rw [e1] at h1
  rw [e2] at h2
  simp only [List.length_singleton, Nat.mul_one] at h1
  omega

/-- what the scans of the joined texts give. -/
theorem JoinAt.scans {s n : ByteArray} {l : List NR} {k : Nat} {X Y : ByteArray} (h : JoinAt n l k X Y) (hk : ¬ k < l.length) (hch : Chain s 0 l) (hs : s.size ≤ 2000) (hn : n.size ≤ 20) (hno : ∀ c ∈ n.data.toList, c.toNat ≠ 10) :
    (∃ m, scanR X = (m, 0, 0) ∧ m.map NR.kt = l.map NR.kt) ∧ (∃ q, scanR Y = (q, 0, 0) ∧ (l.length ≤ 300 → q.length = l.length) ∧ ∀ (i : Nat) (x : NR), i < 300 → q[i]? = some x → x.kd ≠ 0 → ∀ y, l[i]? = some y → NR.kt x = NR.kt y) := by
  obtain ⟨init, last, hl, h1, h2, h3, h4⟩ := chain_good hch (Nat.zero_le _)
  have hsz : sizes l ≤ 2000 := by
    rw [hl, sizes_append]
    have : last.tx.size = 0 := by
      have := congrArg Prod.snd h1
      have h5 := congrArg List.length this
      simpa [NR.kt, ByteArray.toList_eq] using h5
    simp only [sizes]; omega
  have hlen : l.length ≤ 2001 := by rw [hl]; simp; omega
  obtain ⟨b1, b2⟩ := h.size hsz hlen hn
  have hkl : k = l.length := by have := h.1; omega
  have hXl := congrArg List.length h.2.1
  have hYl := congrArg List.length h.2.2
  have eX : X.data.toList.length = X.size := by simp
  have eY : Y.data.toList.length = Y.size := by simp
  rw [join_len, eX] at hXl
  rw [List.length_append, join_len, eY] at hYl
  constructor
  · refine scanR_of (by omega) ?_
    have := join_scan hl h1 h2 sep_space rfl (by decide) (pre := []) (fun _ _ => rfl) k (X.size + 1) (by
      rw [hl, List.length_take] at hXl
      simp only [List.length_singleton, Nat.mul_one] at hXl
      rw [List.length_take]
      simp only [List.length_append, List.length_singleton] at hXl
      omega)
    rw [List.nil_append, ← h.2.1] at this
    rw [this]
    have e : init.take k = init := List.take_of_length_le (by rw [hkl, hl]; simp)
    rw [e, hl]
    simp [h1]
  · have := join_scan hl h1 h2 (sep_tab _ hno) (c := 9) (p' := 35 :: (n.data.toList ++ [10])) rfl (by decide) (pre := preB n) (fun f r => scanL_sep (sep_note _ hno) f r) (min k 300) (Y.size + 1) (by
      have e3 : (sepB n).length = n.size + 3 := by simp [sepB]
      have m1 : (l.take (min k 300)).length ≤ (l.take (min k 300)).length * (sepB n).length := Nat.le_mul_of_pos_right _ (by omega)
      rw [List.length_take] at m1 hYl
      rw [List.length_take]
      have : init.length ≤ l.length := by rw [hl]; simp
      omega)
    have h22 : preB n ++ joinL ([9, 35] ++ n.data.toList ++ [10]) ((l.take (min k 300)).map NR.kt) = Y.data.toList := h.2.2.symm
    rw [h22] at this
    obtain ⟨q, hq, hqk⟩ := scanR_of (by omega) this
    have hql := congrArg List.length hqk
    simp only [List.length_map, List.length_append, List.length_singleton, List.length_take] at hql
    refine ⟨q, hq, fun h300 => ?_, fun i x hi hx hkd y hy => ?_⟩
    · rw [hql, hkl, hl]; simp; rw [hl] at h300; simp at h300; omega
    · have hxi : (q.map NR.kt)[i]? = some (NR.kt x) := by simp [hx]
      rw [hqk] at hxi
      by_cases hin : i < (init.take (min k 300)).length
      · rw [List.getElem?_append_left (by simpa using hin)] at hxi
        simp only [List.getElem?_map, Option.map_eq_some_iff] at hxi
        obtain ⟨z, hz, hzk⟩ := hxi
        rw [List.getElem?_take_of_lt (by rw [List.length_take] at hin; omega)] at hz
        rw [hl, List.getElem?_append_left (by rw [List.length_take] at hin; omega), hz] at hy
        obtain rfl := Option.some.inj hy
        exact hzk.symm
      · rw [List.getElem?_append_right (by simpa using hin)] at hxi
        have : NR.kt x = (0, []) := by
          generalize i - ((init.take (min k 300)).map NR.kt).length = j at hxi
          cases j with
          | zero => simpa using hxi.symm
          | succ j => simp at hxi
        exact absurd (congrArg Prod.fst this) hkd
end Go.Proofs.YtmahhaabhaigiaaDoor
