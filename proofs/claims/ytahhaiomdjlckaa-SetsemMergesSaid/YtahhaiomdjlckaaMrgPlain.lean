/-
  Merged constraints are all different; each constraint of the list is one of them, once; repeated and merged ones together are as many as there were.
-/
import Derived.Test.YtahhaiomdjlckaaOwned
namespace Go.Proofs.Ytahhaiomdjlckaa
set_option linter.unusedVariables false
set_option linter.unusedSimpArgs false
open Go.RowKit

theorem twc_mrg (l : List It) : ∀ k, k ≤ l.length → (twc l k).length + (mrg (l.map It.at_) k).length = k
  | 0, _ => rfl
  | k + 1, h => by
    have ih := twc_mrg l k (by omega)
    obtain ⟨x, hx⟩ : ∃ x, l[k]? = some x := ⟨_, List.getElem?_eq_getElem (by omega)⟩
    simp only [twc, mrg]
    split
    · simp [hx]; omega
    · simp [hx]; omega
/-- the merged ones of the first k: all different from each other. -/
theorem mrg_mem (l : List At) : ∀ k x, x ∈ mrg l k → ∃ i, i < k ∧ l[i]? = some x
  | 0, x, h => by simp [mrg] at h
  | k + 1, x, h => by
    simp only [mrg] at h
    split at h
    · obtain ⟨i, hi, hx⟩ := mrg_mem l k x h
      exact ⟨i, by omega, hx⟩
    · rcases List.mem_append.1 h with h | h
      · obtain ⟨i, hi, hx⟩ := mrg_mem l k x h
        exact ⟨i, by omega, hx⟩
      · cases hl : l[k]? with
        | none => simp [hl] at h
        | some y => simp only [hl, Option.toList_some, List.mem_singleton] at h; subst h; exact ⟨k, by omega, hl⟩
theorem mrg_apart (l : List At) : ∀ k, (mrg l k).Pairwise (fun x y => sameA x y = false)
  | 0 => by simp [mrg]
  | k + 1 => by
    simp only [mrg]
    split
    · exact mrg_apart l k
    · rename_i hg
      refine List.pairwise_append.2 ⟨mrg_apart l k, ?_, ?_⟩
      · cases l[k]? <;> simp
      · intro x hx y hy
        cases hl : l[k]? with
        | none => simp [hl] at hy
        | some z =>
          simp only [hl, Option.toList_some, List.mem_singleton] at hy
          subst hy
          obtain ⟨i, hi, hxi⟩ := mrg_mem l k x hx
          cases hs : sameA x y with
          | false => rfl
          | true =>
            exact absurd (by
              rw [agn_at hl, List.any_eq_true]
              exact ⟨x, List.mem_of_getElem? (by rw [List.getElem?_take, if_pos hi]; exact hxi : (l.take k)[i]? = some x), hs⟩) hg
/-- each of the first k is one of the merged ones. -/
theorem mrg_has (l : List At) : ∀ k i x, i < k → l[i]? = some x → ∃ y ∈ mrg l k, sameA y x = true
  | 0, i, x, h, _ => by omega
  | k + 1, i, x, h, hx => by
    simp only [mrg]
    by_cases hik : i < k
    · obtain ⟨y, hy, hs⟩ := mrg_has l k i x hik hx
      refine ⟨y, ?_, hs⟩
      split
      · exact hy
      · exact List.mem_append.2 (.inl hy)
    · obtain rfl : i = k := by omega
      split
      · rename_i hg
        rw [agn_at hx, List.any_eq_true] at hg
        obtain ⟨z, hz, hs⟩ := hg
        obtain ⟨j, hj⟩ := List.getElem?_of_mem hz
        have hji : j < i := by
          have := (List.getElem?_eq_some_iff.1 hj).1
          simp at this; omega
        rw [List.getElem?_take, if_pos hji] at hj
        obtain ⟨y, hy, hs'⟩ := mrg_has l i j z hji hj
        exact ⟨y, hy, sameA_trans hs' hs⟩
      · exact ⟨x, List.mem_append.2 (.inr (by simp [hx])), sameA_refl x⟩
/-- how many of the first j are the same as x. -/
def cnt (m : List At) (x : At) (j : Nat) : Nat := ((m.take j).filter (fun y => sameA y x)).length
theorem cnt_succ {m : List At} {x y : At} {j : Nat} (h : m[j]? = some y) : cnt m x (j + 1) = cnt m x j + if sameA y x then 1 else 0 := by
  unfold cnt
  rw [List.take_add_one, h, List.filter_append, List.length_append]
  by_cases hs : sameA y x <;> simp [hs]
theorem cnt_one {m : List At} {x : At} (hp : m.Pairwise (fun x y => sameA x y = false)) (hh : ∃ y ∈ m, sameA y x = true) : cnt m x m.length = 1 := by
  unfold cnt
  rw [List.take_length]
  induction m with
  | nil => obtain ⟨y, hy, _⟩ := hh; simp at hy
  | cons a m ih =>
    obtain ⟨ha, hp'⟩ := List.pairwise_cons.1 hp
    by_cases hs : sameA a x = true
    · have : m.filter (fun y => sameA y x) = [] := by
        rw [List.filter_eq_nil_iff]
        intro y hy hyx
        have h1 := ha y hy
        have h2 := sameA_trans hs (sameA_symm hyx)
        rw [h1] at h2; cases h2
      simp [List.filter_cons, hs, this]
    · obtain ⟨y, hy, hyx⟩ := hh
      rcases List.mem_cons.1 hy with rfl | hy
      · exact absurd hyx hs
      · have := ih hp' ⟨y, hy, hyx⟩
        simpa [List.filter_cons, hs] using this
theorem cnt_mrg {l : List At} {i : Nat} {x : At} (h : l[i]? = some x) : cnt (mrg l l.length) x (mrg l l.length).length = 1 :=
  cnt_one (mrg_apart l _) (mrg_has l _ i x (List.getElem?_eq_some_iff.1 h).1 h)
/-- a list of different ones is merged into itself. -/
theorem mrg_self {m : List At} (hp : m.Pairwise (fun x y => sameA x y = false)) : ∀ k, k ≤ m.length → mrg m k = m.take k
  | 0, _ => by simp [mrg]
  | k + 1, h => by
    obtain ⟨x, hx⟩ : ∃ x, m[k]? = some x := ⟨_, List.getElem?_eq_getElem (by omega)⟩
    have hg : agn m k = false := by
      rw [agn_at hx]
      rw [List.any_eq_false]
      intro y hy hs
      obtain ⟨j, hj⟩ := List.getElem?_of_mem hy
      have hjk : j < k := by
        have := (List.getElem?_eq_some_iff.1 hj).1
        simp at this; omega
      rw [List.getElem?_take, if_pos hjk] at hj
      have h1 := (List.pairwise_iff_getElem.1 hp) j k (by omega) (by omega) hjk
      have e1 : m[j] = y := by have := List.getElem?_eq_getElem (l := m) (i := j) (by omega); rw [hj] at this; exact (Option.some.inj this).symm
      have e2 : m[k] = x := by have := List.getElem?_eq_getElem (l := m) (i := k) (by omega); rw [hx] at this; exact (Option.some.inj this).symm
      rw [e1, e2, hs] at h1; cases h1
    simp only [mrg, hg, hx]
    rw [mrg_self hp k (by omega), List.take_add_one, hx]; rfl
theorem mrg_mrg (l : List At) : (mrg (mrg l l.length) (mrg l l.length).length).length = (mrg l l.length).length := by
  rw [mrg_self (mrg_apart l _) _ (Nat.le_refl _), List.take_length]
end Go.Proofs.Ytahhaiomdjlckaa
