/-
  A slice of constraints, cell by cell: what an append of it copies.
-/
import Derived.Test.YtahhaiomdjlckaaOwned
namespace Go.Proofs.Ytahhaiomdjlckaa
set_option linter.unusedVariables false
set_option linter.unusedSimpArgs false
open Go.RowKit

theorem flat_len {sz : Nat} : ∀ css : List (List Value), (∀ c ∈ css, c.length = sz) → css.flatten.length = css.length * sz
  | [], _ => by simp
  | c :: css, h => by
    rw [List.flatten_cons, List.length_append, h c (by simp), flat_len css (fun x hx => h x (by simp [hx])), List.length_cons, Nat.add_mul]; omega
theorem at_cells {w : World} {b o : Nat} {x : At} (h : AtAt w b o x) : ∃ cs, cs.length = 2 ∧ RA w cs x ∧ ∀ j, j < 2 → w.cell? ⟨b, o + j, none⟩ = cs[j]? := by
  obtain ⟨⟨h0, h1⟩, A, c, h2, h3⟩ := h
  refine ⟨[.string x.nm, .slice A x.ts.length c], rfl, ⟨A, c, rfl, h3, h1⟩, fun j hj => ?_⟩
  match j, hj with
  | 0, _ => exact h0
  | 1, _ => exact h2
theorem ats_cells {w : World} {A : Option Addr} {l : List At} (h : SlAt AtAt 2 w A l) : ∃ css : List (List Value), css.length = l.length ∧ (∀ c ∈ css, c.length = 2) ∧ (∀ (k : Nat) (x : At) (cs : List Value), l[k]? = some x → css[k]? = some cs → RA w cs x) ∧
    (l ≠ [] → ∃ b off, A = some ⟨b, off, none⟩ ∧ ∀ j u, css.flatten[j]? = some u → w.cell? ⟨b, off + j, none⟩ = some u) := by
  classical
  by_cases hl : l = []
  · subst hl
    exact ⟨[], rfl, by simp, by simp, fun h => absurd rfl h⟩
  obtain ⟨x0, hx0⟩ : ∃ x, l[0]? = some x := ⟨_, List.getElem?_eq_getElem (List.length_pos_iff.2 hl)⟩
  obtain ⟨b, off, rfl, _, _⟩ := h.2 0 x0 hx0
  have H : ∀ k, k < l.length → ∃ cs : List Value, cs.length = 2 ∧ (∀ x, l[k]? = some x → RA w cs x) ∧ ∀ j, j < 2 → w.cell? ⟨b, off + k * 2 + j, none⟩ = cs[j]? := by
    intro k hk
    obtain ⟨x, hx⟩ : ∃ x, l[k]? = some x := ⟨_, List.getElem?_eq_getElem hk⟩
    obtain ⟨b', off', e, _, hat⟩ := h.2 k x hx
    simp only [Option.some.injEq, Addr.mk.injEq, and_true] at e
    obtain ⟨rfl, rfl⟩ := e
    obtain ⟨cs, h1, h2, h3⟩ := at_cells hat
    exact ⟨cs, h1, fun y hy => by rw [hx] at hy; cases hy; exact h2, h3⟩
  let f : Nat → List Value := fun k => if hk : k < l.length then Classical.choose (H k hk) else []
  have hf : ∀ k (hk : k < l.length), (f k).length = 2 ∧ (∀ x, l[k]? = some x → RA w (f k) x) ∧ ∀ j, j < 2 → w.cell? ⟨b, off + k * 2 + j, none⟩ = (f k)[j]? := by
    intro k hk
    have := Classical.choose_spec (H k hk)
    simp only [f, dif_pos hk]
    exact this
  have hat : ∀ k, k < l.length → ((List.range l.length).map f)[k]? = some (f k) := fun k hk => by simp [hk]
  have hlen : ∀ c ∈ (List.range l.length).map f, c.length = 2 := by
    intro c hc
    obtain ⟨k, hk, rfl⟩ := List.mem_map.1 hc
    exact (hf k (List.mem_range.1 hk)).1
  refine ⟨(List.range l.length).map f, by simp, hlen, fun k x cs hx hcs => ?_, fun _ => ⟨b, off, rfl, fun j u hu => ?_⟩⟩
  · have hk : k < l.length := (List.getElem?_eq_some_iff.1 hx).1
    rw [hat k hk] at hcs
    cases hcs
    exact (hf k hk).2.1 x hx
  · have hj : j < l.length * 2 := by
      have := (List.getElem?_eq_some_iff.1 hu).1
      rw [flat_len _ hlen] at this
      simpa using this
    have hk : j / 2 < l.length := by omega
    have h1 := flatten_at (by decide) _ (j / 2) (f (j / 2)) hlen (hat _ hk) (j % 2) (Nat.mod_lt _ (by decide))
    rw [show j / 2 * 2 + j % 2 = j by omega, hu] at h1
    have h2 := (hf _ hk).2.2 (j % 2) (Nat.mod_lt _ (by decide))
    rw [show off + j / 2 * 2 + j % 2 = off + j by omega, ← h1] at h2
    exact h2
end Go.Proofs.Ytahhaiomdjlckaa
