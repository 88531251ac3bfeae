/-
  Hidden lists: what stays as it is while code is reckoned.
-/
import Derived.Test.YtahhaiomdjlckaaDoorQs
namespace Go.Proofs.YtahhaiomdjlckaaDoor
set_option linter.unusedVariables false
set_option linter.unusedSimpArgs false
open Go.RowKit

/-- a function's value that is not reckoned. -/
structure Hd where
  h : {α β : Type} → (α → β) → α → β
  eq : ∀ {α β : Type} (f : α → β) (a : α), h f a = f a
def Hd.plain : Hd := ⟨fun f a => f a, fun _ _ => rfl⟩
/-- a list of elements in memory. -/
def lst (ρ : Hd) {T : Type} (f : T → List AV) (ex : Bool) (l : List T) : AV := .sl ex (ρ.h (List.map f) l)
section
variable {ρ : Hd} {T : Type} {f : T → List AV} {l : List T} {ex : Bool}
theorem lst_eq : lst ρ f ex l = .sl ex (l.map f) := by rw [lst, ρ.eq]
theorem lst_len : (ρ.h (List.map f) l).length = l.length := by rw [ρ.eq, List.length_map]
theorem lst_idx {i : Int} {k : Nat} {x : T} (hi : i = (k : Int)) (h : l[k]? = some x) : idx (ρ.h (List.map f) l) i = some (f x) := by
  rw [ρ.eq]
  exact idx_map hi h
theorem lst_all {m : Nat} (h : ∀ x, (f x).length = m) : ∀ r ∈ ρ.h (List.map f) l, r.length = m := by
  rw [ρ.eq]
  intro r hr
  obtain ⟨x, _, rfl⟩ := List.mem_map.1 hr
  exact h x
theorem lst_pure (h : ∀ x ∈ l, ∀ a ∈ f x, Pure a) : Pure (lst ρ f ex l) := by
  rw [lst_eq]
  refine .sl fun row hr a ha => ?_
  obtain ⟨x, hx, rfl⟩ := List.mem_map.1 hr
  exact h x hx a ha
end
end Go.Proofs.YtahhaiomdjlckaaDoor
