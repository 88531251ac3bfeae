/-
  A map from integers to Booleans that the call makes and fills with true: what a lookup says.
-/
import Derived.Test.YtahhaiomdjlckaaRep
import Derived.Maps.Own
import Derived.Maps.Views
namespace Go.Proofs.Ytahhaiomdjlckaa
set_option linter.unusedVariables false
set_option linter.unusedSimpArgs false
open Go.RowKit Go.Maps

/-- an element that is a Boolean. -/
def boolElem : Value → Option (DataW Unit × List MemPlace)
  | .bool x => some (.lit (.bool x), [])
  | _ => none
theorem boolElem_inv {v : Value} {d : DataW Unit} {ps : List MemPlace} (h : boolElem v = some (d, ps)) : ∃ x, v = .bool x ∧ d = .lit (.bool x) := by
  unfold boolElem at h
  split at h
  · rename_i x
    simp only [Option.some.injEq, Prod.mk.injEq] at h
    exact ⟨x, rfl, h.1.symm⟩
  · cases h
def seenD (l : List Int) : DataW Unit := l.foldl (fun D i => D.put (.int .i64 i) (.lit (.bool true))) (.map [])
theorem seenD_snoc (l : List Int) (i : Int) : seenD (l ++ [i]) = (seenD l).put (.int .i64 i) (.lit (.bool true)) := by
  simp [seenD]
theorem seen_fold (x : Int) : ∀ (l : List Int) (D : DataW Unit), IsMap D → (l.foldl (fun D i => D.put (.int .i64 i) (.lit (.bool true))) D).atKey (.int .i64 x) (.lit (.bool false)) =
    if l.contains x then .lit (.bool true) else D.atKey (.int .i64 x) (.lit (.bool false))
  | [], D, _ => by simp
  | i :: l, D, hD => by
    rw [List.foldl_cons, seen_fold x l _ (hD.put _ _)]
    by_cases h : l.contains x = true
    · rw [if_pos h, if_pos (by simp only [List.contains_cons, h, Bool.or_true])]
    · rw [if_neg h]
      by_cases hi : i = x
      · subst hi
        rw [atKey_put_same hD (by trivial), if_pos (by simp)]
      · rw [atKey_put_other (by simpa using fun e => hi e.symm), if_neg]
        simp only [List.contains_cons, Bool.or_eq_true, beq_iff_eq]
        rintro (e | e)
        · exact hi e.symm
        · exact h e
theorem seenD_at (l : List Int) (x : Int) : (seenD l).atKey (.int .i64 x) (.lit (.bool false)) = .lit (.bool (l.contains x)) := by
  unfold seenD
  rw [seen_fold x l _ isMap_empty]
  cases l.contains x <;> rfl
end Go.Proofs.Ytahhaiomdjlckaa
