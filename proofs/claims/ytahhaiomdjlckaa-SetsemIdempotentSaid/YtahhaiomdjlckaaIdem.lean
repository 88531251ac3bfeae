/-
  What Idempotent is.
-/
import Derived.Test.YtahhaiomdjlckaaW16
import Derived.Test.YtahhaiomdjlckaaSeen
namespace Go.Proofs.Ytahhaiomdjlckaa
set_option linter.unusedVariables false
set_option linter.unusedSimpArgs false
open Go.RowKit

/-- all are variables, none twice, none of those seen. -/
def okFrom (seen : List Int) : List Tm → Bool
  | [] => true
  | t :: ts => if t.kd != 1 || seen.contains t.it then false else okFrom (seen ++ [t.it]) ts
def noDc : Dc := ⟨⟨#[]⟩, 0⟩
def dcv (d : Dc) : Value := .agg #[.string d.nm, .int .i64 d.ar]
def idem (r : Rl) : Dc × Bool :=
  if r.kp.length ≠ 1 ∨ r.rm.length ≠ 1 ∨ 0 < r.gd.length then (noDc, false)
  else if sameA (xa r.kp 0) (xa r.rm 0) = false ∨ r.bd.any notTrue = true then (noDc, false)
  else if okFrom [] (xa r.kp 0).ts then (⟨(xa r.kp 0).nm, (xa r.kp 0).ts.length⟩, true) else (noDc, false)
/-- the head of a round of Idempotent. -/
def IdAt (ts : List Tm) (k : Nat) : Prop := k ≤ ts.length ∧ okFrom ((ts.take k).map Tm.it) (ts.drop k) = okFrom [] ts
theorem IdAt.zero (ts : List Tm) : IdAt ts 0 := ⟨Nat.zero_le _, rfl⟩
theorem IdAt.fail {ts : List Tm} {k : Nat} {t : Tm} (h : IdAt ts k) (ht : ts[k]? = some t) (hp : (t.kd != 1 || ((ts.take k).map Tm.it).contains t.it) = true) : okFrom [] ts = false := by
  have hlt : k < ts.length := (List.getElem?_eq_some_iff.1 ht).1
  have hd : ts.drop k = t :: ts.drop (k + 1) := by
    rw [List.drop_eq_getElem_cons hlt]
    rw [List.getElem?_eq_getElem hlt] at ht
    rw [Option.some.inj ht]
  rw [← h.2, hd, okFrom, if_pos hp]
theorem IdAt.step {ts : List Tm} {k : Nat} {t : Tm} (h : IdAt ts k) (ht : ts[k]? = some t) (hp : (t.kd != 1 || ((ts.take k).map Tm.it).contains t.it) = false) : IdAt ts (k + 1) := by
  have hlt : k < ts.length := (List.getElem?_eq_some_iff.1 ht).1
  have hd : ts.drop k = t :: ts.drop (k + 1) := by
    rw [List.drop_eq_getElem_cons hlt]
    rw [List.getElem?_eq_getElem hlt] at ht
    rw [Option.some.inj ht]
  refine ⟨hlt, ?_⟩
  rw [← h.2, hd, okFrom, if_neg (by rw [hp]; simp), List.take_add_one, ht]
  simp
theorem IdAt.done {ts : List Tm} (h : IdAt ts ts.length) : okFrom [] ts = true := by
  rw [← h.2, List.drop_length]; rfl
end Go.Proofs.Ytahhaiomdjlckaa
