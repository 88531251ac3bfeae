/-
  The occurrences of a program, in their order, as plain lists.
-/
import Derived.Test.YtahhaiomdjlckaaRep
namespace Go.Proofs.Ytahhaiomdjlckaa
set_option linter.unusedVariables false
set_option linter.unusedSimpArgs false
open Go.RowKit

/-- an occurrence with its head: what a round is handed. -/
structure Ev where
  rule : Int
  head : Int
  kept : Bool
  nm : ByteArray
  A : Option Addr
  n : Nat
  c : Nat
def er (x : Ev) : Ev := { x with A := none, c := 0 }
def hdAt (r : Rl) (k : Nat) : At := ((r.kp ++ r.rm)[k]?).getD ⟨⟨#[]⟩, []⟩
def ev (i : Nat) (r : Rl) (k : Nat) : Ev := ⟨i, k, decide (k < r.kp.length), (hdAt r k).nm, none, (hdAt r k).ts.length, 0⟩
def nh (r : Rl) : Nat := r.kp.length + r.rm.length
def evDown (i : Nat) (r : Rl) : Nat → List Ev
  | 0 => []
  | j + 1 => evDown i r j ++ [ev i r (nh r - 1 - j)]
def evUpto (rs : List Rl) : Nat → List Ev
  | 0 => []
  | i + 1 => evUpto rs i ++ (match rs[i]? with | some r => evDown i r (nh r) | none => [])
def evs (rs : List Rl) : List Ev := evUpto rs rs.length
theorem evDown_len (i : Nat) (r : Rl) : ∀ j, (evDown i r j).length = j
  | 0 => rfl
  | j + 1 => by simp [evDown, evDown_len i r j]
theorem evUpto_succ {rs : List Rl} {i : Nat} {r : Rl} (h : rs[i]? = some r) : evUpto rs (i + 1) = evUpto rs i ++ evDown i r (nh r) := by simp [evUpto, h]
theorem evUpto_mono {rs : List Rl} {i j : Nat} (h : i ≤ j) : (evUpto rs i).length ≤ (evUpto rs j).length := by
  induction j with
  | zero => obtain rfl : i = 0 := by omega
            exact Nat.le_refl _
  | succ j ih =>
    by_cases hij : i = j + 1
    · subst hij; exact Nat.le_refl _
    · have := ih (by omega)
      simp only [evUpto, List.length_append]; omega
/-- within the bounds that the statements know. -/
structure RsOk (rs : List Rl) : Prop where
  n : rs.length ≤ 1000
  h : ∀ r ∈ rs, nh r ≤ 1000
theorem evUpto_le {rs : List Rl} (h : RsOk rs) : ∀ i, (evUpto rs i).length ≤ i * 1000
  | 0 => Nat.le_refl _
  | i + 1 => by
    have := evUpto_le h i
    simp only [evUpto, List.length_append, Nat.add_mul]
    split
    · rename_i r hr
      have := h.h r (List.mem_of_getElem? hr)
      rw [evDown_len]; omega
    · exact Nat.le_trans this (Nat.le_add_right _ _)
theorem evs_le {rs : List Rl} (h : RsOk rs) : (evs rs).length ≤ 1000000 := by
  have h1 := evUpto_le h rs.length
  have h2 := h.n
  show (evUpto rs rs.length).length ≤ 1000000
  omega
theorem hdAt_get {r : Rl} {k : Nat} (h : k < nh r) : (r.kp ++ r.rm)[k]? = some (hdAt r k) := by
  have : k < (r.kp ++ r.rm).length := by rw [List.length_append]; exact h
  simp [hdAt, List.getElem?_eq_getElem this]
def enc (x : Ev) : Array Value := #[.agg #[.int .i64 x.rule, .int .i64 x.head, .bool x.kept], .agg #[.string x.nm, .slice x.A x.n x.c]]
end Go.Proofs.Ytahhaiomdjlckaa
