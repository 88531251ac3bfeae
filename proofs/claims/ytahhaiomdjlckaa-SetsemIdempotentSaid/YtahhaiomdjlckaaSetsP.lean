/-
  What Sets is, plainly.
-/
import Derived.Test.YtahhaiomdjlckaaW23
namespace Go.Proofs.Ytahhaiomdjlckaa
set_option linter.unusedVariables false
set_option linter.unusedSimpArgs false
open Go.RowKit

def dcEq (x y : Dc) : Bool := decide (x.nm = y.nm) && x.ar == y.ar
/-- whether the first two occurrences are those of an idempotent rule. -/
def isSet (rs : List Rl) (d : Dc) : Bool :=
  match sel d.nm d.ar (evs rs) with
  | o0 :: o1 :: _ => if o0.rule != o1.rule || o0.kept || !o1.kept then false else (match rs[o0.rule.toNat]? with | some r => (idem r).2 && dcEq (idem r).1 d | none => false)
  | _ => false
def setsU (rs : List Rl) (ds : List Dc) (k : Nat) : List Dc := (ds.take k).filter (isSet rs)
theorem setsU_yes {rs : List Rl} {ds : List Dc} {k : Nat} {d : Dc} (h : ds[k]? = some d) (hs : isSet rs d = true) : setsU rs ds (k + 1) = setsU rs ds k ++ [d] := by
  unfold setsU; rw [List.take_add_one, h, List.filter_append]; simp [hs]
theorem setsU_no {rs : List Rl} {ds : List Dc} {k : Nat} {d : Dc} (h : ds[k]? = some d) (hs : isSet rs d = false) : setsU rs ds (k + 1) = setsU rs ds k := by
  unfold setsU; rw [List.take_add_one, h, List.filter_append]; simp [hs]
theorem setsU_len (rs : List Rl) (ds : List Dc) (k : Nat) : (setsU rs ds k).length ≤ k := by
  unfold setsU
  exact Nat.le_trans (List.length_filter_le _ _) (by rw [List.length_take]; omega)
theorem evDown_rule (i : Nat) (r : Rl) : ∀ j x, x ∈ evDown i r j → x.rule = (i : Int)
  | 0, x, h => by simp [evDown] at h
  | j + 1, x, h => by
    simp only [evDown, List.mem_append, List.mem_singleton] at h
    rcases h with h | rfl
    · exact evDown_rule i r j x h
    · rfl
theorem evUpto_rule (rs : List Rl) : ∀ i x, x ∈ evUpto rs i → ∃ (k : Nat) (r : Rl), x.rule = k ∧ rs[k]? = some r
  | 0, x, h => by simp [evUpto] at h
  | i + 1, x, h => by
    simp only [evUpto, List.mem_append] at h
    rcases h with h | h
    · exact evUpto_rule rs i x h
    · split at h
      · rename_i r hr
        exact ⟨i, r, evDown_rule i r _ x h, hr⟩
      · simp at h
theorem sel_rule {rs : List Rl} {nm : ByteArray} {ar : Int} {o : Oc} (h : o ∈ sel nm ar (evs rs)) : ∃ (k : Nat) (r : Rl), o.rule = k ∧ rs[k]? = some r := by
  unfold sel at h
  obtain ⟨x, hx, rfl⟩ := List.mem_map.1 h
  exact evUpto_rule rs _ x (List.mem_filter.1 hx).1
def RDc (_ : World) (cs : List Value) (x : Dc) : Prop := cs = [.string x.nm, .int .i64 x.ar] ∧ x.nm.size ≤ maxLen ∧ I64 x.ar
theorem RDc.at_ {w0 w : World} (b o : Nat) (cs : List Value) (x : Dc) (hc : ∀ j, j < 2 → w.cell? ⟨b, o + j, none⟩ = cs[j]?) (h : RDc w0 cs x) : DcAt w b o x := by
  obtain ⟨rfl, h1, h2⟩ := h
  exact ⟨⟨hc 0 (by omega), h1⟩, hc 1 (by omega), h2⟩
theorem RDc.one {w : World} {cs : List Value} {x : Dc} (h : RDc w cs x) : ∀ u ∈ cs, u.oneCell' = true := by
  obtain ⟨rfl, _⟩ := h
  intro u hu
  simp only [List.mem_cons, List.not_mem_nil, or_false] at hu
  rcases hu with rfl | rfl <;> rfl
/-- two occurrences at least. -/
theorem two_of {α : Type} {l : List α} (h : 2 ≤ l.length) : ∃ x y t, l = x :: y :: t := by
  match l, h with
  | x :: y :: t, _ => exact ⟨x, y, t, rfl⟩
theorem isSet_short {rs : List Rl} {d : Dc} (h : (sel d.nm d.ar (evs rs)).length < 2) : isSet rs d = false := by
  unfold isSet
  split
  · rename_i o0 o1 t e; rw [e] at h; simp only [List.length_cons] at h; omega
  · rfl
theorem isSet_two {rs : List Rl} {d : Dc} {o0 o1 : Oc} {t : List Oc} (h : sel d.nm d.ar (evs rs) = o0 :: o1 :: t) : isSet rs d = if o0.rule != o1.rule || o0.kept || !o1.kept then false else (match rs[o0.rule.toNat]? with | some r => (idem r).2 && dcEq (idem r).1 d | none => false) := by
  unfold isSet; rw [h]
end Go.Proofs.Ytahhaiomdjlckaa
