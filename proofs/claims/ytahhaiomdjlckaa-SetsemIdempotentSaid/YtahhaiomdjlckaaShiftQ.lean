/-
  A rule whose variables are numbered is idempotent exactly if the shifted rule is, plainly.
-/
import Derived.Test.YtahhaiomdjlckaaW43
import Derived.Test.YtahhaiomdjlckaaIdem
namespace Go.Proofs.Ytahhaiomdjlckaa
set_option linter.unusedVariables false
set_option linter.unusedSimpArgs false
open Go.RowKit

def shAt (k : Int) (a : At) : At := ⟨a.nm, shL k a.ts⟩
def shGl (k : Int) (a : Gl) : Gl := ⟨a.op, a.nm, shL k a.ts⟩
def shRl (k : Int) (r : Rl) : Rl := ⟨r.nm, r.kp.map (shAt k), r.rm.map (shAt k), r.gd.map (shGl k), r.bd.map (shGl k), r.vs⟩
theorem numFrom_mem : ∀ (l : List Int) (i : Nat), numFrom i l = true → ∀ x ∈ l, (i : Int) ≤ x ∧ x < (i : Int) + l.length
  | [], i, _, x, hx => by simp at hx
  | y :: l, i, h, x, hx => by
    unfold numFrom at h
    split at h
    · simp at h
    · rename_i hy
      have hy' : y = (i : Int) := by simpa using hy
      rcases List.mem_cons.1 hx with rfl | hx
      · simp only [List.length_cons]; omega
      · have := numFrom_mem l (i + 1) h x hx
        simp only [List.length_cons]
        omega
theorem contains_shift (k x : Int) (l : List Int) : (l.map (· + k)).contains (x + k) = l.contains x := by
  induction l with
  | nil => rfl
  | cons y l ih =>
    have e : (x + k == y + k) = (x == y) := by
      by_cases h : x = y
      · rw [h, beq_self_eq_true, beq_self_eq_true]
      · rw [beq_eq_false_iff_ne.2 h, beq_eq_false_iff_ne.2 (by omega)]
    rw [List.map_cons, List.contains_cons, List.contains_cons, ih, e]
theorem okFrom_shift (k : Int) (hk : Sm k) : ∀ (ts : List Tm) (seen : List Int), AllL Sm ts → okFrom (seen.map (· + k)) (shL k ts) = okFrom seen ts
  | [], seen, _ => by simp [shL, okFrom]
  | t :: ts, seen, h => by
    unfold AllL at h
    simp only [shL, okFrom, shT_kd]
    by_cases h1 : t.kd = 1
    · have hit : (shT k t).it = t.it + k := by
        obtain ⟨a, b, c, d⟩ := t
        simp only [Tm.kd] at h1
        unfold shT
        rw [if_pos h1]
        have h2 := h.1
        unfold AllT at h2
        exact sumI_sm (h2.1 h1) hk
      rw [hit, contains_shift]
      have ih := okFrom_shift k hk ts (seen ++ [t.it]) h.2
      simp only [List.map_append, List.map_cons, List.map_nil] at ih
      rw [ih]
    · have : (t.kd != 1) = true := by simpa using h1
      simp [this]
theorem sameA_shift (k : Int) (hk : Sm k) (a b : At) (ha : AllL Sm a.ts) (hb : AllL Sm b.ts) : sameA (shAt k a) (shAt k b) = sameA a b := by
  unfold sameA cmpA shAt
  simp only [shL_len]
  rw [cmpL_shift k hk a.ts b.ts ha hb]
theorem any_shift (k : Int) (l : List Gl) : (l.map (shGl k)).any notTrue = l.any notTrue := by
  rw [List.any_map]
  congr 1
theorem idem_shift (k : Int) (hk : Sm k) (r : Rl) (h : AllL Sm (tsR r)) : idem (shRl k r) = idem r := by
  unfold idem
  by_cases hl : r.kp.length ≠ 1 ∨ r.rm.length ≠ 1 ∨ 0 < r.gd.length
  · rw [if_pos hl, if_pos (by simpa [shRl] using hl)]
  · rw [if_neg hl, if_neg (by simpa [shRl] using hl)]
    obtain ⟨nm, kp, rm, gd, bd, vs⟩ := r
    simp only at hl h
    match kp, rm, hl, h with
    | [a], [b], hl, h =>
      have h1 := (AllL.app h).1
      simp only [List.cons_append, List.nil_append, tsA, List.append_nil] at h1
      have ha := (AllL.app h1).1
      have hb := (AllL.app h1).2
      have e1 := sameA_shift k hk a b ha hb
      have e2 := any_shift k bd
      have e3 := okFrom_shift k hk a.ts [] ha
      show (if sameA (shAt k a) (shAt k b) = false ∨ (bd.map (shGl k)).any notTrue = true then (noDc, false) else if okFrom [] (shL k a.ts) = true then (⟨a.nm, ((shL k a.ts).length : Nat)⟩, true) else (noDc, false)) = (if sameA a b = false ∨ bd.any notTrue = true then (noDc, false) else if okFrom [] a.ts = true then (⟨a.nm, (a.ts.length : Nat)⟩, true) else (noDc, false))
      rw [e1, e2, shL_len]
      simp only [List.map_nil] at e3
      rw [e3]
    | [], _, hl, _ => simp at hl
    | _ :: _ :: _, _, hl, _ => simp at hl
    | [_], [], hl, _ => simp at hl
    | [_], _ :: _ :: _, hl, _ => simp at hl
theorem idem_numbered (k : Int) (hk : Sm k) (r : Rl) (hn : numFrom 0 (vsR r) = true) (hl : (vsR r).length ≤ 100000) : idem (shRl k r) = idem r :=
  idem_shift k hk r (AllL.mono (fun x hx => by
    have := numFrom_mem _ _ hn x hx
    unfold Sm
    omega) _ (vsL_all (tsR r) []))
end Go.Proofs.Ytahhaiomdjlckaa
