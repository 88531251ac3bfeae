/-
  What the reference's Sets is, plainly; it is what the program's is.
-/
import Derived.Test.YtahhaiomdjlckaaSetsP
namespace Go.Proofs.Ytahhaiomdjlckaa
set_option linter.unusedVariables false
set_option linter.unusedSimpArgs false
open Go.RowKit

def isSetR (rs : List Rl) (d : Dc) : Bool :=
  match sel d.nm d.ar (evs rs) with
  | o0 :: o1 :: _ => if o0.rule != o1.rule then false else (match rs[o0.rule.toNat]? with | some r => (idem r).2 && dcEq (idem r).1 d | none => false)
  | _ => false
theorem isSetR_short {rs : List Rl} {d : Dc} (h : (sel d.nm d.ar (evs rs)).length < 2) : isSetR rs d = false := by
  unfold isSetR
  split
  · rename_i o0 o1 t e; rw [e] at h; simp only [List.length_cons] at h; omega
  · rfl
theorem isSetR_two {rs : List Rl} {d : Dc} {o0 o1 : Oc} {t : List Oc} (h : sel d.nm d.ar (evs rs) = o0 :: o1 :: t) : isSetR rs d = if o0.rule != o1.rule then false else (match rs[o0.rule.toNat]? with | some r => (idem r).2 && dcEq (idem r).1 d | none => false) := by
  unfold isSetR; rw [h]
theorem evUpto_lt (rs : List Rl) : ∀ i x, x ∈ evUpto rs i → x.rule < (i : Int)
  | 0, x, h => by simp [evUpto] at h
  | i + 1, x, h => by
    simp only [evUpto, List.mem_append] at h
    rcases h with h | h
    · have := evUpto_lt rs i x h; omega
    · split at h
      · have := evDown_rule i _ _ x h; omega
      · simp at h
theorem evUpto_pre (rs : List Rl) (i : Nat) : ∀ j, i ≤ j → ∃ t, evUpto rs j = evUpto rs i ++ t
  | 0, h => by obtain rfl : i = 0 := by omega
               exact ⟨[], by simp⟩
  | j + 1, h => by
    by_cases hij : i = j + 1
    · subst hij; exact ⟨[], by simp⟩
    · obtain ⟨t, ht⟩ := evUpto_pre rs i j (by omega)
      exact ⟨_, by rw [evUpto, ht, List.append_assoc]⟩
theorem sel_app (nm : ByteArray) (ar : Int) (a b : List Ev) : sel nm ar (a ++ b) = sel nm ar a ++ sel nm ar b := by
  unfold sel; rw [List.filter_append, List.map_append]
/-- what an idempotent rule is made of. -/
theorem idem_shape {r : Rl} (h : (idem r).2 = true) : ∃ a b, r.kp = [a] ∧ r.rm = [b] ∧ sameA a b = true ∧ (idem r).1 = ⟨a.nm, a.ts.length⟩ := by
  unfold idem at h ⊢
  split at h
  · cases h
  · rename_i h1
    split at h
    · cases h
    · rename_i h2
      split at h
      · rename_i h3
        have k1 : r.kp.length = 1 := by omega
        have k2 : r.rm.length = 1 := by omega
        obtain ⟨a, ha⟩ := List.length_eq_one_iff.1 k1
        obtain ⟨b, hb⟩ := List.length_eq_one_iff.1 k2
        have x1 : xa r.kp 0 = a := by rw [ha]; rfl
        have x2 : xa r.rm 0 = b := by rw [hb]; rfl
        refine ⟨a, b, ha, hb, ?_, ?_⟩
        · cases hs : sameA a b with
          | true => rfl
          | false => exact absurd (.inl (by rw [x1, x2]; exact hs)) h2
        · rw [if_neg h1, if_neg h2, if_pos h3, x1]
      · cases h
theorem first_two {rs : List Rl} {d : Dc} {o0 o1 : Oc} {t : List Oc} {k : Nat} {r : Rl} (hsel : sel d.nm d.ar (evs rs) = o0 :: o1 :: t) (h0 : o0.rule = k) (hr : rs[k]? = some r) (hi : (idem r).2 = true) (hd : dcEq (idem r).1 d = true) :
    o0.kept = false ∧ o1.kept = true := by
  obtain ⟨a, b, hka, hrb, hs, hid⟩ := idem_shape hi
  have hkl : k < rs.length := (List.getElem?_eq_some_iff.1 hr).1
  obtain ⟨tl, htl⟩ := evUpto_pre rs (k + 1) rs.length (by omega)
  have hnh : nh r = 2 := by unfold nh; rw [hka, hrb]; rfl
  have hB : evDown k r (nh r) = [ev k r 1, ev k r 0] := by rw [hnh]; simp [evDown, hnh]
  have e1 : evs rs = evUpto rs k ++ ([ev k r 1, ev k r 0] ++ tl) := by
    show evUpto rs rs.length = _
    rw [htl, evUpto_succ hr, hB, List.append_assoc]
  rw [e1, sel_app, sel_app] at hsel
  have hA : sel d.nm d.ar (evUpto rs k) = [] := by
    cases hc : sel d.nm d.ar (evUpto rs k) with
    | nil => rfl
    | cons z zs =>
      rw [hc, List.cons_append] at hsel
      have hz : z = o0 := by injection hsel
      have hm : z ∈ sel d.nm d.ar (evUpto rs k) := by rw [hc]; simp
      unfold sel at hm
      obtain ⟨x, hx, rfl⟩ := List.mem_map.1 hm
      have := evUpto_lt rs k x (List.mem_filter.1 hx).1
      rw [← hz] at h0
      have h2 : x.rule = (k : Int) := h0
      omega
  rw [hid] at hd
  unfold dcEq at hd
  simp only [Bool.and_eq_true, decide_eq_true_eq, beq_iff_eq] at hd
  have hsz := cmpA_zero.1 (by simpa [sameA] using hs)
  have hd0 : hdAt r 0 = a := by unfold hdAt; rw [hka, hrb]; rfl
  have hd1 : hdAt r 1 = b := by unfold hdAt; rw [hka, hrb]; rfl
  have t1 : hit d.nm d.ar (ev k r 1) = true := by
    unfold hit ev
    simp only [hd1, Bool.and_eq_true, decide_eq_true_eq, beq_iff_eq]
    exact ⟨by rw [← hd.1, hsz.1], by rw [← hd.2, hsz.2.1]⟩
  have t0 : hit d.nm d.ar (ev k r 0) = true := by
    unfold hit ev
    simp only [hd0, Bool.and_eq_true, decide_eq_true_eq, beq_iff_eq]
    exact ⟨hd.1, hd.2⟩
  have hBs : sel d.nm d.ar [ev k r 1, ev k r 0] = [oc (ev k r 1), oc (ev k r 0)] := by unfold sel; simp [t1, t0]
  rw [hA, hBs, List.nil_append] at hsel
  injection hsel with e0 hsel
  injection hsel with e1 _
  rw [← e0, ← e1]
  constructor
  · show decide (1 < r.kp.length) = false
    rw [hka]; rfl
  · show decide (0 < r.kp.length) = true
    rw [hka]; rfl
theorem isSetR_eq (rs : List Rl) (d : Dc) : isSetR rs d = isSet rs d := by
  by_cases hs : (sel d.nm d.ar (evs rs)).length < 2
  · rw [isSetR_short hs, isSet_short hs]
  · obtain ⟨o0, o1, t, hsel⟩ := two_of (l := sel d.nm d.ar (evs rs)) (by omega)
    rw [isSetR_two hsel, isSet_two hsel]
    obtain ⟨k, r, hk, hr⟩ := sel_rule (rs := rs) (nm := d.nm) (ar := d.ar) (o := o0) (by rw [hsel]; simp)
    have hr' : rs[o0.rule.toNat]? = some r := by rw [hk, Int.toNat_natCast]; exact hr
    by_cases hne : (o0.rule != o1.rule) = true
    · rw [if_pos hne, if_pos (by rw [hne]; rfl)]
    · have hne' : (o0.rule != o1.rule) = false := by simpa using hne
      rw [if_neg hne, hr', hne', Bool.false_or]
      simp only
      cases hi : (idem r).2 with
      | false => split <;> rfl
      | true =>
        cases hd : dcEq (idem r).1 d with
        | false => split <;> rfl
        | true =>
          obtain ⟨h0, h1⟩ := first_two hsel hk hr hi hd
          rw [h0, h1]; rfl
def setsR (rs : List Rl) (ds : List Dc) (k : Nat) : List Dc := (ds.take k).filter (isSetR rs)
theorem setsR_eq (rs : List Rl) (ds : List Dc) (k : Nat) : setsR rs ds k = setsU rs ds k := by
  unfold setsR setsU
  congr 1
  funext d
  exact isSetR_eq rs d
end Go.Proofs.Ytahhaiomdjlckaa
