/-
  Comparison of terms and constraints as functions, and equality up to comparison.
-/
import Derived.Test.YtahhaiomdjlckaaRep
namespace Go.Proofs.Ytahhaiomdjlckaa
set_option linter.unusedVariables false
set_option linter.unusedSimpArgs false

def cmpI (a b : Int) : Int := if a < b then -1 else if b < a then 1 else 0
def cmpS (a b : ByteArray) : Int := if Op.bytesLess a.toList b.toList then -1 else if Op.bytesLess b.toList a.toList then 1 else 0
def rk (k : Int) : Int := if k = 1 then 0 else if k = 0 then 1 else if k = 2 then 2 else 3
def orI (a b : Int) : Int := if a ≠ 0 then a else b
mutual
def cmpT : Tm → Tm → Int
  | .mk k i n l, .mk k' i' n' l' =>
    if cmpI (rk k) (rk k') ≠ 0 then cmpI (rk k) (rk k')
    else if rk k = 0 ∨ rk k = 1 then cmpI i i'
    else if rk k = 2 then
      (if cmpI l.length l'.length ≠ 0 then cmpI l.length l'.length else if cmpS n n' ≠ 0 then cmpS n n' else cmpL l l')
    else orI (cmpI k k') (orI (cmpI i i') (cmpS n n'))
def cmpL : List Tm → List Tm → Int
  | [], _ => 0
  | _ :: _, [] => 0
  | x :: l, y :: m => if cmpT x y ≠ 0 then cmpT x y else cmpL l m
end
def cmpA (a b : At) : Int := orI (orI (cmpS a.nm b.nm) (cmpI a.ts.length b.ts.length)) (cmpL a.ts b.ts)
def sameA (a b : At) : Bool := cmpA a b == 0

theorem cmpI_zero {a b : Int} : cmpI a b = 0 ↔ a = b := by
  unfold cmpI; repeat' split
  all_goals omega
theorem orI_zero {a b : Int} : orI a b = 0 ↔ a = 0 ∧ b = 0 := by
  unfold orI; split <;> omega

theorem less_irrefl : ∀ l : List UInt8, Op.bytesLess l l = false
  | [] => rfl
  | a :: l => by simp [Op.bytesLess, less_irrefl l]
theorem less_eq : ∀ {l m : List UInt8}, Op.bytesLess l m = false → Op.bytesLess m l = false → l = m
  | [], [], _, _ => rfl
  | [], b :: m, h, _ => by simp [Op.bytesLess] at h
  | a :: l, [], _, h => by simp [Op.bytesLess] at h
  | a :: l, b :: m, h, h' => by
    simp only [Op.bytesLess, Bool.or_eq_false_iff, decide_eq_false_iff_not, Bool.and_eq_false_iff, beq_eq_false_iff_ne, UInt8.lt_iff_toNat_lt] at h h'
    have hab : a = b := UInt8.toNat_inj.1 (by omega)
    subst hab
    rw [less_eq (h.2.resolve_left (by simp)) (h'.2.resolve_left (by simp))]
theorem ba_ext {a b : ByteArray} (h : a.toList = b.toList) : a = b := by
  rw [ByteArray.toList_eq, ByteArray.toList_eq] at h
  ext1
  exact Array.toList_inj.1 h
theorem cmpS_zero {a b : ByteArray} : cmpS a b = 0 ↔ a = b := by
  unfold cmpS
  constructor
  · intro h
    split at h
    · omega
    · split at h
      · omega
      · rename_i h1 h2
        exact ba_ext (less_eq (by simpa using h1) (by simpa using h2))
  · rintro rfl
    simp [less_irrefl]
theorem rk_range (k : Int) : rk k = 0 ∨ rk k = 1 ∨ rk k = 2 ∨ rk k = 3 := by
  unfold rk; repeat' split
  all_goals omega
theorem cmpT_zero {k i : Int} {n : ByteArray} {l : List Tm} {k' i' : Int} {n' : ByteArray} {l' : List Tm} :
    cmpT (.mk k i n l) (.mk k' i' n' l') = 0 ↔ rk k = rk k' ∧ (rk k = 0 ∨ rk k = 1 → i = i') ∧ (rk k = 2 → l.length = l'.length ∧ n = n' ∧ cmpL l l' = 0) ∧ (rk k = 3 → k = k' ∧ i = i' ∧ n = n') := by
  have hr := rk_range k
  rw [cmpT]
  by_cases h0 : cmpI (rk k) (rk k') = 0
  · rw [if_neg (by simp [h0])]
    rw [cmpI_zero] at h0
    rcases hr with h | h | h | h
    · simp [h, ← h0, cmpI_zero]
    · simp [h, ← h0, cmpI_zero]
    · rw [if_neg (by omega), if_pos h]
      by_cases h1 : cmpI l.length l'.length = 0
      · rw [if_neg (by simp [h1])]
        rw [cmpI_zero] at h1
        by_cases h2 : cmpS n n' = 0
        · rw [if_neg (by simp [h2])]
          rw [cmpS_zero] at h2
          constructor
          · intro hh; exact ⟨h0, fun hc => by omega, fun _ => ⟨by omega, h2, hh⟩, fun hc => by omega⟩
          · intro hh; exact (hh.2.2.1 h).2.2
        · rw [if_pos h2]
          constructor
          · intro hh; exact absurd hh h2
          · intro hh; exact absurd (cmpS_zero.2 (hh.2.2.1 h).2.1) h2
      · rw [if_pos h1]
        constructor
        · intro hh; exact absurd hh h1
        · intro hh; exact absurd (cmpI_zero.2 (by have := (hh.2.2.1 h).1; omega)) h1
    · rw [if_neg (by omega), if_neg (by omega), orI_zero, orI_zero, cmpI_zero, cmpI_zero, cmpS_zero]
      constructor
      · intro hh; exact ⟨h0, fun hc => by omega, fun hc => by omega, fun _ => hh⟩
      · intro hh; exact hh.2.2.2 h
  · rw [if_pos h0]
    constructor
    · intro h; exact absurd h h0
    · intro h; exact absurd (cmpI_zero.2 h.1) h0
theorem cmpL_zero : ∀ {l m : List Tm}, cmpL l m = 0 ↔ ∀ (i : Nat) (x y : Tm), l[i]? = some x → m[i]? = some y → cmpT x y = 0
  | [], m => by simp [cmpL]
  | x :: l, [] => by simp [cmpL]
  | x :: l, y :: m => by
    rw [cmpL]
    by_cases h : cmpT x y = 0
    · rw [if_neg (by simp [h]), cmpL_zero]
      constructor
      · intro hh i a b ha hb
        cases i with
        | zero =>
          simp only [List.getElem?_cons_zero, Option.some.injEq] at ha hb
          subst ha hb; exact h
        | succ i => exact hh i a b (by simpa using ha) (by simpa using hb)
      · intro hh i a b ha hb
        exact hh (i + 1) a b (by simpa using ha) (by simpa using hb)
    · rw [if_pos h]
      exact ⟨fun h' => absurd h' h, fun hh => absurd (hh 0 x y rfl rfl) h⟩
theorem cmpT_refl : ∀ (n : Nat) (a : Tm), SizeOf.sizeOf a ≤ n → cmpT a a = 0
  | 0, .mk k i nm l, h => by simp at h
  | n + 1, .mk k i nm l, h => by
    rw [cmpT_zero]
    refine ⟨rfl, fun _ => rfl, fun _ => ⟨rfl, rfl, cmpL_zero.2 fun j x y hx hy => ?_⟩, fun _ => ⟨rfl, rfl, rfl⟩⟩
    rw [hx] at hy
    obtain rfl := Option.some.inj hy
    have := List.sizeOf_lt_of_mem (List.mem_of_getElem? hx)
    exact cmpT_refl n x (by simp at h; omega)
theorem cmpT_symm : ∀ (n : Nat) (a b : Tm), SizeOf.sizeOf a ≤ n → cmpT a b = 0 → cmpT b a = 0
  | 0, .mk k i nm l, _, h, _ => by simp at h
  | n + 1, .mk k i nm l, .mk k' i' nm' l', h, h0 => by
    rw [cmpT_zero] at h0 ⊢
    obtain ⟨h1, h2, h3, h4⟩ := h0
    refine ⟨h1.symm, fun hh => (h2 (by omega)).symm, fun hh => ?_, fun hh => ?_⟩
    · obtain ⟨g1, g2, g3⟩ := h3 (by omega)
      refine ⟨g1.symm, g2.symm, cmpL_zero.2 fun j x y hx hy => ?_⟩
      have := List.sizeOf_lt_of_mem (List.mem_of_getElem? hy)
      exact cmpT_symm n y x (by simp at h; omega) (cmpL_zero.1 g3 j y x hy hx)
    · obtain ⟨g1, g2, g3⟩ := h4 (by omega)
      exact ⟨g1.symm, g2.symm, g3.symm⟩
theorem cmpT_trans : ∀ (n : Nat) (a b c : Tm), SizeOf.sizeOf a ≤ n → cmpT a b = 0 → cmpT b c = 0 → cmpT a c = 0
  | 0, .mk k i nm l, _, _, h, _, _ => by simp at h
  | n + 1, .mk k i nm l, .mk k' i' nm' l', .mk k'' i'' nm'' l'', h, h0, h0' => by
    rw [cmpT_zero] at h0 h0' ⊢
    obtain ⟨h1, h2, h3, h4⟩ := h0
    obtain ⟨g1, g2, g3, g4⟩ := h0'
    refine ⟨h1.trans g1, fun hh => (h2 hh).trans (g2 (by omega)), fun hh => ?_, fun hh => ?_⟩
    · obtain ⟨p1, p2, p3⟩ := h3 hh
      obtain ⟨q1, q2, q3⟩ := g3 (by omega)
      refine ⟨p1.trans q1, p2.trans q2, cmpL_zero.2 fun j x z hx hz => ?_⟩
      have hj : j < l'.length := by
        have := (List.getElem?_eq_some_iff.1 hx).1; omega
      have hy : l'[j]? = some l'[j] := List.getElem?_eq_getElem hj
      have := List.sizeOf_lt_of_mem (List.mem_of_getElem? hx)
      exact cmpT_trans n x _ z (by simp at h; omega) (cmpL_zero.1 p3 j x _ hx hy) (cmpL_zero.1 q3 j _ z hy hz)
    · obtain ⟨p1, p2, p3⟩ := h4 hh
      obtain ⟨q1, q2, q3⟩ := g4 (by omega)
      exact ⟨p1.trans q1, p2.trans q2, p3.trans q3⟩
theorem cmpA_zero {a b : At} : cmpA a b = 0 ↔ a.nm = b.nm ∧ a.ts.length = b.ts.length ∧ cmpL a.ts b.ts = 0 := by
  unfold cmpA
  rw [orI_zero, orI_zero, cmpS_zero, cmpI_zero]
  constructor
  · rintro ⟨⟨h1, h2⟩, h3⟩; exact ⟨h1, by omega, h3⟩
  · rintro ⟨h1, h2, h3⟩; exact ⟨⟨h1, by omega⟩, h3⟩
theorem sameA_refl (a : At) : sameA a a = true := by
  unfold sameA
  rw [beq_iff_eq, cmpA_zero]
  refine ⟨rfl, rfl, cmpL_zero.2 fun i x y hx hy => ?_⟩
  rw [hx] at hy
  obtain rfl := Option.some.inj hy
  exact cmpT_refl _ _ (Nat.le_refl _)
theorem sameA_symm {a b : At} (h : sameA a b = true) : sameA b a = true := by
  unfold sameA at h ⊢
  rw [beq_iff_eq, cmpA_zero] at h ⊢
  exact ⟨h.1.symm, h.2.1.symm, cmpL_zero.2 fun i x y hx hy => cmpT_symm _ _ _ (Nat.le_refl _) (cmpL_zero.1 h.2.2 i y x hy hx)⟩
theorem sameA_trans {a b c : At} (h : sameA a b = true) (h' : sameA b c = true) : sameA a c = true := by
  unfold sameA at h h' ⊢
  rw [beq_iff_eq, cmpA_zero] at h h' ⊢
  refine ⟨h.1.trans h'.1, h.2.1.trans h'.2.1, cmpL_zero.2 fun i x z hx hz => ?_⟩
  have hj : i < b.ts.length := by
    have := (List.getElem?_eq_some_iff.1 hx).1; have := h.2.1; omega
  have hy : b.ts[i]? = some b.ts[i] := List.getElem?_eq_getElem hj
  exact cmpT_trans _ _ _ _ (Nat.le_refl _) (cmpL_zero.1 h.2.2 i x _ hx hy) (cmpL_zero.1 h'.2.2 i _ z hy hz)
end Go.Proofs.Ytahhaiomdjlckaa
