/-
  Shifting variables, the variables of terms, plainly: a shift of a rule that is numbered from 0 on leaves alone what Idempotent says.
-/
import Derived.Test.YtahhaiomdjlckaaIdem
namespace Go.Proofs.Ytahhaiomdjlckaa
set_option linter.unusedVariables false
set_option linter.unusedSimpArgs false
open Go.RowKit

def sumI (n k : Int) : Int := if (0 < k ∧ 9223372036854775807 - k < n) ∨ (k < 0 ∧ n < -9223372036854775808 - k) then n else n + k
mutual
def shT (k : Int) : Tm → Tm
  | .mk kd it nm ts => if kd = 1 then .mk kd (sumI it k) nm ts else if kd = 2 then .mk kd it nm (shL k ts) else .mk kd it nm ts
def shL (k : Int) : List Tm → List Tm
  | [] => []
  | t :: ts => shT k t :: shL k ts
end
mutual
def szT : Tm → Nat
  | .mk _ _ _ ts => 1 + szL ts
def szL : List Tm → Nat
  | [] => 0
  | t :: ts => szT t + szL ts
end
mutual
def vsT (l : List Int) : Tm → List Int
  | .mk kd it _ ts => if kd = 1 then (if l.contains it then l else l ++ [it]) else if kd = 2 then vsL l ts else l
def vsL (l : List Int) : List Tm → List Int
  | [] => l
  | t :: ts => vsL (vsT l t) ts
end
mutual
/-- p holds of each variable. -/
def AllT (p : Int → Prop) : Tm → Prop
  | .mk kd it _ ts => (kd = 1 → p it) ∧ (kd = 2 → AllL p ts)
def AllL (p : Int → Prop) : List Tm → Prop
  | [] => True
  | t :: ts => AllT p t ∧ AllL p ts
end
theorem shL_len (k : Int) : ∀ l, (shL k l).length = l.length
  | [] => rfl
  | t :: ts => by simp [shL, shL_len k ts]
theorem shL_get (k : Int) : ∀ (l : List Tm) (i : Nat), (shL k l)[i]? = (l[i]?).map (shT k)
  | [], i => by simp [shL]
  | t :: ts, 0 => by simp [shL]
  | t :: ts, i + 1 => by simp [shL, shL_get k ts i]
theorem shT_kd (k : Int) (t : Tm) : (shT k t).kd = t.kd := by
  obtain ⟨kd, it, nm, ts⟩ := t
  unfold shT
  split
  · rfl
  · split <;> rfl
mutual
theorem AllT.mono {p q : Int → Prop} (h : ∀ x, p x → q x) : ∀ t, AllT p t → AllT q t
  | .mk kd it nm ts, ha => by
    unfold AllT at ha ⊢
    exact ⟨fun e => h _ (ha.1 e), fun e => AllL.mono h ts (ha.2 e)⟩
theorem AllL.mono {p q : Int → Prop} (h : ∀ x, p x → q x) : ∀ l, AllL p l → AllL q l
  | [], _ => by unfold AllL; trivial
  | t :: ts, ha => by
    unfold AllL at ha ⊢
    exact ⟨AllT.mono h t ha.1, AllL.mono h ts ha.2⟩
end
theorem AllL.get {p : Int → Prop} : ∀ {l : List Tm} {i : Nat} {t : Tm}, AllL p l → l[i]? = some t → AllT p t
  | t :: ts, 0, x, h, hx => by
    simp only [List.getElem?_cons_zero, Option.some.injEq] at hx
    subst hx
    unfold AllL at h; exact h.1
  | t :: ts, i + 1, x, h, hx => by
    unfold AllL at h
    exact AllL.get h.2 (by simpa using hx)
mutual
theorem vsT_sub : ∀ (t : Tm) (l : List Int) (x : Int), x ∈ l → x ∈ vsT l t
  | .mk kd it nm ts, l, x, h => by
    unfold vsT
    split
    · split
      · exact h
      · exact List.mem_append_left _ h
    · split
      · exact vsL_sub ts l x h
      · exact h
theorem vsL_sub : ∀ (ts : List Tm) (l : List Int) (x : Int), x ∈ l → x ∈ vsL l ts
  | [], l, x, h => by unfold vsL; exact h
  | t :: ts, l, x, h => by unfold vsL; exact vsL_sub ts _ x (vsT_sub t l x h)
end
mutual
theorem vsT_all : ∀ (t : Tm) (l : List Int), AllT (· ∈ vsT l t) t
  | .mk kd it nm ts, l => by
    unfold AllT
    refine ⟨fun e => ?_, fun e => ?_⟩
    · unfold vsT
      rw [if_pos e]
      split
      · rename_i h; simpa using h
      · simp
    · have h1 : vsT l (.mk kd it nm ts) = vsL l ts := by
        unfold vsT
        rw [if_neg (by omega), if_pos e]
      rw [h1]
      exact vsL_all ts l
theorem vsL_all : ∀ (ts : List Tm) (l : List Int), AllL (· ∈ vsL l ts) ts
  | [], l => by unfold AllL; trivial
  | t :: ts, l => by
    unfold AllL vsL
    exact ⟨AllT.mono (fun x hx => vsL_sub ts _ x hx) t (vsT_all t l), vsL_all ts _⟩
end
theorem vsL_app : ∀ (a : List Tm) (l : List Int) (b : List Tm), vsL l (a ++ b) = vsL (vsL l a) b
  | [], l, b => by simp [vsL]
  | t :: ts, l, b => by simp only [List.cons_append, vsL]; exact vsL_app ts _ b
theorem AllL.app {p : Int → Prop} : ∀ {a b : List Tm}, AllL p (a ++ b) → AllL p a ∧ AllL p b
  | [], b, h => ⟨by unfold AllL; trivial, h⟩
  | t :: ts, b, h => by
    rw [List.cons_append] at h
    unfold AllL at h
    have := AllL.app h.2
    exact ⟨by unfold AllL; exact ⟨h.1, this.1⟩, this.2⟩
/-- small enough to be shifted. -/
def Sm (x : Int) : Prop := -1000000000000 ≤ x ∧ x ≤ 1000000000000
theorem sumI_sm {x k : Int} (hx : Sm x) (hk : Sm k) : sumI x k = x + k := by
  unfold Sm at hx hk
  unfold sumI
  rw [if_neg (by omega)]
theorem cmpI_shift (a b k : Int) : cmpI (a + k) (b + k) = cmpI a b := by
  unfold cmpI
  by_cases h1 : a < b
  · rw [if_pos h1, if_pos (by omega)]
  · rw [if_neg h1, if_neg (by omega)]
    by_cases h2 : b < a
    · rw [if_pos h2, if_pos (by omega)]
    · rw [if_neg h2, if_neg (by omega)]
theorem rk_zero {k : Int} : rk k = 0 ↔ k = 1 := by
  unfold rk; split
  · simp [*]
  · split
    · simp [*]
    · split <;> simp [*]
theorem rk_two {k : Int} : rk k = 2 ↔ k = 2 := by
  unfold rk; split
  · rename_i h; simp [h]
  · split
    · rename_i h; simp [h]
    · split <;> simp [*]
mutual
theorem cmpT_shift (k : Int) (hk : Sm k) : ∀ (a b : Tm), AllT Sm a → AllT Sm b → cmpT (shT k a) (shT k b) = cmpT a b
  | .mk kd it nm ts, .mk kd' it' nm' ts', ha, hb => by
    unfold AllT at ha hb
    by_cases hr : cmpI (rk kd) (rk kd') = 0
    · have hr' := cmpI_zero.1 hr
      by_cases h1 : kd = 1
      · have h1' : kd' = 1 := rk_zero.1 (by rw [← hr']; exact rk_zero.2 h1)
        subst h1 h1'
        simp only [shT, if_true]
        have e : ∀ (i i' : Int) (n n' : ByteArray) (l l' : List Tm), cmpT (.mk 1 i n l) (.mk 1 i' n' l') = cmpI i i' := by
          intro i i' n n' l l'
          rw [cmpT, if_neg (by simp [hr]), if_pos (.inl (rk_zero.2 rfl))]
        rw [e, e, sumI_sm (ha.1 rfl) hk, sumI_sm (hb.1 rfl) hk, cmpI_shift]
      · have h1' : ¬ kd' = 1 := fun e => h1 (rk_zero.1 (by rw [hr']; exact rk_zero.2 e))
        by_cases h2 : kd = 2
        · have h2' : kd' = 2 := rk_two.1 (by rw [← hr']; exact rk_two.2 h2)
          subst h2 h2'
          simp only [shT, if_neg h1, if_true]
          rw [show cmpT (.mk 2 it nm (shL k ts)) (.mk 2 it' nm' (shL k ts')) = _ from by rw [cmpT], show cmpT (.mk 2 it nm ts) (.mk 2 it' nm' ts') = _ from by rw [cmpT], shL_len, shL_len, cmpL_shift k hk ts ts' (ha.2 rfl) (hb.2 rfl)]
        · have h2' : ¬ kd' = 2 := fun e => h2 (rk_two.1 (by rw [hr']; exact rk_two.2 e))
          simp only [shT, if_neg h1, if_neg h1', if_neg h2, if_neg h2']
    · have e1 : ∀ (i : Int) (n : ByteArray) (l : List Tm) (i' : Int) (n' : ByteArray) (l' : List Tm), cmpT (.mk kd i n l) (.mk kd' i' n' l') = cmpI (rk kd) (rk kd') := by
        intro i n l i' n' l'
        rw [cmpT, if_pos hr]
      rw [e1]
      simp only [shT]
      split <;> split <;> (try split) <;> (try split) <;> exact e1 _ _ _ _ _ _
theorem cmpL_shift (k : Int) (hk : Sm k) : ∀ (a b : List Tm), AllL Sm a → AllL Sm b → cmpL (shL k a) (shL k b) = cmpL a b
  | [], b, _, _ => by simp [shL, cmpL]
  | x :: l, [], _, _ => by simp [shL, cmpL]
  | x :: l, y :: m, ha, hb => by
    unfold AllL at ha hb
    simp only [shL, cmpL]
    rw [cmpT_shift k hk x y ha.1 hb.1, cmpL_shift k hk l m ha.2 hb.2]
end
end Go.Proofs.Ytahhaiomdjlckaa
