/-
  A region that draws its order, reckoned in the order of the text.
-/
import Derived.Test.YtahhaiomdjlckaaDoorDraw3
namespace Go.Proofs.YtahhaiomdjlckaaDoor
set_option linter.unusedVariables false
set_option linter.unusedSimpArgs false
open Go.RowKit

section
variable {P : Program} {w0 : World} {n : Nat} {o : Oper} {α : AA} {S S' : Store} {r : AV} {ops : Array Oper}
/-- a call that leaves the store as it is. -/
def callD (P : Program) (w0 : World) (K : AV → Store → Prop) (S : Store) (args : List AV) : AV → Prop
  | .v (.func (.func g) first cap) => match first.toList, cap.toList with
    | [], [] => ∃ r, Cal P w0 g args S r S ∧ K r S
    | _, _ => False
  | .fn (.func g) first cap => ∃ r, Cal P w0 g (first ++ args ++ cap) S r S ∧ K r S
  | _ => False
def opD (P : Program) (w0 : World) (o : Op) (α : AA) (S : Store) (K : AV → Store → Prop) : Prop :=
  match o with
  | .call c => match c.callee with
    | .value f => callD P w0 K S (c.args.toList.map α.ev) (α.ev f)
    | _ => opK P w0 (.call c) α S K
  | o => opK P w0 o α S K
def dK (P : Program) (w0 : World) (n : Nat) (ops : Array Oper) : List Nat → (AA → Store → Prop) → AA → Store → Prop
  | [], Q, α, S => Q α S
  | i :: rest, Q, α, S => match ops[i]? with
    | none => False
    | some o => match (match o.dst with | some d => Nat.blt d n | none => true) with
      | true => match o.guard with
        | none => opD P w0 o.op α S fun r S' => dK P w0 n ops rest Q (α.put o.dst r) S'
        | some (j, want) => match ydA ops α j with
          | some (some b) => gd want b (opD P w0 o.op α S fun r S' => dK P w0 n ops rest Q (α.put o.dst r) S') (dK P w0 n ops rest Q (α.put o.dst (.v undef)) S)
          | some none => dK P w0 n ops rest Q (α.put o.dst (.v undef)) S
          | none => False
      | false => False
theorem opD_R {op : Op} {K : AV → Store → Prop} (hp : isP op = false) (hw : isW op = false) (h : opD P w0 op α S K) : ∃ r, K r S ∧ opK P w0 op α S (IsO r S) := by
  cases op with
  | load t x =>
    simp only [opD, opK, gotA] at h ⊢
    split at h
    · exact ⟨_, h, ⟨rfl, rfl⟩⟩
    · exact h.elim
  | call c =>
    simp only [isW] at hw
    simp only [opD] at h
    split at h
    · rename_i f hc
      unfold callD at h
      simp only [opK, hc]
      split at h
      · rename_i g first cap hf
        split at h
        · rename_i e1 e2
          obtain ⟨r, h1, h2⟩ := h
          refine ⟨r, h2, ?_⟩
          rw [hf]
          simp only [callK, e1, e2]
          exact ⟨r, S, h1, rfl, rfl⟩
        · exact h.elim
      · rename_i g first cap hf
        obtain ⟨r, h1, h2⟩ := h
        refine ⟨r, h2, ?_⟩
        rw [hf]
        exact ⟨r, S, h1, rfl, rfl⟩
      · exact h.elim
    · rename_i hc
      cases hb : c.callee with
      | value f => exact absurd hb (hc f)
      | builtin b => rw [hb] at hw; simp only [isP, hb] at hp; cases b <;> simp at hw hp
      | invoke x m => rw [hb] at hw; cases hw
  | _ => simp [isW, hp, isP] at hw hp
theorem opD_K {op : Op} {K : AV → Store → Prop} (h : opD P w0 op α S K) : opK P w0 op α S K := by
  cases op with
  | call c =>
    simp only [opD] at h
    split at h
    · rename_i f hc
      unfold callD at h
      simp only [opK, hc]
      split at h
      · rename_i g first cap hf
        split at h
        · rename_i e1 e2
          obtain ⟨r, h1, h2⟩ := h
          rw [hf]
          simp only [callK, e1, e2]
          exact ⟨r, S, h1, h2⟩
        · exact h.elim
      · rename_i g first cap hf
        obtain ⟨r, h1, h2⟩ := h
        rw [hf]
        exact ⟨r, S, h1, h2⟩
      · exact h.elim
    · exact h
  | _ => exact h
theorem only_sound {α : AA} {S : Store} {K : AV → Store → Prop} (h : opK P w0 o.op α S K) : ∃ r S', OpS P w0 n o (α.only (opr o)) S r S' ∧ K r S' :=
  opK_sound (opK_congr (β := α.only (opr o)) (fun x hx => (only_ev fun t e => opr_mem (by rw [← e]; exact hx)).symm) h)
theorem gs_of {i : Nat} {K : AV → Store → Prop} (hi : ops[i]? = some o) (hd : (match o.dst with | some d => Nat.blt d n | none => true) = true) (hg : o.guard = none ∨ ∃ j want, o.guard = some (j, want) ∧ ydA ops α j = some (some want)) (h : opD P w0 o.op α S K) :
    ∃ r S', GS P w0 n ops i α S (α.put o.dst r) S' ∧ K r S' := by
  cases hp : isP o.op with
  | true =>
    obtain ⟨r, h1, h2⟩ := opK_P hp (opD_K h)
    have h3 : ∀ T, OpS P w0 n o (α.only (opr o)) T r T := fun T => by
      obtain ⟨r', S', h4, rfl, rfl⟩ := only_sound (n := n) (h2 T)
      exact h4
    exact ⟨r, S, ⟨o, hi, hd, .inr ⟨hg, r, rfl, h3 S, fun _ => ⟨rfl, h3⟩, fun _ => rfl⟩⟩, h1⟩
  | false =>
    cases hw : isW o.op with
    | false =>
      obtain ⟨r, h1, h2⟩ := opD_R hp hw h
      obtain ⟨r', S', h4, rfl, rfl⟩ := only_sound (n := n) h2
      exact ⟨r', S', ⟨o, hi, hd, .inr ⟨hg, r', rfl, h4, fun h => (by rw [hp] at h; cases h), fun _ => rfl⟩⟩, h1⟩
    | true =>
      obtain ⟨r, S', h1, h2⟩ := only_sound (n := n) (opD_K h)
      exact ⟨r, S', ⟨o, hi, hd, .inr ⟨hg, r, rfl, h1, fun h => (by rw [hp] at h; cases h), fun h => (by rw [hw] at h; cases h)⟩⟩, h2⟩
theorem dK_der : ∀ {l : List Nat} {α : AA} {S : Store} {Q : AA → Store → Prop}, dK P w0 n ops l Q α S → ∃ α' S', Der P w0 n ops l α S α' S' ∧ Q α' S'
  | [], α, S, Q, h => ⟨α, S, .nil α S, h⟩
  | i :: rest, α, S, Q, h => by
    simp only [dK] at h
    split at h
    · exact h.elim
    · rename_i o hi
      split at h
      · rename_i hd
        split at h
        · rename_i hg
          obtain ⟨r, S1, h1, h2⟩ := gs_of hi hd (.inl hg) h
          obtain ⟨α', S', h3, h4⟩ := dK_der h2
          exact ⟨α', S', .cons h1 h3, h4⟩
        · rename_i j want hg
          split at h
          · rename_i b hb
            have go : b = want → opD P w0 o.op α S (fun r S' => dK P w0 n ops rest Q (α.put o.dst r) S') → ∃ α' S', Der P w0 n ops (i :: rest) α S α' S' ∧ Q α' S' := by
              intro e h
              obtain ⟨r, S1, h1, h2⟩ := gs_of hi hd (.inr ⟨j, want, hg, by rw [hb, e]⟩) h
              obtain ⟨α', S', h3, h4⟩ := dK_der h2
              exact ⟨α', S', .cons h1 h3, h4⟩
            have skip : b ≠ want → dK P w0 n ops rest Q (α.put o.dst (.v undef)) S → ∃ α' S', Der P w0 n ops (i :: rest) α S α' S' ∧ Q α' S' := by
              intro e h
              obtain ⟨α', S', h3, h4⟩ := dK_der h
              exact ⟨α', S', .cons ⟨o, hi, hd, .inl ⟨j, want, some b, hg, hb, fun e' => e (Option.some.inj e'), rfl, rfl⟩⟩ h3, h4⟩
            cases want <;> cases b
            · exact go rfl h
            · exact skip (by simp) h
            · exact skip (by simp) h
            · exact go rfl h
          · rename_i hb
            obtain ⟨α', S', h3, h4⟩ := dK_der h
            exact ⟨α', S', .cons ⟨o, hi, hd, .inl ⟨j, want, none, hg, hb, by simp, rfl, rfl⟩⟩ h3, h4⟩
          · exact h.elim
      · exact h.elim
/-- the same, in a form that is quick to reckon. -/
def dR (P : Program) (w0 : World) (n : Nat) (ops : List Oper) : List Oper → (AA → Store → Prop) → AA → Store → Prop
  | [], Q, α, S => Q α S
  | o :: rest, Q, α, S => match dstOk n o.dst with
    | true => match o.guard with
      | none => opD P w0 o.op α S fun r S' => putK n o.dst α r fun α' => dR P w0 n ops rest Q α' S'
      | some (j, want) => match ydL ops α j with
        | some (some b) => gd want b (opD P w0 o.op α S fun r S' => putK n o.dst α r fun α' => dR P w0 n ops rest Q α' S') (putK n o.dst α (.v undef) fun α' => dR P w0 n ops rest Q α' S)
        | some none => putK n o.dst α (.v undef) fun α' => dR P w0 n ops rest Q α' S
        | none => False
    | false => False
theorem dR_dK {Q : AA → Store → Prop} : ∀ {l : List Nat} {α : AA} {S : Store}, (∀ i ∈ l, i < ops.size) → dR P w0 n ops.toList (l.filterMap (ops[·]?)) Q α S = dK P w0 n ops l Q α S
  | [], α, S, _ => rfl
  | i :: rest, α, S, hl => by
    have ih : ∀ (α' : AA) (S' : Store), dR P w0 n ops.toList (rest.filterMap (ops[·]?)) Q α' S' = dK P w0 n ops rest Q α' S' := fun α' S' => dR_dK fun j hj => hl j (by simp [hj])
    simp only [dK]
    cases hi : ops[i]? with
    | none =>
      have := hl i (by simp)
      rw [Array.getElem?_eq_getElem this] at hi
      cases hi
    | some o =>
      rw [List.filterMap_cons, hi]
      simp only [dR, ydL_eq, putK_eq, ih]
      rfl
/-- a region that draws its order. -/
theorem drawK {id : Nat} {R : AA → Store → Prop} (hok : (P.follows .mixedOrders && drawOk ops) = true) (h : dR P w0 n ops.toList ops.toList R α S) : ∃ α' S', Big P w0 n (.region id ops true) α S .normal α' S' ∧ R α' S' := by
  simp only [Bool.and_eq_true] at hok
  have e := dR_dK (P := P) (w0 := w0) (n := n) (ops := ops) (Q := R) (l := List.range ops.size) (α := α) (S := S) (fun i hi => by simpa using hi)
  rw [toList_filterMap] at e
  rw [e] at h
  obtain ⟨α', S', h1, h2⟩ := dK_der h
  exact ⟨α', S', Big.draw hok.1 hok.2 h1, h2⟩
end
end Go.Proofs.YtahhaiomdjlckaaDoor
