/-
  The walk of the examples that each statement of the layer asks: first part: the rule, the sets.
-/
import Derived.Test.YtahhaiomdjlckaaW24
import Derived.Test.YtahhaiomdjlckaaW13
import Derived.Test.YtahhaiomdjlckaaW14
namespace Go.Proofs.Ytahhaiomdjlckaa
set_option linter.unusedVariables false
set_option linter.unusedSimpArgs false
open Go.RowKit

def leqD : Dc := ⟨leqS, 2⟩
theorem idem_ex : idem exRl = (leqD, true) := by
  have h1 : sameA (xa exRl.kp 0) (xa exRl.rm 0) = true := sameA_refl exAt
  unfold idem
  rw [if_neg (by decide), if_neg (by rw [h1]; simp [exRl]), if_pos (by decide)]
  rfl
theorem sets_ex : setsU [exRl] [leqD] 1 = [leqD] := by
  have h : isSet [exRl] leqD = true := by
    have e : sel leqD.nm leqD.ar (evs [exRl]) = [⟨0, 1, false⟩, ⟨0, 0, true⟩] := by rfl
    unfold isSet
    rw [e]
    simp [idem_ex, dcEq]
  simp [setsU, h]
theorem exOk : RsOk [exRl] := ⟨by simp, fun r hr => by
  simp only [List.mem_singleton] at hr
  subst hr
  simp [nh, exRl]⟩
theorem dc_sl {W : World} {b : Nat} {d : Dc} (h : W.heap[b]? = some (.cells #[.string d.nm, .int .i64 d.ar] 29 (0, 0))) (h1 : d.nm.size ≤ maxLen) (h2 : I64 d.ar) : SlAt DcAt 2 W (some ⟨b, 0, none⟩) [d] := by
  refine ⟨by simp [maxLen], fun k x hx => ?_⟩
  match k, hx with
  | 0, hx =>
    simp only [List.getElem?_cons_zero, Option.some.injEq] at hx
    subst hx
    exact ⟨b, 0, rfl, lt_of_block h, ⟨by rw [cell_of_row _ _ _ _ _ _ h]; rfl, h1⟩, by rw [cell_of_row _ _ _ _ _ _ h]; rfl, h2⟩
  | k + 1, hx => simp at hx
theorem rl_sl {W : World} {b : Nat} {r : Rl} {kA rA gA bA : Option Addr} {kc rc gc bc : Nat} (h : W.heap[b]? = some (.cells #[.string r.nm, .slice kA r.kp.length kc, .slice rA r.rm.length rc, .slice gA r.gd.length gc, .slice bA r.bd.length bc, .int .i64 r.vs] 25 (0, 0)))
    (h0 : r.nm.size ≤ maxLen) (h1 : SlAt AtAt 2 W kA r.kp) (h2 : SlAt AtAt 2 W rA r.rm) (h3 : SlAt GlAt 3 W gA r.gd) (h4 : SlAt GlAt 3 W bA r.bd) (h5 : I64 r.vs) : SlAt RlAt 6 W (some ⟨b, 0, none⟩) [r] := by
  refine ⟨by simp [maxLen], fun k x hx => ?_⟩
  match k, hx with
  | 0, hx =>
    simp only [List.getElem?_cons_zero, Option.some.injEq] at hx
    subst hx
    exact ⟨b, 0, rfl, lt_of_block h, ⟨by rw [cell_of_row _ _ _ _ _ _ h]; rfl, h0⟩, ⟨kA, kc, by rw [cell_of_row _ _ _ _ _ _ h]; rfl, h1⟩, ⟨rA, rc, by rw [cell_of_row _ _ _ _ _ _ h]; rfl, h2⟩, ⟨gA, gc, by rw [cell_of_row _ _ _ _ _ _ h]; rfl, h3⟩, ⟨bA, bc, by rw [cell_of_row _ _ _ _ _ _ h]; rfl, h4⟩, by rw [cell_of_row _ _ _ _ _ _ h]; rfl, h5⟩
  | k + 1, hx => simp at hx
theorem ex_sl {W : World} {b c : Nat} {A : Option Addr} (h : W.heap[b]? = some (.cells #[.string ⟨#[]⟩, .slice A 1 c, .slice A 1 c, .slice none 0 0, .slice none 0 0, .int .i64 2] 25 (0, 0))) (h1 : SlAt AtAt 2 W A exRl.kp) : SlAt RlAt 6 W (some ⟨b, 0, none⟩) [exRl] :=
  rl_sl (r := exRl) h (by show 0 ≤ _; omega) h1 h1 SlAt.nil SlAt.nil (by unfold I64 exRl; simp)

theorem rule_ex (w : World) : Calls Try.prog 33 #[] w fun e w' => ∃ A c, e = .returned (.agg #[.string ⟨#[]⟩, .slice A 1 c, .slice A 1 c, .slice none 0 0, .slice none 0 0, .int .i64 2]) ∧ SlAt AtAt 2 w' A exRl.kp ∧ Below w.heap.size w w' :=
  (rule_any w).mono fun e w' ⟨⟨A, c, he, hs⟩, hb⟩ => ⟨A, c, he, hs, hb⟩
theorem idem_call (A : Option Addr) (c : Nat) (w : World) (h : SlAt AtAt 2 w A exRl.kp) : Calls Try.prog 7 #[.agg #[.string ⟨#[]⟩, .slice A 1 c, .slice A 1 c, .slice none 0 0, .slice none 0 0, .int .i64 2]] w fun e w' => e = .returned (.tuple #[.agg #[.string ⟨#[108, 101, 113]⟩, .int .i64 2], .bool true]) ∧ Below w.heap.size w w' := by
  have := idem_any exRl A A none none c c 0 0 w h h SlAt.nil SlAt.nil
  rw [idem_ex] at this
  exact this
theorem sets_call (b d : Nat) (w : World) (h1 : SlAt DcAt 2 w (some ⟨d, 0, none⟩) [leqD]) (h2 : SlAt RlAt 6 w (some ⟨b, 0, none⟩) [exRl]) : Calls Try.prog 13 #[.agg #[.slice (some ⟨d, 0, none⟩) 1 1, .slice (some ⟨b, 0, none⟩) 1 1]] w fun e w' => ∃ A c, e = .returned (.slice A 1 c) ∧ SlAt DcAt 2 w' A [leqD] ∧ Below w.heap.size w w' := by
  refine (sets_any (some ⟨d, 0, none⟩) (some ⟨b, 0, none⟩) 1 1 [leqD] [exRl] w h1 h2 exOk (by simp)).mono ?_
  rintro e w' ⟨v, rfl, hown, hb⟩
  rw [show ([leqD] : List Dc).length = 1 from rfl, sets_ex] at hown
  obtain ⟨A, c, rfl, hs⟩ := hown.form (RAt := DcAt) (by decide) (fun b o cs x _ hc hr => RDc.at_ b o cs x hc hr)
  exact ⟨A, c, rfl, hs, hb⟩

def exP : At := ⟨⟨#[112]⟩, []⟩
def exQ : At := ⟨⟨#[113]⟩, []⟩
def exItems : List It := [⟨1, exP⟩, ⟨4, exQ⟩, ⟨6, exP⟩]
theorem pq : sameA exP exQ = false := by
  cases h : sameA exP exQ with
  | false => rfl
  | true =>
    have h1 := (cmpA_zero.1 (by simpa [sameA] using h)).1
    exact absurd h1 (by decide)
theorem qp : sameA exQ exP = false := by
  cases h : sameA exQ exP with
  | false => rfl
  | true => rw [← pq]; exact (sameA_symm h).symm
theorem twc_ex : twc exItems 3 = [6] := by simp [twc, agn, exItems, pq, qp, sameA_refl]
theorem mrg_ex : mrg [exP, exQ, exP] 3 = [exP, exQ] := by simp [mrg, agn, pq, qp, sameA_refl]
theorem at_nil {W : World} {b o : Nat} {x : At} {c : Nat} (h0 : W.cell? ⟨b, o, none⟩ = some (.string x.nm)) (h1 : W.cell? ⟨b, o + 1, none⟩ = some (.slice none 0 c)) (hx : x.ts = []) (hs : x.nm.size ≤ maxLen) : AtAt W b o x :=
  ⟨⟨h0, hs⟩, none, c, by rw [hx]; exact h1, by rw [hx]; exact SlAt.nil⟩
theorem items_sl {W : World} {b : Nat} (h : W.heap[b]? = some (.cells #[.int .i64 1, .string ⟨#[112]⟩, .slice none 0 0, .int .i64 4, .string ⟨#[113]⟩, .slice none 0 0, .int .i64 6, .string ⟨#[112]⟩, .slice none 0 0] 54 (0, 0))) : SlAt ItAt 3 W (some ⟨b, 0, none⟩) exItems := by
  have e : ∀ o, W.cell? ⟨b, o, none⟩ = _ := fun o => cell_of_row _ _ o _ _ _ h
  have one : ∀ {x : At}, x.nm = ⟨#[112]⟩ ∨ x.nm = ⟨#[113]⟩ → x.nm.size ≤ maxLen := by rintro x (h | h) <;> rw [h] <;> (show 1 ≤ _; unfold maxLen; omega)
  refine ⟨by simp [exItems, maxLen], fun k x hx => ?_⟩
  match k, hx with
  | 0, hx =>
    simp only [exItems, List.getElem?_cons_zero, Option.some.injEq] at hx
    subst hx
    exact ⟨b, 0, rfl, lt_of_block h, ⟨e 0, by unfold I64; simp⟩, at_nil (e 1) (e 2) rfl (one (.inl rfl))⟩
  | 1, hx =>
    simp only [exItems, List.getElem?_cons_zero, List.getElem?_cons_succ, Option.some.injEq] at hx
    subst hx
    exact ⟨b, 0, rfl, lt_of_block h, ⟨e 3, by unfold I64; simp⟩, at_nil (e 4) (e 5) rfl (one (.inr rfl))⟩
  | 2, hx =>
    simp only [exItems, List.getElem?_cons_zero, List.getElem?_cons_succ, Option.some.injEq] at hx
    subst hx
    exact ⟨b, 0, rfl, lt_of_block h, ⟨e 6, by unfold I64; simp⟩, at_nil (e 7) (e 8) rfl (one (.inl rfl))⟩
  | k + 3, hx => simp [exItems] at hx
theorem ats_sl {W : World} {b : Nat} (h : W.heap[b]? = some (.cells #[.string ⟨#[112]⟩, .slice none 0 0, .string ⟨#[113]⟩, .slice none 0 0, .string ⟨#[112]⟩, .slice none 0 0] 52 (0, 0))) : SlAt AtAt 2 W (some ⟨b, 0, none⟩) [exP, exQ, exP] := by
  have e : ∀ o, W.cell? ⟨b, o, none⟩ = _ := fun o => cell_of_row _ _ o _ _ _ h
  have one : ∀ {x : At}, x.nm = ⟨#[112]⟩ ∨ x.nm = ⟨#[113]⟩ → x.nm.size ≤ maxLen := by rintro x (h | h) <;> rw [h] <;> (show 1 ≤ _; unfold maxLen; omega)
  refine ⟨by simp [maxLen], fun k x hx => ?_⟩
  match k, hx with
  | 0, hx =>
    simp only [List.getElem?_cons_zero, Option.some.injEq] at hx
    subst hx
    exact ⟨b, 0, rfl, lt_of_block h, at_nil (e 0) (e 1) rfl (one (.inl rfl))⟩
  | 1, hx =>
    simp only [List.getElem?_cons_zero, List.getElem?_cons_succ, Option.some.injEq] at hx
    subst hx
    exact ⟨b, 0, rfl, lt_of_block h, at_nil (e 2) (e 3) rfl (one (.inr rfl))⟩
  | 2, hx =>
    simp only [List.getElem?_cons_zero, List.getElem?_cons_succ, Option.some.injEq] at hx
    subst hx
    exact ⟨b, 0, rfl, lt_of_block h, at_nil (e 4) (e 5) rfl (one (.inl rfl))⟩
  | k + 3, hx => simp at hx
theorem six_sl {W : World} {b : Nat} (h : W.heap[b]? = some (.cells #[.int .i64 6] 3 (0, 0))) : SlAt IntAt 1 W (some ⟨b, 0, none⟩) [6] := by
  refine ⟨by simp [maxLen], fun k x hx => ?_⟩
  match k, hx with
  | 0, hx =>
    simp only [List.getElem?_cons_zero, Option.some.injEq] at hx
    subst hx
    exact ⟨b, 0, rfl, lt_of_block h, cell_of_one h, by unfold I64; simp⟩
  | k + 1, hx => simp at hx
theorem twice_call (b : Nat) (w : World) (h : SlAt ItAt 3 w (some ⟨b, 0, none⟩) exItems) : Calls Try.prog 18 #[.slice (some ⟨b, 0, none⟩) 3 3] w fun e w' => ∃ A c, e = .returned (.slice A 1 c) ∧ SlAt IntAt 1 w' A [6] ∧ Below w.heap.size w w' := by
  refine (twice_any exItems (some ⟨b, 0, none⟩) 3 w h (by simp [exItems])).mono ?_
  rintro e w' ⟨v, rfl, hown, hb⟩
  rw [show exItems.length = 3 from rfl, twc_ex] at hown
  obtain ⟨A, c, rfl, hs⟩ := hown.form (RAt := IntAt) (by decide) (fun b o cs x _ hc hr => RI.at_ b o cs x hc hr)
  exact ⟨A, c, rfl, hs, hb⟩
theorem merge_call (b : Nat) (w : World) (h : SlAt AtAt 2 w (some ⟨b, 0, none⟩) [exP, exQ, exP]) : Calls Try.prog 19 #[.slice (some ⟨b, 0, none⟩) 3 3] w fun e w' => ∃ A c, e = .returned (.slice A 2 c) ∧ Below w.heap.size w w' := by
  refine (merge_any [exP, exQ, exP] (some ⟨b, 0, none⟩) 3 w h (by simp)).mono ?_
  rintro e w' ⟨v, rfl, hown, hb⟩
  rw [show ([exP, exQ, exP] : List At).length = 3 from rfl, mrg_ex] at hown
  obtain ⟨A, c, rfl⟩ := hown.shape
  exact ⟨A, c, rfl, hb⟩
end Go.Proofs.Ytahhaiomdjlckaa
