/-
  trace: word, applies, within, ranges, written: what they return.
-/
import Derived.Test.YtahhaiomdjlckaaDoorRead
import Derived.Test.YtahhaiomdjlckaaDoorMach
import Derived.Test.YtahhaiomdjlckaaDoorProg
namespace Go.Proofs.YtahhaiomdjlckaaDoor
set_option linter.unusedVariables false
set_option linter.unusedSimpArgs false
open Go.RowKit

/-- an event. -/
structure Ed where
  kd : Int
  id : Int
  oc : Int
  rl : Int
  ids : List Int
def evL (x : Ed) : List AV := [iv x.kd, iv x.id, iv x.oc, iv x.rl, ints x.ids]
def ev (x : Ed) : AV := .agg (evL x)
theorem iv_pure (i : Int) : Pure (iv i) := .v
theorem ev_pure (x : Ed) : Pure (ev x) := .agg (by
  intro a ha
  simp [evL] at ha
  rcases ha with rfl | rfl | rfl | rfl | rfl
  all_goals first | exact .v | exact ints_pure _)
def wordB (k : Int) : ByteArray :=
  if k = 1 then ⟨#[115, 111, 108, 118, 101]⟩ else if k = 2 then ⟨#[97, 99, 116, 105, 118, 97, 116, 101]⟩ else if k = 3 then ⟨#[114, 101, 97, 99, 116, 105, 118, 97, 116, 101]⟩
  else if k = 4 then ⟨#[115, 105, 109, 112, 108, 105, 102, 121]⟩ else if k = 5 then ⟨#[112, 114, 111, 112, 97, 103, 97, 116, 101]⟩ else if k = 6 then ⟨#[100, 101, 102, 97, 117, 108, 116]⟩
  else if k = 7 then ⟨#[100, 114, 111, 112]⟩ else ⟨#[]⟩
def appB (k : Int) : Bool := k == 4 || k == 5
def MI : Int := 2147483648
def outB (lo n : Int) : Bool := decide (n < lo) || decide (n > 2147483648)
def idxFrom (p : Int → Bool) : List Int → Int → Int
  | [], _ => -1
  | x :: xs, j => if p x then j else idxFrom p xs (j + 1)
theorem idxFrom_ge (p : Int → Bool) : ∀ (l : List Int) (j : Int), 0 ≤ j → decide (idxFrom p l j ≥ 0) = l.any p
  | [], j, h => by simp [idxFrom]
  | x :: xs, j, h => by
    simp only [idxFrom, List.any_cons]
    split
    · rename_i hp; simp [hp, h]
    · rename_i hp; rw [idxFrom_ge p xs (j + 1) (by omega)]; simp [hp]
section
variable {w0 : World}
set_option maxRecDepth 100000
theorem applies_p (k : Int) : PCal Tryd.prog w0 21 [iv k] (.v (.bool (appB k))) := by
  refine PCal.of_body Tryd.func21 rfl Tryd.call21 rfl (by simp [Tryd.ntmps21]) .v ?_
  unfold appB
  cases h1 : (k == 4) with
  | true => exact ⟨true, h1, Frz.refl _⟩
  | false => exact ⟨false, h1, _, rfl, Frz.refl _⟩
theorem word_p (k : Int) : PCal Tryd.prog w0 19 [iv k] (.v (.string (wordB k))) := by
  refine PCal.of_body Tryd.func19 rfl Tryd.call19 rfl (by simp [Tryd.ntmps19]) .v ?_
  by_cases h1 : k = 1
  · subst h1; exact ⟨true, rfl, Frz.refl _⟩
  refine ⟨false, by simp [h1], ?_⟩
  by_cases h2 : k = 2
  · subst h2; exact ⟨true, rfl, Frz.refl _⟩
  refine ⟨false, by simp [h2], ?_⟩
  by_cases h3 : k = 3
  · subst h3; exact ⟨true, rfl, Frz.refl _⟩
  refine ⟨false, by simp [h3], ?_⟩
  by_cases h4 : k = 4
  · subst h4; exact ⟨true, rfl, Frz.refl _⟩
  refine ⟨false, by simp [h4], ?_⟩
  by_cases h5 : k = 5
  · subst h5; exact ⟨true, rfl, Frz.refl _⟩
  refine ⟨false, by simp [h5], ?_⟩
  by_cases h6 : k = 6
  · subst h6; exact ⟨true, rfl, Frz.refl _⟩
  refine ⟨false, by simp [h6], ?_⟩
  by_cases h7 : k = 7
  · subst h7; exact ⟨true, rfl, Frz.refl _⟩
  refine ⟨false, by simp [h7], ?_⟩
  rw [show wordB k = ⟨#[]⟩ by simp [wordB, h1, h2, h3, h4, h5, h6, h7]]
  exact Frz.refl _
theorem within1_p (lo n : Int) : PCal Tryd.prog w0 46 [iv n, .ip [iv lo]] (.v (.bool (outB lo n))) := by
  refine PCal.of_body Tryd.func46 rfl Tryd.call46 rfl (by simp [Tryd.ntmps46]) .v ?_
  unfold outB
  cases h1 : decide (n < lo) with
  | true => exact ⟨true, h1, Frz.refl _⟩
  | false => exact ⟨false, h1, _, rfl, Frz.refl _⟩
theorem indexFunc_p (l : List Int) (hl : l.length ≤ 9223372036854775807) (g : FuncId) (first cap : List AV) (p : Int → Bool) (hf : ∀ a ∈ first ++ cap, Pure a) (hg : ∀ x, PCal Tryd.prog w0 g (first ++ [iv x] ++ cap) (.v (.bool (p x)))) :
    PCal Tryd.prog w0 55 [ints l, .fn (.func g) first cap] (iv (idxFrom p l 0)) := by
  refine PCal.of_body Tryd.func55 rfl Tryd.call55 rfl (by simp [Tryd.ntmps55]) .v ?_
  refine loopK (fun k α S => ∃ j : Nat, k = l.length - j ∧ j ≤ l.length ∧ idxFrom p l 0 = idxFrom p (l.drop j) j ∧ α.has [(0, ints l), (1, .fn (.func g) first cap), (7, iv l.length), (8, iv j)] ∧ α.df = [] ∧ S = Store.none_) ?_ l.length ⟨0, by simp, by simp, by simp, ⟨rfl, rfl, by simp [argF, ints, iv]; rfl, rfl, trivial⟩, rfl, rfl⟩
  rintro k α S ⟨j, rfl, hj, hp, hs, hd, rfl⟩
  refine awp.see _ _ hs hd ?_
  by_cases h2 : j < l.length
  · have e1 := List.getElem?_eq_getElem h2
    rw [List.drop_eq_getElem_cons h2, idxFrom] at hp
    refine ⟨true, by simp; omega, ?_⟩
    refine gotA.mk (idx_map rfl e1) ⟨ints_len, ?_⟩
    refine ⟨_, _, (hg l[j]).cal (fun a ha => ?_) _, ?_⟩
    · simp only [List.append_assoc, List.mem_append, List.mem_cons, List.not_mem_nil, or_false] at ha
      rcases ha with h | rfl | h
      · exact hf a (by simp [h])
      · exact .v
      · exact hf a (by simp [h])
    · by_cases hc : p l[j] = true
      · refine br.t hc ?_
        rw [if_pos hc] at hp
        rw [hp]
        exact Frz.refl _
      · refine br.f (by simpa using hc) ?_
        rw [if_neg hc] at hp
        refine ⟨(j : Int) + 1, wrap64 (by omega) (by omega), ?_⟩
        exact ⟨l.length - (j + 1), by omega, j + 1, rfl, by omega, by rw [hp]; simp, ⟨rfl, rfl, rfl, rfl, trivial⟩, rfl, rfl⟩
  · refine ⟨false, by simp; omega, ?_⟩
    rw [List.drop_eq_nil_of_le (by omega), idxFrom] at hp
    rw [hp]
    exact Frz.refl _
theorem contains_p (l : List Int) (hl : l.length ≤ 9223372036854775807) (g : FuncId) (first cap : List AV) (p : Int → Bool) (hf : ∀ a ∈ first ++ cap, Pure a) (hg : ∀ x, PCal Tryd.prog w0 g (first ++ [iv x] ++ cap) (.v (.bool (p x)))) :
    PCal Tryd.prog w0 45 [ints l, .fn (.func g) first cap] (.v (.bool (l.any p))) := by
  refine PCal.of_body Tryd.func45 rfl Tryd.call45 rfl (by simp [Tryd.ntmps45]) .v ?_
  refine ⟨_, _, (indexFunc_p l hl g first cap p hf hg).cal (fun a ha => ?_) _, ?_⟩
  · simp only [List.mem_cons, List.not_mem_nil, or_false] at ha
    rcases ha with rfl | rfl
    · exact ints_pure l
    · exact .fn (fun a h => hf a (by simp [h])) (fun a h => hf a (by simp [h]))
  rw [← idxFrom_ge p l 0 (by omega)]
  exact ⟨_, rfl, Frz.refl _⟩
theorem within_p (lo : Int) (l : List Int) (hl : l.length ≤ 9223372036854775807) : PCal Tryd.prog w0 38 [iv lo, ints l] (.v (.bool (!l.any (outB lo)))) := by
  refine PCal.of_body Tryd.func38 rfl Tryd.call38 rfl (by simp [Tryd.ntmps38]) .v ?_
  have hb : Pure (.ip [iv lo]) := .ip (by simp [iv_pure])
  refine ⟨_, _, (contains_p l hl 46 [] [.ip [iv lo]] (outB lo) (by simpa using hb) (fun x => within1_p lo x)).calz ⟨ints_pure l, .fn (by simp) (by simpa using hb), trivial⟩ .v
    ⟨.refl _, .fns trivial ⟨.box (k := 0) (cs := [iv lo]) rfl (Frzs.refl _ _), trivial⟩, trivial⟩, ?_⟩
  exact Frz.refl _
def rangesB (x : Ed) : Bool := x.kd == 1 || (!outB 1 x.id && !outB (-1) x.oc && !outB 0 x.rl && !x.ids.any (outB 1))
theorem within_one (lo n : Int) (b : Bool) (h : outB lo n = b) : PCal Tryd.prog w0 38 [iv lo, .sl false [irow n]] (.v (.bool (!b))) := by
  have := within_p (w0 := w0) lo [n] (by simp)
  rw [List.any_cons, List.any_nil, Bool.or_false, h] at this
  exact this
theorem sl1_pure (n : Int) : Pure (.sl false [irow n]) := ints_pure [n]
def writtenB (x : Ed) : Bool :=
  if ((wordB x.kd).toList == ByteArray.toList ⟨#[]⟩) || !rangesB x then false
  else if appB x.kd then decide (x.ids.length ≥ 1) && decide (x.ids.length ≤ 4)
  else if x.kd == 1 && (x.id != 0 || x.oc != 0) then false
  else x.rl == 0 && x.ids.length == 0
end
end Go.Proofs.YtahhaiomdjlckaaDoor
