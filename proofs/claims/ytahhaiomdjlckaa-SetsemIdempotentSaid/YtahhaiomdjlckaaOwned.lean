/-
  Slices that a call owns, element by element; what merging and finding repeated constraints is.
-/
import Derived.Test.YtahhaiomdjlckaaReads
import Derived.Test.YtahhaiomdjlckaaCmpPlain
import Derived.Laws.AppendOwn
namespace Go.Proofs.Ytahhaiomdjlckaa
set_option linter.unusedVariables false
set_option linter.unusedSimpArgs false
open Go.RowKit

section
variable {α : Type}
/-- a slice that the call owns (made since the world w0), whose elements read as l; what the elements name lies in w0. -/
def Owned (R : World → List Value → α → Prop) (t : TypeId) (sz : Nat) (w0 w : World) (v : Value) (l : List α) : Prop :=
  ∃ css : List (List Value), css.length = l.length ∧ (∀ c ∈ css, c.length = sz) ∧ (∀ (k : Nat) (x : α) (cs : List Value), l[k]? = some x → css[k]? = some cs → R w0 cs x) ∧ w.ownsRow w0.heap.size t sz v l.length css.flatten
variable {R : World → List Value → α → Prop} {t : TypeId} {sz : Nat} {w0 w w' : World} {v v' : Value} {l : List α}
theorem Owned.nil : Owned R t sz w0 w (.slice none 0 0) [] :=
  ⟨[], rfl, by simp, by simp, by simp [World.ownsRow]⟩
theorem Owned.below (h : Owned R t sz w0 w v l) (hb : Below w.heap.size w w') : Owned R t sz w0 w' v l := by
  obtain ⟨css, h1, h2, h3, h4⟩ := h
  exact ⟨css, h1, h2, h3, World.ownsRow.kept (row := none) h4 ⟨hb.os, hb.tape, hb.output, hb.size, fun i hi _ => hb.block i hi⟩ (by cases v.ownBlock <;> simp)⟩
theorem flatten_at (hsz : 0 < sz) : ∀ (css : List (List Value)) (k : Nat) (cs : List Value), (∀ c ∈ css, c.length = sz) → css[k]? = some cs → ∀ j, j < sz → css.flatten[k * sz + j]? = cs[j]?
  | [], k, cs, _, h, _, _ => by simp at h
  | x :: css, 0, cs, hl, h, j, hj => by
    simp only [List.getElem?_cons_zero, Option.some.injEq] at h
    subst h
    have := hl x (by simp)
    rw [List.flatten_cons, List.getElem?_append_left (by omega)]
    simp
  | x :: css, k + 1, cs, hl, h, j, hj => by
    have := hl x (by simp)
    have ih := flatten_at hsz css k cs (fun c hc => hl c (by simp [hc])) (by simpa using h) j hj
    rw [List.flatten_cons, List.getElem?_append_right (by rw [this, Nat.add_mul]; omega), this, ← ih]
    congr 1
    rw [Nat.add_mul]; omega
theorem Owned.form {RAt : World → Nat → Nat → α → Prop} (hsz : 0 < sz) (hR : ∀ b o cs x, b < w.heap.size → (∀ j, j < sz → w.cell? ⟨b, o + j, none⟩ = cs[j]?) → R w0 cs x → RAt w b o x)
    (h : Owned R t sz w0 w v l) : ∃ A c, v = .slice A l.length c ∧ SlAt RAt sz w A l := by
  obtain ⟨css, h1, h2, h3, h4⟩ := h
  have hlt : ∀ k, v.ownBlock = some k → w0.heap.size ≤ k ∧ k < w.heap.size := World.ownsRow.lt h4
  obtain ⟨g1, g2⟩ := id h4
  rcases g2 with ⟨rfl, hn⟩ | ⟨g, cap, cur, rfl, hB, hh, hle, hcap, hcz, htk⟩
  · refine ⟨none, 0, by rw [hn], by omega, fun k r hr => ?_⟩
    have : l = [] := List.eq_nil_of_length_eq_zero hn
    subst this; simp at hr
  · refine ⟨_, _, rfl, Nat.le_trans hle hcap, fun k r hr => ?_⟩
    have hk : k < l.length := (List.getElem?_eq_some_iff.1 hr).1
    obtain ⟨cs, hcs⟩ : ∃ cs, css[k]? = some cs := ⟨_, List.getElem?_eq_getElem (by omega)⟩
    have hc := fun j hj => World.ownsRow.cellAt h4 j hj
    refine ⟨g, 0, rfl, (hlt g rfl).2, hR g _ cs r (hlt g rfl).2 (fun j hj => ?_) (h3 k r cs hr hcs)⟩
    have hm : k * sz + j < l.length * sz := by
      have : (k + 1) * sz ≤ l.length * sz := Nat.mul_le_mul_right _ hk
      rw [Nat.add_mul] at this; omega
    rw [show 0 + k * sz + j = k * sz + j by omega, hc _ hm, flatten_at hsz css k cs h2 hcs j hj]
/-- behind an append of one element. -/
theorem Owned.snoc {css : List (List Value)} {cs : List Value} {x : α} (h1 : css.length = l.length) (h2 : ∀ c ∈ css, c.length = sz) (h3 : ∀ (k : Nat) (x : α) (cs : List Value), l[k]? = some x → css[k]? = some cs → R w0 cs x)
    (hx : R w0 cs x) (hc : cs.length = sz) (h4 : w'.ownsRow w0.heap.size t sz v' (l.length + 1) (css.flatten ++ cs)) : Owned R t sz w0 w' v' (l ++ [x]) := by
  refine ⟨css ++ [cs], by simp [h1], ?_, ?_, by simpa using h4⟩
  · intro c hcm
    rcases List.mem_append.1 hcm with h | h
    · exact h2 c h
    · simp only [List.mem_singleton] at h; rw [h]; exact hc
  · intro k y ds hy hd
    by_cases hk : k < l.length
    · rw [List.getElem?_append_left hk] at hy
      rw [List.getElem?_append_left (by omega)] at hd
      exact h3 k y ds hy hd
    · rw [List.getElem?_append_right (by omega)] at hy
      rw [List.getElem?_append_right (by omega), h1] at hd
      have hk0 : k - l.length = 0 := by
        have := (List.getElem?_eq_some_iff.1 hy).1
        simp at this; omega
      rw [hk0] at hy hd
      simp only [List.getElem?_cons_zero, Option.some.injEq] at hy hd
      rw [← hy, ← hd]; exact hx
theorem grown_below {w1 w2 : World} {row : Option Nat} (hb : Below w0.heap.size w0 w1) (hg : w1.grownBy w2 row) (h : ∀ k, row = some k → w0.heap.size ≤ k) : Below w0.heap.size w0 w2 :=
  Below.grown hb hg hb.size h
end

def RA (w : World) (cs : List Value) (x : At) : Prop := ∃ A c, cs = [.string x.nm, .slice A x.ts.length c] ∧ TmsAt w A x.ts ∧ x.nm.size ≤ maxLen
def RI (_ : World) (cs : List Value) (x : Int) : Prop := cs = [.int .i64 x] ∧ I64 x
theorem RA.at_ {w0 w : World} (hb : Below w0.heap.size w0 w) (b o : Nat) (cs : List Value) (x : At) (hc : ∀ j, j < 2 → w.cell? ⟨b, o + j, none⟩ = cs[j]?) (h : RA w0 cs x) : AtAt w b o x := by
  obtain ⟨A, c, rfl, ht, hs⟩ := h
  exact ⟨⟨hc 0 (by omega), hs⟩, A, c, hc 1 (by omega), ht.below hb⟩
theorem RI.at_ {w0 w : World} (b o : Nat) (cs : List Value) (x : Int) (hc : ∀ j, j < 1 → w.cell? ⟨b, o + j, none⟩ = cs[j]?) (h : RI w0 cs x) : IntAt w b o x := by
  obtain ⟨rfl, hi⟩ := h
  exact ⟨hc 0 (by omega), hi⟩

/-- whether element i repeats an earlier one. -/
def agn (l : List At) (i : Nat) : Bool := match l[i]? with | some x => (l.take i).any (fun y => sameA y x) | none => false
/-- the constraints without repeated ones, of the first k. -/
def mrg (l : List At) : Nat → List At
  | 0 => []
  | k + 1 => if agn l k then mrg l k else mrg l k ++ (l[k]?).toList
/-- the identifiers of repeated ones, of the first k. -/
def twc (l : List It) : Nat → List Int
  | 0 => []
  | k + 1 => if agn (l.map It.at_) k then twc l k ++ (l[k]?.map It.id).toList else twc l k
theorem mrg_len (l : List At) : ∀ k, (mrg l k).length ≤ k
  | 0 => Nat.le_refl _
  | k + 1 => by
    have := mrg_len l k
    simp only [mrg]; split
    · omega
    · cases l[k]? <;> simp <;> omega
theorem twc_len (l : List It) : ∀ k, (twc l k).length ≤ k
  | 0 => Nat.le_refl _
  | k + 1 => by
    have := twc_len l k
    simp only [twc]; split
    · cases l[k]? <;> simp <;> omega
    · omega
theorem any_take_succ {l : List At} {k : Nat} {y x : At} (hy : l[k]? = some y) : (l.take (k + 1)).any (fun y => sameA y x) = ((l.take k).any (fun y => sameA y x) || sameA y x) := by
  rw [List.take_add_one, hy]; simp
theorem agn_at {l : List At} {i : Nat} {x : At} (hx : l[i]? = some x) : agn l i = (l.take i).any (fun y => sameA y x) := by
  unfold agn; rw [hx]
end Go.Proofs.Ytahhaiomdjlckaa
