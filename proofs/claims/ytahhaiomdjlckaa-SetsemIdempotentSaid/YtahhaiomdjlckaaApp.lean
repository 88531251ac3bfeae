/-
  Appends to a slice that the call owns, in one law: of a whole slice (nil or not), of one element that was just built.
-/
import Derived.Test.YtahhaiomdjlckaaCells
import Derived.Laws.AppendOwnNone
import Derived.Laws.OwnMore
import Derived.OwnWalk
import Derived.OneCell
import Derived.OwnWalkIn
import Derived.RangeFuncOwn
namespace Go.Proofs.Ytahhaiomdjlckaa
set_option linter.unusedVariables false
set_option linter.unusedSimpArgs false
open Go.RowKit

/-- what a list of elements is, cell by cell; where they lie. -/
structure Srcs {α : Type} (R : World → List Value → α → Prop) (sz : Nat) (w0 w : World) (A : Option Addr) (l : List α) (css : List (List Value)) : Prop where
  len : css.length = l.length
  sz : ∀ c ∈ css, c.length = sz
  els : ∀ (k : Nat) (x : α) (cs : List Value), l[k]? = some x → css[k]? = some cs → R w0 cs x
  one : ∀ u ∈ css.flatten, u.oneCell' = true
  src : l ≠ [] → ∃ ad, A = some ad ∧ ∀ j u, css.flatten[j]? = some u → w.cell? (ad.add j) = some u

section
variable {α : Type} {R : World → List Value → α → Prop} {sz : Nat} {w0 w w' : World} {v v' : Value} {l l2 : List α} {e : TypeId}
theorem Owned.append {css css2 : List (List Value)} {A : Option Addr} (h1 : css.length = l.length) (h2 : ∀ c ∈ css, c.length = sz) (h3 : ∀ (k : Nat) (x : α) (cs : List Value), l[k]? = some x → css[k]? = some cs → R w0 cs x)
    (s : Srcs R sz w0 w A l2 css2) (h4 : w'.ownsRow w0.heap.size e sz v' (l.length + l2.length) (css.flatten ++ css2.flatten)) : Owned R e sz w0 w' v' (l ++ l2) := by
  refine ⟨css ++ css2, by simp [h1, s.len], ?_, ?_, by simpa using h4⟩
  · intro c hc
    rcases List.mem_append.1 hc with h | h
    · exact h2 c h
    · exact s.sz c h
  · intro k y ds hy hd
    by_cases hk : k < l.length
    · rw [List.getElem?_append_left hk] at hy
      rw [List.getElem?_append_left (by omega)] at hd
      exact h3 k y ds hy hd
    · rw [List.getElem?_append_right (by omega)] at hy
      rw [List.getElem?_append_right (by omega), h1] at hd
      exact s.els _ y ds hy hd

theorem run_append_nil {P : Program} (w : World) (base : Nat) (t ty e : TypeId) (i : TypeInfo) (size : Nat) (ht : P.underlying t = some (.slice e)) (hi : P.info? e = some i)
    (v : Value) (n c : Nat) (xs : List Value) (hown : w.ownsRow base e size v n xs) :
    (Builtin.append_ #[t, t] ty #[v, .slice none 0 c]).run P w = .ok v w := by
  rcases hown.2 with ⟨rfl, rfl⟩ | ⟨g, cap, cur, rfl, _, _, hnc, _⟩
  · simp [Builtin.append_, run_underlying ht, sizeOf, typeInfo, hi, Builtin.lenOf, Builtin.firstCells]
  · simp [Builtin.append_, run_underlying ht, sizeOf, typeInfo, hi, Builtin.lenOf, Builtin.firstCells, hnc, storeCells]

/-- **append(out, l...)**, l nil or not. -/
theorem wpList_append_sl {P : Program} {ops : Array Oper} {rest : List Oper} {o : Oper} {a : Act} {Q : Exit → Act → World → Prop} (hgd : o.guard = none) (s x : Operand) (t : TypeId)
    (ho : o.op = .call { callee := .builtin .append, args := #[s, x], argTypes := #[t, t] })
    (i : TypeInfo) (z : Value) (bytes : Nat) (ht : P.underlying t = some (.slice e)) (hi : P.info? e = some i) (hz : i.zero = some z)
    (hsize : i.size = sz) (hby : i.bytes = bytes) (hzs : z.cells.size = sz) (hsz : 0 < sz)
    (hs : a.eval s = v) (hown : Owned R e sz w0 w v l) {A : Option Addr} {c : Nat} (hx : a.eval x = .slice A l2.length c) {css2 : List (List Value)} (hsrc : Srcs R sz w0 w A l2 css2)
    (h63 : l.length + l2.length ≤ maxLen) (hbytes : (l.length + l2.length) * bytes ≤ 140737488355328) (hb : Below w0.heap.size w0 w)
    (h : ∀ v' w', Owned R e sz w0 w' v' (l ++ l2) → Below w0.heap.size w0 w' → w.grownBy w' v.ownBlock → wpList P ops Q rest (a.put o.dst v') w') : wpList P ops Q (o :: rest) a w := by
  obtain ⟨css, h1, h2, h3, h4⟩ := hown
  cases A with
  | none =>
    have hl2 : l2 = [] := Classical.byContradiction fun hne => by obtain ⟨ad, h, _⟩ := hsrc.src hne; cases h
    subst hl2
    have hrun := run_append_nil (P := P) w w0.heap.size t o.type e i sz ht hi v l.length c css.flatten h4
    refine wpList_plain hgd fun K hK => ?_
    unfold Oper.wp
    simp only [List.length_nil] at hx
    simp [execOp, ho, resolve, invoke, builtin, hs, hx, hrun, Result.andThen]
    exact hK _ _ (h v w (by rw [List.append_nil]; exact ⟨css, h1, h2, h3, h4⟩) hb (World.grownBy.refl _ _))
  | some ad =>
    have hnews : ∀ j u, css2.flatten[j]? = some u → w.cell? (ad.add j) = some u := by
      intro j u hu
      have hne : l2 ≠ [] := by
        rintro rfl
        have : css2 = [] := List.eq_nil_of_length_eq_zero hsrc.len
        subst this; simp at hu
      obtain ⟨ad', e', h'⟩ := hsrc.src hne
      cases e'
      exact h' j u hu
    have hfl : css2.flatten.length = l2.length * sz := by rw [flat_len css2 hsrc.sz, hsrc.len]
    refine wpList_append_own _ hgd s x t ho w0.heap.size e i z sz bytes ht hi hz hsize hby hzs hsz v l.length css.flatten hs h4 ad l2.length c css2.flatten hx hfl hnews hsrc.one h63 hbytes hb.size ?_
    intro v' w' hown' hg _
    exact h v' w' (Owned.append h1 h2 h3 hsrc hown') (Below.grown hb hg hb.size fun k hk => ((World.ownsRow.lt h4) k hk).1) hg

/-- a block of another type is not the row: an append to the row leaves it alone. -/
theorem Owned.other (h : Owned R e sz w0 w v l) (hg : w.grownBy w' v.ownBlock) {b : Nat} {cs : Array Value} {t : TypeId} {fr : Nat × Nat} (hb : w.heap[b]? = some (.cells cs t fr)) (ht : t ≠ e) : w'.heap[b]? = some (.cells cs t fr) := by
  obtain ⟨css, _, _, _, h4⟩ := h
  refine (hg.block b (lt_of_block hb) fun e' => ?_).trans hb
  rcases h4.2 with ⟨rfl, _⟩ | ⟨g, cap, cur, rfl, _, hh, _⟩
  · cases e'
  · simp only [Value.ownBlock, Option.some.injEq] at e'
    subst e'
    rw [hb] at hh
    simp only [Option.some.injEq, Obj.cells.injEq] at hh
    exact ht hh.2.1
theorem Owned.made {cur : Array Value} {cap : Nat} (hb : w0.heap.size ≤ w.heap.size) (hm : cap ≤ maxLen) (hs : cur.size = cap * sz) : Owned R e sz w0 (w.alloc (.cells cur e)) (.slice (some ⟨w.heap.size, 0, none⟩) 0 cap) [] :=
  ⟨[], rfl, by simp, by simp, by simpa using World.ownsRow_made w cur cap hb hm hs⟩
theorem Owned.shape (h : Owned R e sz w0 w v l) : ∃ A c, v = .slice A l.length c := by
  obtain ⟨css, _, _, _, h4⟩ := h
  rcases h4.2 with ⟨rfl, hn⟩ | ⟨g, cap, cur, rfl, _⟩
  · exact ⟨none, 0, by rw [hn]⟩
  · exact ⟨_, _, rfl⟩
/-- the cells of element k. -/
theorem Owned.at_ (hsz : 0 < sz) {A : Option Addr} {n c : Nat} (h : Owned R e sz w0 w (.slice A n c) l) {k : Nat} {x : α} (hx : l[k]? = some x) : ∃ g o cs, A = some ⟨g, o, none⟩ ∧ g < w.heap.size ∧ R w0 cs x ∧ ∀ j, j < sz → w.cell? ⟨g, o + k * sz + j, none⟩ = cs[j]? := by
  obtain ⟨css, h1, h2, h3, h4⟩ := h
  have hk : k < l.length := (List.getElem?_eq_some_iff.1 hx).1
  rcases id h4.2 with ⟨hv, hn⟩ | ⟨g, cap, cur, hv, hB, hh, hle, hcap, hcz, htk⟩
  · omega
  · simp only [Value.slice.injEq] at hv
    obtain ⟨rfl, rfl, rfl⟩ := hv
    obtain ⟨cs, hcs⟩ : ∃ cs, css[k]? = some cs := ⟨_, List.getElem?_eq_getElem (by omega)⟩
    refine ⟨g, 0, cs, rfl, lt_of_block hh, h3 k x cs hx hcs, fun j hj => ?_⟩
    have hm : k * sz + j < l.length * sz := by
      have : (k + 1) * sz ≤ l.length * sz := Nat.mul_le_mul_right _ hk
      rw [Nat.add_mul] at this; omega
    rw [show 0 + k * sz + j = k * sz + j by omega, World.ownsRow.cellAt h4 _ hm, flatten_at hsz css k cs h2 hcs j hj]
/-- append(out, x) inside a fence. -/
theorem wpListIn_append_el {F : Fence} {n : Nat} {P : Program} {ops : Array Oper} {rest : List Oper} {o : Oper} {a : Act} {Q : Exit → Act → World → Prop} (hgd : o.guard = none) (s x : Operand) (t : TypeId)
    (ho : o.op = .call { callee := .builtin .append, args := #[s, x], argTypes := #[t, t] })
    (i : TypeInfo) (z : Value) (bytes : Nat) (ht : P.underlying t = some (.slice e)) (hi : P.info? e = some i) (hz : i.zero = some z)
    (hsize : i.size = sz) (hby : i.bytes = bytes) (hzs : z.cells.size = sz) (hsz : 0 < sz)
    (hs : a.eval s = v) (hown : Owned R e sz w0 w v l) {ad : Addr} {c : Nat} (hx : a.eval x = .slice (some ad) l2.length c) {css2 : List (List Value)} (hsrc : Srcs R sz w0 w (some ad) l2 css2)
    (h63 : l.length + l2.length ≤ maxLen) (hbytes : (l.length + l2.length) * bytes ≤ 140737488355328) (hb : Below w0.heap.size w0 w)
    (h : ∀ v' w', Owned R e sz w0 w' v' (l ++ l2) → Below w0.heap.size w0 w' → w.grownBy w' v.ownBlock → wpListIn F n P ops Q rest (a.put o.dst v') w') : wpListIn F n P ops Q (o :: rest) a w := by
  obtain ⟨css, h1, h2, h3, h4⟩ := hown
  have hnews : ∀ j u, css2.flatten[j]? = some u → w.cell? (ad.add j) = some u := by
    intro j u hu
    have hne : l2 ≠ [] := by
      rintro rfl
      have : css2 = [] := List.eq_nil_of_length_eq_zero hsrc.len
      subst this; simp at hu
    obtain ⟨ad', e', h'⟩ := hsrc.src hne
    cases e'
    exact h' j u hu
  have hfl : css2.flatten.length = l2.length * sz := by rw [flat_len css2 hsrc.sz, hsrc.len]
  refine wpListIn_append_own _ hgd s x t ho w0.heap.size e i z sz bytes ht hi hz hsize hby hzs hsz v l.length css.flatten hs h4 ad l2.length c css2.flatten hx hfl hnews hsrc.one h63 hbytes hb.size ?_
  intro v' w' hown' hg _
  exact h v' w' (Owned.append h1 h2 h3 hsrc hown') (Below.grown hb hg hb.size fun k hk => ((World.ownsRow.lt h4) k hk).1) hg
theorem Owned.cells_row (h : Owned R e sz w0 w v l) : ∀ (j : Nat) (o : Obj), v.ownBlock = some j → w.heap[j]? = some o → o.isCells = true := by
  obtain ⟨css, _, _, _, h4⟩ := h
  intro j o hj ho
  rcases h4.2 with ⟨rfl, _⟩ | ⟨g, cap, cur, rfl, _, hh, _⟩
  · cases hj
  · simp only [Value.ownBlock, Option.some.injEq] at hj
    subst hj
    rw [hh] at ho; cases ho; rfl
theorem Owned.set_other (h : Owned R e sz w0 w v l) {b : Nat} {cs : Array Value} {t : TypeId} {fr : Nat × Nat} (hb : w.heap[b]? = some (.cells cs t fr)) (ht : t ≠ e) (o : Nat) (u : Value) : Owned R e sz w0 (w.setCell ⟨b, o, none⟩ u) v l := by
  obtain ⟨css, h1, h2, h3, h4, h5⟩ := h
  refine ⟨css, h1, h2, h3, h4, ?_⟩
  rcases h5 with h5 | ⟨g, cap, cur, e', hB, hh, rest⟩
  · exact .inl h5
  · refine .inr ⟨g, cap, cur, e', hB, ?_, rest⟩
    rw [Below.heap_setCell _ _ _ _ (fun hg => ?_)]
    · exact hh
    · simp only at hg
      subst hg
      rw [hb] at hh
      simp only [Option.some.injEq, Obj.cells.injEq] at hh
      exact ht hh.2.1
theorem Srcs.one_el {cs : List Value} {x : α} (hlen : cs.length = sz) (hone : ∀ u ∈ cs, u.oneCell' = true) (hR : R w0 cs x) {A : Addr} (hc : ∀ j u, cs[j]? = some u → w.cell? (A.add j) = some u) : Srcs R sz w0 w (some A) [x] [cs] :=
  ⟨rfl, by simpa using hlen, fun k y ds hy hd => by
      match k, hy, hd with
      | 0, hy, hd => simp only [List.getElem?_cons_zero, Option.some.injEq] at hy hd; rw [← hy, ← hd]; exact hR
      | k + 1, hy, _ => simp at hy,
    by simpa using hone, fun _ => ⟨A, rfl, by simpa using hc⟩⟩
end

theorem RA.one {w : World} {cs : List Value} {x : At} (h : RA w cs x) : ∀ u ∈ cs, u.oneCell' = true := by
  obtain ⟨A, c, rfl, _⟩ := h
  intro u hu
  simp only [List.mem_cons, List.not_mem_nil, or_false] at hu
  rcases hu with rfl | rfl <;> rfl
theorem addr_add (b o j : Nat) : (⟨b, o, none⟩ : Addr).add j = ⟨b, o + j, none⟩ := by unfold Addr.add; split <;> simp_all
/-- the constraints of a slice that was there when the call began, as a source. -/
theorem ats_src {w0 w : World} {A : Option Addr} {l : List At} (h : SlAt AtAt 2 w0 A l) (hb : Below w0.heap.size w0 w) : ∃ css, Srcs RA 2 w0 w A l css := by
  obtain ⟨css, h1, h2, h3, h4⟩ := ats_cells h
  refine ⟨css, h1, h2, h3, ?_, fun hne => ?_⟩
  · intro u hu
    obtain ⟨cs, hcs, hu⟩ := List.mem_flatten.1 hu
    obtain ⟨k, hk⟩ := List.getElem?_of_mem hcs
    have hkl : k < l.length := by rw [← h1]; exact (List.getElem?_eq_some_iff.1 hk).1
    exact (h3 k _ cs (List.getElem?_eq_getElem hkl) hk).one u hu
  · obtain ⟨b, off, rfl, hc⟩ := h4 hne
    refine ⟨_, rfl, fun j u hu => ?_⟩
    have := hc j u hu
    rw [addr_add, hb.cell (p := ⟨b, off + j, none⟩) (cell_lt this)]
    exact this
end Go.Proofs.Ytahhaiomdjlckaa
