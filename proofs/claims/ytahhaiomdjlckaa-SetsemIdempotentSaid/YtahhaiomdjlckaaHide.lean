/-
  Memory of which some blocks are not seen: what a call makes beside a list that is being made.
-/
import Derived.Test.YtahhaiomdjlckaaApp
import Derived.Maps.AppendAt
namespace Go.Proofs.Ytahhaiomdjlckaa
set_option linter.unusedVariables false
set_option linter.unusedSimpArgs false
open Go.RowKit

/-- w' shows whatever w shows. -/
def Ext (w w' : World) : Prop := w.heap.size ≤ w'.heap.size ∧ ∀ p v, w.cell? p = some v → w'.cell? p = some v
theorem Ext.refl (w : World) : Ext w w := ⟨Nat.le_refl _, fun _ _ h => h⟩
theorem Ext.trans {a b c : World} (h : Ext a b) (k : Ext b c) : Ext a c := ⟨Nat.le_trans h.1 k.1, fun p v hp => k.2 p v (h.2 p v hp)⟩
theorem Ext.of_below {w w' : World} (h : Below w.heap.size w w') : Ext w w' := ⟨h.size, fun p v hp => (h.cell (World.block_lt_of_cell? w _ hp)).trans hp⟩
def hides (w : World) (L : List Nat) : World := { w with heap := w.heap.mapIdx fun i o => if i ∈ L then .deferred none else o }
theorem size_hides (w : World) (L : List Nat) : (hides w L).heap.size = w.heap.size := by simp [hides]
theorem get_hides (w : World) (L : List Nat) (b : Nat) : (hides w L).heap[b]? = (w.heap[b]?).map fun o => if b ∈ L then .deferred none else o := by simp [hides]
theorem hides_out {w : World} {L : List Nat} {b : Nat} (h : b ∉ L) : (hides w L).heap[b]? = w.heap[b]? := by
  rw [get_hides]
  cases w.heap[b]? <;> simp [h]
theorem cell_hides {w : World} {L : List Nat} {p : Addr} {v : Value} : (hides w L).cell? p = some v ↔ p.block ∉ L ∧ w.cell? p = some v := by
  by_cases h : p.block ∈ L
  · constructor
    · intro hc
      exfalso
      unfold World.cell? at hc
      rw [get_hides] at hc
      cases hw : w.heap[p.block]? with
      | none => rw [hw] at hc; simp at hc
      | some o => rw [hw] at hc; simp [h] at hc
    · exact fun hc => absurd h hc.1
  · rw [show (hides w L).cell? p = w.cell? p from by unfold World.cell?; rw [hides_out h]]
    exact ⟨fun hc => ⟨h, hc⟩, fun hc => hc.2⟩
theorem hides_nil (w : World) : hides w [] = w := by
  have : w.heap.mapIdx (fun i o => if i ∈ ([] : List Nat) then Obj.deferred none else o) = w.heap := by
    apply Array.ext
    · simp
    · intro i h1 h2; simp
  unfold hides
  rw [this]
/-- a step that leaves alone what is seen, and shows no more of what was hidden. -/
theorem Ext.step {w w' : World} {L L' : List Nat} (hs : w.heap.size ≤ w'.heap.size) (hk : ∀ b, b < w.heap.size → b ∉ L → w'.heap[b]? = w.heap[b]?) (hL : ∀ b ∈ L', b ∈ L ∨ w.heap.size ≤ b) : Ext (hides w L) (hides w' L') := by
  refine ⟨by rw [size_hides, size_hides]; exact hs, fun p v hp => ?_⟩
  obtain ⟨hn, hc⟩ := cell_hides.1 hp
  have hlt := World.block_lt_of_cell? w _ hc
  refine cell_hides.2 ⟨fun hm => ?_, ?_⟩
  · rcases hL _ hm with h | h
    · exact hn h
    · omega
  · unfold World.cell? at hc ⊢
    rw [hk _ hlt hn]
    exact hc
theorem Ext.below {w w' : World} {L : List Nat} (h : Below w.heap.size w w') : Ext (hides w L) (hides w' L) := Ext.step h.size (fun b hb _ => h.block b hb) (fun b hb => .inl hb)
theorem Ext.less {w : World} {L L' : List Nat} (h : ∀ b ∈ L', b ∈ L) : Ext (hides w L) (hides w L') := Ext.step (Nat.le_refl _) (fun _ _ _ => rfl) (fun b hb => .inl (h b hb))
theorem Ext.all {w : World} {L : List Nat} : Ext (hides w L) w := by
  have := Ext.less (w := w) (L := L) (L' := []) (by simp)
  rwa [hides_nil] at this

section
variable {α : Type}
def ExtOk (R : World → Nat → Nat → α → Prop) : Prop := ∀ w w' b o x, Ext w w' → R w b o x → R w' b o x
theorem SlAt.ext {R : World → Nat → Nat → α → Prop} (hR : ExtOk R) {sz : Nat} {w w' : World} {A : Option Addr} {l : List α} (h : SlAt R sz w A l) (he : Ext w w') : SlAt R sz w' A l := by
  refine ⟨h.1, fun k x hx => ?_⟩
  obtain ⟨b, off, e, hlt, hr⟩ := h.2 k x hx
  exact ⟨b, off, e, Nat.lt_of_lt_of_le hlt he.1, hR w w' b _ x he hr⟩
theorem SlCell.ext {R : World → Nat → Nat → α → Prop} (hR : ExtOk R) (sz : Nat) : ExtOk (SlCell R sz) := by
  rintro w w' b o l he ⟨A, c, hc, hs⟩
  exact ⟨A, c, he.2 _ _ hc, hs.ext hR he⟩
end
theorem IntAt.ext : ExtOk IntAt := fun _ _ b o _ he h => ⟨he.2 _ _ h.1, h.2⟩
theorem StrAt.ext : ExtOk StrAt := fun _ _ b o _ he h => ⟨he.2 _ _ h.1, h.2⟩
theorem TmAt.ext : ExtOk TmAt := by
  intro w w' b o x he h
  induction h with
  | mk h0 h1 h2 h3 hl hA hts ih =>
    exact TmAt.mk (IntAt.ext _ _ _ _ _ he h0) (IntAt.ext _ _ _ _ _ he h1) (StrAt.ext _ _ _ _ _ he h2) (he.2 _ _ h3) hl (fun hne => ⟨(hA hne).1, Nat.lt_of_lt_of_le (hA hne).2 he.1⟩) (fun k x hx => ih k x hx)
theorem AtAt.ext : ExtOk AtAt := fun _ _ _ _ _ he h => ⟨StrAt.ext _ _ _ _ _ he h.1, SlCell.ext TmAt.ext 4 _ _ _ _ _ he h.2⟩
theorem GlAt.ext : ExtOk GlAt := fun _ _ _ _ _ he h => ⟨IntAt.ext _ _ _ _ _ he h.1, StrAt.ext _ _ _ _ _ he h.2.1, SlCell.ext TmAt.ext 4 _ _ _ _ _ he h.2.2⟩

/-- a list that the call makes (its row at or beyond base), whose elements' own memory is seen where L and the row itself are hidden. -/
def Own2 {α : Type} (R : World → List Value → α → Prop) (t : TypeId) (sz : Nat) (base : Nat) (L : List Nat) (w : World) (v : Value) (l : List α) : Prop :=
  ∃ css : List (List Value), css.length = l.length ∧ (∀ c ∈ css, c.length = sz) ∧ (∀ (k : Nat) (x : α) (cs : List Value), l[k]? = some x → css[k]? = some cs → R (hides w (L ++ v.ownBlock.toList)) cs x) ∧ w.ownsRow base t sz v l.length css.flatten
section
variable {α : Type} {R : World → List Value → α → Prop} {t : TypeId} {sz base : Nat} {L : List Nat} {w w' : World} {v v' : Value} {l l2 : List α}
theorem Own2.nil : Own2 R t sz base L w (.slice none 0 0) [] := ⟨[], rfl, by simp, by simp, by simp [World.ownsRow]⟩
theorem Own2.shape (h : Own2 R t sz base L w v l) : ∃ A c, v = .slice A l.length c := by
  obtain ⟨css, _, _, _, h4⟩ := h
  rcases h4.2 with ⟨rfl, hn⟩ | ⟨g, cap, cur, rfl, _⟩
  · exact ⟨none, 0, by rw [hn]⟩
  · exact ⟨_, _, rfl⟩
theorem Own2.lt (h : Own2 R t sz base L w v l) : ∀ g, v.ownBlock = some g → base ≤ g ∧ g < w.heap.size := by
  obtain ⟨css, _, _, _, h4⟩ := h
  exact World.ownsRow.lt h4
theorem Own2.below (hR : ∀ w w' cs x, Ext w w' → R w cs x → R w' cs x) (h : Own2 R t sz base L w v l) (hb : Below w.heap.size w w') : Own2 R t sz base L w' v l := by
  obtain ⟨css, h1, h2, h3, h4⟩ := h
  exact ⟨css, h1, h2, fun k x cs hx hc => hR _ _ _ _ (Ext.below hb) (h3 k x cs hx hc), World.ownsRow.kept (row := none) h4 ⟨hb.os, hb.tape, hb.output, hb.size, fun i hi _ => hb.block i hi⟩ (by cases v.ownBlock <;> simp)⟩
theorem Own2.form {RAt : World → Nat → Nat → α → Prop} (hsz : 0 < sz) (hR : ∀ w w' cs x, Ext w w' → R w cs x → R w' cs x) (hAt : ∀ w b o cs x, b < w.heap.size → (∀ j, j < sz → w.cell? ⟨b, o + j, none⟩ = cs[j]?) → R w cs x → RAt w b o x)
    (hL : ∀ g ∈ L, g < base) (h : Own2 R t sz base L w v l) : ∃ A c, v = .slice A l.length c ∧ SlAt RAt sz (hides w L) A l := by
  obtain ⟨css, h1, h2, h3, h4⟩ := h
  have hlt := World.ownsRow.lt h4
  obtain ⟨g1, g2⟩ := id h4
  rcases g2 with ⟨rfl, hn⟩ | ⟨g, cap, cur, rfl, hB, hh, hle, hcap, hcz, htk⟩
  · refine ⟨none, 0, by rw [hn], by omega, fun k r hr => ?_⟩
    have : l = [] := List.eq_nil_of_length_eq_zero hn
    subst this; simp at hr
  · refine ⟨_, _, rfl, Nat.le_trans hle hcap, fun k r hr => ?_⟩
    have hk : k < l.length := (List.getElem?_eq_some_iff.1 hr).1
    obtain ⟨cs, hcs⟩ : ∃ cs, css[k]? = some cs := ⟨_, List.getElem?_eq_getElem (by omega)⟩
    have hc := fun j hj => World.ownsRow.cellAt h4 j hj
    have hgL : g ∉ L := fun hm => by have := hL g hm; have := (hlt g rfl).1; omega
    refine ⟨g, 0, rfl, by rw [size_hides]; exact (hlt g rfl).2, hAt _ g _ cs r (by rw [size_hides]; exact (hlt g rfl).2) (fun j hj => ?_) (hR _ _ _ _ (Ext.less (fun b hb => List.mem_append_left _ hb)) (h3 k r cs hr hcs))⟩
    have hm : k * sz + j < l.length * sz := by
      have : (k + 1) * sz ≤ l.length * sz := Nat.mul_le_mul_right _ hk
      rw [Nat.add_mul] at this; omega
    have e1 : (hides w L).cell? ⟨g, 0 + k * sz + j, none⟩ = w.cell? ⟨g, 0 + k * sz + j, none⟩ := by unfold World.cell?; rw [hides_out hgL]
    rw [e1, show 0 + k * sz + j = k * sz + j by omega, hc _ hm, flatten_at hsz css k cs h2 hcs j hj]
/-- **append(out, x)**: x's own memory is seen where L and the row are hidden. -/
theorem wpList_append_own2 {P : Program} {ops : Array Oper} {rest : List Oper} {o : Oper} {a : Act} {Q : Exit → Act → World → Prop} (hgd : o.guard = none) (s xo : Operand) (T : TypeId)
    (ho : o.op = .call { callee := .builtin .append, args := #[s, xo], argTypes := #[T, T] })
    (i : TypeInfo) (z : Value) (bytes : Nat) (ht : P.underlying T = some (.slice t)) (hi : P.info? t = some i) (hz : i.zero = some z)
    (hsize : i.size = sz) (hby : i.bytes = bytes) (hzs : z.cells.size = sz) (hsz : 0 < sz) (hR : ∀ w w' cs x, Ext w w' → R w cs x → R w' cs x)
    (hs : a.eval s = v) (hown : Own2 R t sz base L w v l) {ad : Addr} (hx : a.eval xo = .slice (some ad) 1 1) {cs : List Value} {x : α} (hlen : cs.length = sz) (hone : ∀ u ∈ cs, u.oneCell' = true) (hc : ∀ j u, cs[j]? = some u → w.cell? (ad.add j) = some u)
    (hRx : R (hides w (L ++ v.ownBlock.toList)) cs x) (hL : ∀ g ∈ L, g < base)
    (h63 : l.length + 1 ≤ maxLen) (hbytes : (l.length + 1) * bytes ≤ 140737488355328) (hb : base ≤ w.heap.size)
    (h : ∀ v' w', Own2 R t sz base L w' v' (l ++ [x]) → w.grownBy w' v.ownBlock → wpList P ops Q rest (a.put o.dst v') w') : wpList P ops Q (o :: rest) a w := by
  obtain ⟨css, h1, h2, h3, h4⟩ := hown
  refine wpList_append_own_at _ hgd s xo T ho base t i z sz bytes ht hi hz hsize hby hzs hsz v l.length css.flatten hs h4 ad 1 1 cs hx (by omega) hc hone h63 hbytes hb ?_
  intro v' w' hown' hg _ hat
  refine h v' w' ⟨css ++ [cs], by simp [h1], ?_, ?_, by simpa using hown'⟩ hg
  · intro c hcm
    rcases List.mem_append.1 hcm with h | h
    · exact h2 c h
    · simp only [List.mem_singleton] at h; rw [h]; exact hlen
  · have hlt' := World.ownsRow.lt hown'
    have hlt := World.ownsRow.lt h4
    -- the new row is the old one, or a block that was not there
    have hext : Ext (hides w (L ++ v.ownBlock.toList)) (hides w' (L ++ v'.ownBlock.toList)) := by
      refine Ext.step hg.size (fun b hb hn => hg.block b hb (fun e => hn (by rw [← e]; simp))) (fun b hb => ?_)
      rcases List.mem_append.1 hb with h | h
      · exact .inl (List.mem_append_left _ h)
      · have hvb : v'.ownBlock = some b := by simpa using h
        rcases hat with h5 | h5
        · exact .inl (List.mem_append_right _ (by rw [← h5, hvb]; simp))
        · rw [hvb] at h5
          exact .inr (by cases h5; exact Nat.le_refl _)
    intro k y ds hy hd
    by_cases hk : k < l.length
    · rw [List.getElem?_append_left hk] at hy
      rw [List.getElem?_append_left (by omega)] at hd
      exact hR _ _ _ _ hext (h3 k y ds hy hd)
    · rw [List.getElem?_append_right (by omega)] at hy
      rw [List.getElem?_append_right (by omega), h1] at hd
      have hk0 : k - l.length = 0 := by
        have := (List.getElem?_eq_some_iff.1 hy).1
        simp at this; omega
      rw [hk0] at hy hd
      simp only [List.getElem?_cons_zero, Option.some.injEq] at hy hd
      rw [← hy, ← hd]
      exact hR _ _ _ _ hext hRx
end
section
variable {α : Type} {R : World → List Value → α → Prop} {t : TypeId} {sz base : Nat} {L : List Nat} {w : World} {v : Value} {l : List α}
theorem wp_append_own2 {P : Program} {o : Oper} {a : Act} {K : Act → World → Prop} {Q : Exit → Act → World → Prop} (s xo : Operand) (T : TypeId)
    (ho : o.op = .call { callee := .builtin .append, args := #[s, xo], argTypes := #[T, T] })
    (i : TypeInfo) (z : Value) (bytes : Nat) (ht : P.underlying T = some (.slice t)) (hi : P.info? t = some i) (hz : i.zero = some z)
    (hsize : i.size = sz) (hby : i.bytes = bytes) (hzs : z.cells.size = sz) (hsz : 0 < sz) (hR : ∀ w w' cs x, Ext w w' → R w cs x → R w' cs x)
    (hs : a.eval s = v) (hown : Own2 R t sz base L w v l) {ad : Addr} (hx : a.eval xo = .slice (some ad) 1 1) {cs : List Value} {x : α} (hlen : cs.length = sz) (hone : ∀ u ∈ cs, u.oneCell' = true) (hc : ∀ j u, cs[j]? = some u → w.cell? (ad.add j) = some u)
    (hRx : R (hides w (L ++ v.ownBlock.toList)) cs x) (hL : ∀ g ∈ L, g < base)
    (h63 : l.length + 1 ≤ maxLen) (hbytes : (l.length + 1) * bytes ≤ 140737488355328) (hb : base ≤ w.heap.size)
    (h : ∀ v' w', Own2 R t sz base L w' v' (l ++ [x]) → w.grownBy w' v.ownBlock → K (a.put o.dst v') w') : o.wp P a w K Q := by
  obtain ⟨css, h1, h2, h3, h4⟩ := hown
  obtain ⟨v', w', hrun, hown', hg, _, hat⟩ := run_append_own_at (P := P) w base T o.type t i z sz bytes ht hi hz hsize hby hzs hsz v l.length css.flatten h4 ad 1 1 cs (by omega) hc hone h63 hbytes hb
  unfold Oper.wp execOp
  simp only [ho, resolve, invoke, builtin, Sem.run_bind, Sem.run_pure, Result.andThen_ok, List.map_toArray, List.map_cons, List.map_nil, hs, hx, hrun]
  refine h v' w' ⟨css ++ [cs], by simp [h1], ?_, ?_, by simpa using hown'⟩ hg
  · intro c hcm
    rcases List.mem_append.1 hcm with h | h
    · exact h2 c h
    · simp only [List.mem_singleton] at h; rw [h]; exact hlen
  · have hlt' := World.ownsRow.lt hown'
    have hlt := World.ownsRow.lt h4
    -- the new row is the old one, or a block that was not there
    have hext : Ext (hides w (L ++ v.ownBlock.toList)) (hides w' (L ++ v'.ownBlock.toList)) := by
      refine Ext.step hg.size (fun b hb hn => hg.block b hb (fun e => hn (by rw [← e]; simp))) (fun b hb => ?_)
      rcases List.mem_append.1 hb with h | h
      · exact .inl (List.mem_append_left _ h)
      · have hvb : v'.ownBlock = some b := by simpa using h
        rcases hat with h5 | h5
        · exact .inl (List.mem_append_right _ (by rw [← h5, hvb]; simp))
        · rw [hvb] at h5
          exact .inr (by cases h5; exact Nat.le_refl _)
    intro k y ds hy hd
    by_cases hk : k < l.length
    · rw [List.getElem?_append_left hk] at hy
      rw [List.getElem?_append_left (by omega)] at hd
      exact hR _ _ _ _ hext (h3 k y ds hy hd)
    · rw [List.getElem?_append_right (by omega)] at hy
      rw [List.getElem?_append_right (by omega), h1] at hd
      have hk0 : k - l.length = 0 := by
        have := (List.getElem?_eq_some_iff.1 hy).1
        simp at this; omega
      rw [hk0] at hy hd
      simp only [List.getElem?_cons_zero, Option.some.injEq] at hy hd
      rw [← hy, ← hd]
      exact hR _ _ _ _ hext hRx
theorem step_append_own2 {P : Program} {ops : Array Oper} {E : Prop} {o : Oper} {a : Act} {K : Act → World → Prop} {Q : Exit → Act → World → Prop} (hgd : o.guard = none) (s xo : Operand) (T : TypeId)
    (ho : o.op = .call { callee := .builtin .append, args := #[s, xo], argTypes := #[T, T] })
    (i : TypeInfo) (z : Value) (bytes : Nat) (ht : P.underlying T = some (.slice t)) (hi : P.info? t = some i) (hz : i.zero = some z)
    (hsize : i.size = sz) (hby : i.bytes = bytes) (hzs : z.cells.size = sz) (hsz : 0 < sz) (hR : ∀ w w' cs x, Ext w w' → R w cs x → R w' cs x)
    (hs : a.eval s = v) (hown : Own2 R t sz base L w v l) {ad : Addr} (hx : a.eval xo = .slice (some ad) 1 1) {cs : List Value} {x : α} (hlen : cs.length = sz) (hone : ∀ u ∈ cs, u.oneCell' = true) (hc : ∀ j u, cs[j]? = some u → w.cell? (ad.add j) = some u)
    (hRx : R (hides w (L ++ v.ownBlock.toList)) cs x) (hL : ∀ g ∈ L, g < base)
    (h63 : l.length + 1 ≤ maxLen) (hbytes : (l.length + 1) * bytes ≤ 140737488355328) (hb : base ≤ w.heap.size)
    (h : ∀ v' w', Own2 R t sz base L w' v' (l ++ [x]) → w.grownBy w' v.ownBlock → K (a.put o.dst v') w') : if Region.wanted o (yielded ops a.tmps) = true then Oper.wp P o a w K Q else E := by
  have hw : Region.wanted o (yielded ops a.tmps) = true := by simp [Region.wanted, hgd]
  rw [if_pos hw]
  exact wp_append_own2 s xo T ho i z bytes ht hi hz hsize hby hzs hsz hR hs hown hx hlen hone hc hRx hL h63 hbytes hb h
end
end Go.Proofs.Ytahhaiomdjlckaa
