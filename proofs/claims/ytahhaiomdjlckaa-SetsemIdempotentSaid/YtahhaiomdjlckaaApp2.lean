/-
  Appends at a step of a region that draws its order.
-/
import Derived.Test.YtahhaiomdjlckaaHide
namespace Go.Proofs.Ytahhaiomdjlckaa
set_option linter.unusedVariables false
set_option linter.unusedSimpArgs false
open Go.RowKit

section
variable {α : Type} {R : World → List Value → α → Prop} {sz : Nat} {w0 w w' : World} {v v' : Value} {l l2 : List α} {e : TypeId}
/-- **append(out, l...)**, l nil or not, as one operation. -/
theorem wp_append_sl {P : Program} {o : Oper} {a : Act} {K : Act → World → Prop} {Q : Exit → Act → World → Prop} (s x : Operand) (t : TypeId)
    (ho : o.op = .call { callee := .builtin .append, args := #[s, x], argTypes := #[t, t] })
    (i : TypeInfo) (z : Value) (bytes : Nat) (ht : P.underlying t = some (.slice e)) (hi : P.info? e = some i) (hz : i.zero = some z)
    (hsize : i.size = sz) (hby : i.bytes = bytes) (hzs : z.cells.size = sz) (hsz : 0 < sz)
    (hs : a.eval s = v) (hown : Owned R e sz w0 w v l) {A : Option Addr} {c : Nat} (hx : a.eval x = .slice A l2.length c) {css2 : List (List Value)} (hsrc : Srcs R sz w0 w A l2 css2)
    (h63 : l.length + l2.length ≤ maxLen) (hbytes : (l.length + l2.length) * bytes ≤ 140737488355328) (hb : Below w0.heap.size w0 w)
    (h : ∀ v' w', Owned R e sz w0 w' v' (l ++ l2) → Below w0.heap.size w0 w' → w.grownBy w' v.ownBlock → K (a.put o.dst v') w') : o.wp P a w K Q := by
  obtain ⟨css, h1, h2, h3, h4⟩ := hown
  cases A with
  | none =>
    have hl2 : l2 = [] := Classical.byContradiction fun hne => by obtain ⟨ad, h, _⟩ := hsrc.src hne; cases h
    subst hl2
    have hrun := run_append_nil (P := P) w w0.heap.size t o.type e i sz ht hi v l.length c css.flatten h4
    unfold Oper.wp
    simp only [List.length_nil] at hx
    simp [execOp, ho, resolve, invoke, builtin, hs, hx, hrun, Result.andThen]
    exact h v w (by rw [List.append_nil]; exact ⟨css, h1, h2, h3, h4⟩) hb (World.grownBy.refl _ _)
  | some ad =>
    have hnews : ∀ j u, css2.flatten[j]? = some u → w.cell? (ad.add j) = some u := by
      intro j u hu
      have hne : l2 ≠ [] := by
        rintro rfl
        have : css2 = [] := List.eq_nil_of_length_eq_zero hsrc.len
        subst this; simp at hu
      obtain ⟨ad', e', h'⟩ := hsrc.src hne
      cases e'
      exact h' j u hu
    have hfl : css2.flatten.length = l2.length * sz := by rw [flat_len css2 hsrc.sz, hsrc.len]
    refine wp_append_own w s x t ho w0.heap.size e i z sz bytes ht hi hz hsize hby hzs hsz v l.length css.flatten hs h4 ad l2.length c css2.flatten hx hfl hnews hsrc.one h63 hbytes hb.size ?_
    intro v' w' hown' hg _
    exact h v' w' (Owned.append h1 h2 h3 hsrc hown') (Below.grown hb hg hb.size fun k hk => ((World.ownsRow.lt h4) k hk).1) hg
theorem step_append_sl {P : Program} {ops : Array Oper} {o : Oper} {a : Act} {K : Act → World → Prop} {Q : Exit → Act → World → Prop} {E : Prop} (hgd : o.guard = none) (s x : Operand) (t : TypeId)
    (ho : o.op = .call { callee := .builtin .append, args := #[s, x], argTypes := #[t, t] })
    (i : TypeInfo) (z : Value) (bytes : Nat) (ht : P.underlying t = some (.slice e)) (hi : P.info? e = some i) (hz : i.zero = some z)
    (hsize : i.size = sz) (hby : i.bytes = bytes) (hzs : z.cells.size = sz) (hsz : 0 < sz)
    (hs : a.eval s = v) (hown : Owned R e sz w0 w v l) {A : Option Addr} {c : Nat} (hx : a.eval x = .slice A l2.length c) {css2 : List (List Value)} (hsrc : Srcs R sz w0 w A l2 css2)
    (h63 : l.length + l2.length ≤ maxLen) (hbytes : (l.length + l2.length) * bytes ≤ 140737488355328) (hb : Below w0.heap.size w0 w)
    (h : ∀ v' w', Owned R e sz w0 w' v' (l ++ l2) → Below w0.heap.size w0 w' → w.grownBy w' v.ownBlock → K (a.put o.dst v') w') :
    if Region.wanted o (yielded ops a.tmps) = true then Oper.wp P o a w K Q else E := by
  have hw : Region.wanted o (yielded ops a.tmps) = true := by simp [Region.wanted, hgd]
  rw [if_pos hw]
  exact wp_append_sl s x t ho i z bytes ht hi hz hsize hby hzs hsz hs hown hx hsrc h63 hbytes hb h
end
theorem RI.one {w : World} {cs : List Value} {x : Int} (h : RI w cs x) : ∀ u ∈ cs, u.oneCell' = true := by
  obtain ⟨rfl, _⟩ := h; simp [Value.oneCell']
/-- the goals of a slice that was there when the call began, cell by cell. -/
def RG (w : World) (cs : List Value) (x : Gl) : Prop := ∃ A c, cs = [.int .i64 x.op, .string x.nm, .slice A x.ts.length c] ∧ TmsAt w A x.ts ∧ I64 x.op ∧ x.nm.size ≤ maxLen
def RT (w : World) (cs : List Value) (x : Tm) : Prop := ∃ A c, cs = [.int .i64 x.kd, .int .i64 x.it, .string x.nm, .slice A x.ts.length c] ∧ TmsAt w A x.ts ∧ I64 x.kd ∧ I64 x.it ∧ x.nm.size ≤ maxLen
theorem RG.one {w : World} {cs : List Value} {x : Gl} (h : RG w cs x) : ∀ u ∈ cs, u.oneCell' = true := by
  obtain ⟨A, c, rfl, _⟩ := h
  simp [Value.oneCell']
theorem RT.one {w : World} {cs : List Value} {x : Tm} (h : RT w cs x) : ∀ u ∈ cs, u.oneCell' = true := by
  obtain ⟨A, c, rfl, _⟩ := h
  simp [Value.oneCell']
/-- the elements of a slice that was there when the call began, as a source. -/
theorem sl_src {α : Type} {RAt : World → Nat → Nat → α → Prop} {R : World → List Value → α → Prop} {sz : Nat} (hsz : 0 < sz) (hR : ∀ w b o x, RAt w b o x → ∃ cs, cs.length = sz ∧ R w cs x ∧ ∀ j, j < sz → w.cell? ⟨b, o + j, none⟩ = cs[j]?) (hone : ∀ w cs x, R w cs x → ∀ u ∈ cs, u.oneCell' = true)
    {w0 w : World} {A : Option Addr} {l : List α} (h : SlAt RAt sz w0 A l) (hb : Below w0.heap.size w0 w) : ∃ css, Srcs R sz w0 w A l css := by
  have hch : ∀ k : Nat, ∃ cs : List Value, ∀ x, l[k]? = some x → cs.length = sz ∧ R w0 cs x ∧ ∃ b off, A = some ⟨b, off, none⟩ ∧ b < w0.heap.size ∧ ∀ j, j < sz → w0.cell? ⟨b, off + k * sz + j, none⟩ = cs[j]? := by
    intro k
    cases hk : l[k]? with
    | none => exact ⟨[], fun x hx => by cases hx⟩
    | some x =>
      obtain ⟨b, off, e, hlt, hr⟩ := h.2 k x hk
      obtain ⟨cs, h1, h2, h3⟩ := hR _ _ _ _ hr
      exact ⟨cs, fun y hy => by cases hy; exact ⟨h1, h2, b, off, e, hlt, h3⟩⟩
  obtain ⟨f, hf⟩ := Classical.axiomOfChoice hch
  have hlen : ((List.range l.length).map f).length = l.length := by simp
  have hget : ∀ k cs, ((List.range l.length).map f)[k]? = some cs → k < l.length ∧ cs = f k := by
    intro k cs hc
    have hk : k < l.length := by rw [← hlen]; exact (List.getElem?_eq_some_iff.1 hc).1
    refine ⟨hk, ?_⟩
    rw [List.getElem?_map, List.getElem?_range hk] at hc
    exact (Option.some.inj hc).symm
  have hsz2 : ∀ c ∈ (List.range l.length).map f, c.length = sz := by
    intro c hc
    obtain ⟨k, hk⟩ := List.getElem?_of_mem hc
    obtain ⟨hlt, rfl⟩ := hget k c hk
    exact (hf k _ (List.getElem?_eq_getElem hlt)).1
  refine ⟨(List.range l.length).map f, hlen, hsz2, ?_, ?_, ?_⟩
  · intro k x cs hx hc
    obtain ⟨hlt, rfl⟩ := hget k cs hc
    exact (hf k x hx).2.1
  · intro u hu
    obtain ⟨cs, hcs, hu⟩ := List.mem_flatten.1 hu
    obtain ⟨k, hk⟩ := List.getElem?_of_mem hcs
    obtain ⟨hlt, rfl⟩ := hget k cs hk
    exact hone _ _ _ (hf k _ (List.getElem?_eq_getElem hlt)).2.1 u hu
  · intro hne
    have h0 : 0 < l.length := List.length_pos_iff.2 hne
    obtain ⟨b, off, rfl, hlt, _⟩ := (hf 0 _ (List.getElem?_eq_getElem h0)).2.2
    refine ⟨_, rfl, fun j u hu => ?_⟩
    rw [addr_add]
    have hj : j < l.length * sz := by
      have := (List.getElem?_eq_some_iff.1 hu).1
      rw [flat_len _ hsz2, hlen] at this
      exact this
    have hq : j / sz < l.length := Nat.div_lt_of_lt_mul (by rw [Nat.mul_comm]; exact hj)
    have hr : j % sz < sz := Nat.mod_lt _ hsz
    have hjd : j / sz * sz + j % sz = j := by rw [Nat.mul_comm]; exact Nat.div_add_mod j sz
    obtain ⟨b', off', e', hlt', hc⟩ := (hf (j / sz) _ (List.getElem?_eq_getElem hq)).2.2
    cases e'
    have hfa := flatten_at hsz _ (j / sz) (f (j / sz)) hsz2 (by rw [List.getElem?_map, List.getElem?_range hq]; rfl) (j % sz) hr
    rw [hjd] at hfa
    rw [hfa] at hu
    have := hc _ hr
    rw [show off + j / sz * sz + j % sz = off + j by omega] at this
    rw [hb.cell (p := ⟨b, off + j, none⟩) hlt, this, hu]
theorem lt_four {j : Nat} (h : j < 4) : j = 0 ∨ j = 1 ∨ j = 2 ∨ j = 3 := by omega
theorem tms_src {w0 w : World} {A : Option Addr} {l : List Tm} (h : TmsAt w0 A l) (hb : Below w0.heap.size w0 w) : ∃ css, Srcs RT 4 w0 w A l css :=
  sl_src (by decide) (fun w b o x hx => by
    obtain ⟨⟨p0, q0⟩, ⟨p1, q1⟩, ⟨p2, q2⟩, B, c, p3, hB⟩ := hx.open_
    refine ⟨_, rfl, ⟨B, c, rfl, hB, q0, q1, q2⟩, fun j hj => ?_⟩
    rcases lt_four hj with rfl | rfl | rfl | rfl
    · exact p0
    · exact p1
    · exact p2
    · exact p3) (fun _ _ _ h => h.one) h hb
theorem gls_src {w0 w : World} {A : Option Addr} {l : List Gl} (h : SlAt GlAt 3 w0 A l) (hb : Below w0.heap.size w0 w) : ∃ css, Srcs RG 3 w0 w A l css :=
  sl_src (by decide) (fun w b o x hx => by
    obtain ⟨⟨p0, q0⟩, ⟨p1, q1⟩, B, c, p2, hB⟩ := hx
    refine ⟨_, rfl, ⟨B, c, rfl, hB, q0, q1⟩, fun j hj => ?_⟩
    rcases (show j = 0 ∨ j = 1 ∨ j = 2 by omega) with rfl | rfl | rfl
    · exact p0
    · exact p1
    · exact p2) (fun _ _ _ h => h.one) h hb
theorem TmAt.close {w : World} {b o : Nat} {x : Tm} (h0 : IntAt w b o x.kd) (h1 : IntAt w b (o + 1) x.it) (h2 : StrAt w b (o + 2) x.nm) (h3 : SlCell TmAt 4 w b (o + 3) x.ts) : TmAt w b o x := by
  obtain ⟨kd, it, nm, ts⟩ := x
  obtain ⟨A, c, hc, hl, hx⟩ := h3
  by_cases hne : ts = []
  · subst hne
    exact TmAt.mk (b' := 0) (off' := 0) h0 h1 h2 hc hl (fun h => absurd rfl h) (fun k x hx => by simp at hx)
  · obtain ⟨y, hy⟩ : ∃ y, ts[0]? = some y := ⟨_, List.getElem?_eq_getElem (List.length_pos_iff.2 hne)⟩
    obtain ⟨b', o', e, hlt, _⟩ := hx 0 y hy
    refine TmAt.mk (b' := b') (off' := o') h0 h1 h2 hc hl (fun _ => ⟨e, hlt⟩) (fun k x hk => ?_)
    obtain ⟨b2, o2, e2, _, h⟩ := hx k x hk
    rw [e] at e2
    cases e2
    exact h
theorem RT.at_ {w0 w : World} (hb : Below w0.heap.size w0 w) (b o : Nat) (cs : List Value) (x : Tm) (hlt : b < w.heap.size) (hc : ∀ j, j < 4 → w.cell? ⟨b, o + j, none⟩ = cs[j]?) (h : RT w0 cs x) : TmAt w b o x := by
  obtain ⟨A, c, rfl, ht, h1, h2, h3⟩ := h
  exact TmAt.close ⟨hc 0 (by decide), h1⟩ ⟨hc 1 (by decide), h2⟩ ⟨hc 2 (by decide), h3⟩ ⟨A, c, hc 3 (by decide), ht.below hb⟩
end Go.Proofs.Ytahhaiomdjlckaa
