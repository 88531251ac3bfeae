/-
  All operations together; regions that keep their order; code.
-/
import Derived.Test.YtahhaiomdjlckaaDoorMore
namespace Go.Proofs.YtahhaiomdjlckaaDoor
set_option linter.unusedVariables false
set_option linter.unusedSimpArgs false
open Go.RowKit

section
variable {P : Program} {w0 : World} {n : Nat} {o : Oper} {α : AA} {S S' : Store} {r : AV}
theorem reps_append {g : Gh} {w : World} {l m : List AV} {xs ys : Array Value} (h : Reps g w l xs) (k : Reps g w m ys) : Reps g w (l ++ m) (xs ++ ys) := by
  refine ⟨by simp [h.1, k.1], fun i a x h1 h2 => ?_⟩
  by_cases c : i < l.length
  · rw [List.getElem?_append_left c] at h1
    rw [Array.getElem?_append_left (by rw [h.1]; exact c)] at h2
    exact h.2 i a x h1 h2
  · rw [List.getElem?_append_right (by omega)] at h1
    rw [Array.getElem?_append_right (by rw [h.1]; omega), h.1] at h2
    exact k.2 _ a x h1 h2
theorem ops_cal {c : Call} {f : Operand} {gf : FuncId} {args : List AV} {r : AV} (ho : o.op = .call c) (hc : c.callee = .value f)
    (hf : ∀ (A : Nat → Prop) (g : Gh) (a : Act) (w : World), St w0 A g S w → ARep g w n α a → ∃ first cap, a.eval f = .func (.func gf) first cap ∧ Reps g w args (first ++ c.args.map a.eval ++ cap)) (h : Cal P w0 gf args S r S') : OpS P w0 n o α S r S' := by
  intro F m A g a w next Q hF hS hA hnext
  rw [Oper.semAt_eq _ _ _ (fun c' e => by rw [ho] at e; cases e)]
  obtain ⟨first, cap, he, hr⟩ := hf A g a w hS hA
  have hrun : (execOp a.eval o).run P w = .ok (.enter gf (first ++ c.args.map a.eval ++ cap)) w := by
    simp only [execOp, ho, resolve, hc, he, Deferred.ofValue, Sem.run_bind, Sem.run_pure, Result.andThen_ok, invoke]
    exact h.1 _ w
  rw [hrun, Oper.uponIn_enter]
  refine ⟨fun hd => (by rw [hF.2.1] at hd; cases hd), (h.2 F (m - 1) A g _ w hF hS hr).mono ?_⟩
  rintro e w' ⟨v, g', rfl, h1, h2, h3⟩
  exact hnext v w' g' h1 h2 h3
theorem ops_rnd {c : Call} {f : Operand} {k : Nat} {r : AV} (ho : o.op = .call c) (hc : c.callee = .value f) (hf : α.ev f = .yl k) (h : Rnd P w0 k (c.args.toList.map α.ev) S r S') : OpS P w0 n o α S r S' := by
  intro F m A g a w next Q hF hS hA hnext
  rw [Oper.semAt_eq _ _ _ (fun c' e => by rw [ho] at e; cases e)]
  have h1 := hA.ev f
  rw [hf] at h1
  obtain ⟨y, hy⟩ : ∃ y, a.eval f = y := ⟨_, rfl⟩
  rw [hy] at h1
  cases h1 with
  | yl hk =>
    obtain ⟨l, fn, tmps, assign, body, hyield, hround⟩ := h F (m - 1) A g (c.args.map a.eval) w hF hS hk (reps_map hA c.args)
    have hrun : (execOp a.eval o).run P w = .ok (.round l fn tmps assign body) w := by
      simp only [execOp, ho, resolve, hc, hy, Deferred.ofValue, Sem.run_bind, Sem.run_pure, Result.andThen_ok, invoke]
      simpa using hyield
    rw [hrun, Oper.uponIn_round]
    refine ⟨fun hd => (by rw [hF.2.1] at hd; cases hd), hround.mono ?_⟩
    rintro e w' ⟨v, g', rfl, h1, h2, h3⟩
    exact hnext v w' g' h1 h2 h3
theorem map_one {β γ : Type} {f : β → γ} {l : Array β} {a : γ} (h : l.toList.map f = [a]) : ∃ x, l = #[x] ∧ f x = a := by
  obtain ⟨l⟩ := l
  match l, h with
  | [x], h => exact ⟨x, rfl, by simpa using h⟩
theorem map_two {β γ : Type} {f : β → γ} {l : Array β} {a b : γ} (h : l.toList.map f = [a, b]) : ∃ x y, l = #[x, y] ∧ f x = a ∧ f y = b := by
  obtain ⟨l⟩ := l
  match l, h with
  | [x, y], h => exact ⟨x, y, rfl, by simp at h; exact h.1, by simp at h; exact h.2⟩
theorem nodefer {op : Op} (ho : o.op = op) (h : ∀ c, op ≠ .defer c) : ∀ c, o.op ≠ .defer c := fun c e => h c (ho.symm.trans e)
/-- what opK says of an operation, it does. -/
theorem opK_sound {K : AV → Store → Prop} (h : opK P w0 o.op α S K) : ∃ r S', OpS P w0 n o α S r S' ∧ K r S' := by
  have ok : ∀ {r : AV} {S' : Store}, RunV P w0 n o α S r S' → (∀ c, o.op ≠ .defer c) → K r S' → ∃ r S', OpS P w0 n o α S r S' ∧ K r S' := fun hr hd hK => ⟨_, _, hr.ops hd, hK⟩
  cases hop : o.op with
  | move x => rw [hop] at h; exact ok (run_move (.inl hop)) (nodefer hop fun c e => by cases e) h
  | assign x => rw [hop] at h; exact ok (run_move (.inr hop)) (nodefer hop fun c e => by cases e) h
  | pick c a b =>
    rw [hop] at h
    simp only [opK, gotA] at h
    split at h
    · rename_i t hc
      have hr := run_pick (n := n) (P := P) (w0 := w0) (S := S) hop hc
      cases t with
      | true => exact ok hr (nodefer hop fun c e => by cases e) h
      | false => exact ok hr (nodefer hop fun c e => by cases e) h
    · exact h.elim
  | alloc e =>
    rw [hop] at h
    simp only [opK, gotA] at h
    split at h
    · rename_i z hz; exact ok (run_alloc hop hz) (nodefer hop fun c e => by cases e) h
    · exact h.elim
  | box e x =>
    rw [hop] at h
    simp only [opK, gotA] at h
    split at h
    · rename_i hx; exact ok (run_box hop hx) (nodefer hop fun c e => by cases e) h
    · exact h.elim
  | build t parts =>
    rw [hop] at h
    simp only [opK, gotA] at h
    split at h
    · rename_i a ha; exact ok (run_buildA hop ha) (nodefer hop fun c e => by cases e) h
    · exact h.elim
  | buildSlice t len parts =>
    rw [hop] at h
    simp only [opK, gotA] at h
    split at h
    · rename_i e he
      split at h
      · rename_i z sz hz hs
        split at h
        · rename_i hb
          simp only [Bool.and_eq_true] at hb
          obtain ⟨⟨b1, b2⟩, b3⟩ := hb
          split at h
          · rename_i rows hr
            have hu : P.underlying t = some (.slice e) := by
              unfold elemT at he
              split at he
              · rename_i e' hu; rw [hu, Option.some.inj he]
              · cases he
            exact ok (run_buildSlice hop hu hz hs (Nat.le_of_ble_eq_true b1) (Nat.eq_of_beq_eq_true b2) (Nat.lt_of_lt_of_le Nat.zero_lt_one (Nat.le_of_ble_eq_true b3)) hr) (nodefer hop fun c e => by cases e) h
          · exact h.elim
        · exact h.elim
      · exact h.elim
    · exact h.elim
  | load t x =>
    rw [hop] at h
    simp only [opK, gotA] at h
    split at h
    · rename_i a ha; exact ok (run_loadT hop ha) (nodefer hop fun c e => by cases e) h
    · exact h.elim
  | store t x b =>
    rw [hop] at h
    simp only [opK, gotA] at h
    split at h
    · rename_i a ha; exact ok (run_storeT hop ha) (nodefer hop fun c e => by cases e) h
    · exact h.elim
  | binOp op t x y ty =>
    rw [hop] at h
    simp only [opK, gotA] at h
    split at h
    · rename_i k a k' b hx hy
      split at h
      · rename_i c hc
        split at h
        · rename_i hk
          obtain rfl := of_decide_eq_true hk
          obtain ⟨d, rfl, hK⟩ := h
          exact ok (run_arith hop hx hy hc) (nodefer hop fun c e => by cases e) hK
        · exact h.elim
      · split at h
        · rename_i v hv; exact ok (run_binV hop hx hy hv) (nodefer hop fun c e => by cases e) h.out
        · exact h.elim
    · rename_i a b hx hy
      split at h
      · exact ok (run_concat hop hx hy h.1) (nodefer hop fun c e => by cases e) h.2
      · split at h
        · rename_i v hv; exact ok (run_binV hop hx hy hv) (nodefer hop fun c e => by cases e) h.out
        · exact h.elim
    · rename_i a b n1 n2 hx hy
      split at h
      · rename_i v hv; exact ok (run_binV hop hx hy hv) (nodefer hop fun c e => by cases e) h.out
      · exact h.elim
    · exact h.elim
  | unOp op t x =>
    rw [hop] at h
    simp only [opK, gotA] at h
    split at h
    · rename_i b hx; exact ok (run_not hop hx) (nodefer hop fun c e => by cases e) h
    · rename_i k a hx
      obtain ⟨d, rfl, hK⟩ := h
      exact ok (run_neg hop hx) (nodefer hop fun c e => by cases e) hK
    · exact h.elim
  | convert src dst x =>
    rw [hop] at h
    simp only [opK, gotA] at h
    split at h
    · rename_i k0 k k' a hs hd hx
      obtain ⟨d, rfl, hK⟩ := h
      exact ok (run_convInt hop hs hd hx) (nodefer hop fun c e => by cases e) hK
    · rename_i s hs hd hx
      exact ok (run_convStr hop hs hd hx) (nodefer hop fun c e => by cases e) h
    · exact h.elim
  | fieldAddr s x f =>
    rw [hop] at h
    simp only [opK, gotA] at h
    split at h
    · rename_i fs hu
      split at h
      · rename_i fd hf
        split at h
        · rename_i m hs
          split at h
          · rename_i row hx; exact ok (run_fieldIp hop hu hf hs hx) (nodefer hop fun c e => by cases e) h
          · rename_i k sz i j hx; exact ok (run_fieldPt hop hu hf hs hx) (nodefer hop fun c e => by cases e) h
          · exact h.elim
        · exact h.elim
      · exact h.elim
    · exact h.elim
  | field t x f =>
    rw [hop] at h
    simp only [opK, gotA] at h
    split at h
    · rename_i fs hu
      split at h
      · rename_i fd hf
        split at h
        · rename_i l hx
          split at h
          · rename_i a ha; exact ok (run_fieldA hop hu hf hx ha) (nodefer hop fun c e => by cases e) h
          · exact h.elim
        · exact h.elim
      · exact h.elim
    · exact h.elim
  | indexAddr t x i =>
    rw [hop] at h
    simp only [opK, gotA] at h
    split at h
    · rename_i e ex rows kd k hu hx hy
      split at h
      · rename_i sz hs
        split at h
        · rename_i row hi; exact ok (run_indexSl hop hu hx hy hs hi h.1) (nodefer hop fun c e => by cases e) h.2
        · exact h.elim
      · exact h.elim
    · rename_i e k sz off len cx kd i hu hx hy
      exact ok (run_indexOb hop hu hx hy h.1 h.2.1 h.2.2.1) (nodefer hop fun c e => by cases e) h.2.2.2
    · rename_i len e k sz i j kd q hu hx hy
      split at h
      · rename_i m hs; exact ok (run_indexArrPt hop hu hx hy hs h.1 h.2.1) (nodefer hop fun c e => by cases e) h.2.2
      · exact h.elim
    · rename_i len e row kd q hu hx hy
      split at h
      · rename_i m hs; exact ok (run_indexArrIp hop hu hx hy hs h.1 h.2.1) (nodefer hop fun c e => by cases e) h.2.2
      · exact h.elim
    · exact h.elim
  | index t x i =>
    rw [hop] at h
    simp only [opK, gotA] at h
    split at h
    · rename_i s kd k hu hx hy
      split at h
      · rename_i b hi; exact ok (run_indexStr hop hu hx hy hi) (nodefer hop fun c e => by cases e) h
      · exact h.elim
    · rename_i len e l kd q hu hx hy
      split at h
      · rename_i m hs
        split at h
        · rename_i a ha; exact ok (run_indexAgg hop hu hx hy hs ha h.1 h.2.1) (nodefer hop fun c e => by cases e) h.2.2
        · exact h.elim
      · exact h.elim
    · exact h.elim
  | slice t x lo hi mx =>
    rw [hop] at h
    obtain ⟨r, S', hr, hK⟩ := run_sliceK (n := n) hop h
    exact ok hr (nodefer hop fun c e => by cases e) hK
  | extract x i =>
    rw [hop] at h
    simp only [opK, gotA] at h
    split at h
    · rename_i l hx
      split at h
      · rename_i a ha; exact ok (run_extract hop hx ha) (nodefer hop fun c e => by cases e) h
      · exact h.elim
    · exact h.elim
  | makeSlice t l c =>
    rw [hop] at h
    simp only [opK, gotA] at h
    split at h
    · rename_i e ka a kb b he hl hc
      split at h
      · rename_i z sz by_ hz hs hby
        split at h
        · rename_i hb
          simp only [Bool.and_eq_true] at hb
          obtain ⟨h1, rfl, h2, h3, hK⟩ := h
          have hu : P.underlying t = some (.slice e) := by
            unfold elemT at he
            split at he
            · rename_i e' hu; rw [hu, Option.some.inj he]
            · cases he
          exact ok (run_makeSl hop hu hz hs hby (Nat.eq_of_beq_eq_true hb.1) (Nat.lt_of_lt_of_le Nat.zero_lt_one (Nat.le_of_ble_eq_true hb.2)) hl hc h1 h2 h3) (nodefer hop fun c e => by cases e) hK
        · exact h.elim
      · exact h.elim
    · exact h.elim
  | range t x =>
    rw [hop] at h
    simp only [opK] at h
    split at h
    · rename_i s hu hx
      exact ok (run_rangeStr hop hu hx) (nodefer hop fun c e => by cases e) h
    · exact h.elim
  | next x isStr =>
    rw [hop] at h
    simp only [opK] at h
    split at h
    · rename_i k sz hx
      obtain ⟨⟨s, pos⟩, hk, d, hd, h⟩ := h.out
      have hk := siOf_some hk
      cases d with
      | true => exact ok (run_nextStr hop hx hk (of_decide_eq_true hd)) (nodefer hop fun c e => by cases e) h
      | false => exact ok (run_nextEnd hop hx hk (of_decide_eq_false hd)) (nodefer hop fun c e => by cases e) h
    · exact h.elim
  | makeFunc f first cap => rw [hop] at h; exact ok (run_makeFunc hop) (nodefer hop fun c e => by cases e) h
  | nilCheck x =>
    rw [hop] at h
    simp only [opK, gotA] at h
    split at h
    · rename_i c hx
      have := run_nilIp (P := P) (w0 := w0) (n := n) (S := S) hop (.inl ⟨c, hx⟩)
      rw [hx] at this
      exact ok this (nodefer hop fun c e => by cases e) h
    · rename_i k sz i j hx
      have := run_nilIp (P := P) (w0 := w0) (n := n) (S := S) hop (.inr ⟨k, sz, i, j, hx⟩)
      rw [hx] at this
      exact ok this (nodefer hop fun c e => by cases e) h
    · exact h.elim
  | call c =>
    rw [hop] at h
    simp only [opK, gotA] at h
    split at h
    · rename_i f hc
      unfold callK at h
      split at h
      · rename_i gf first cap hf
        split at h
        · rename_i e1 e2
          obtain ⟨r, S', hcal, hK⟩ := h
          have e1 : first = #[] := by simpa using e1
          have e2 : cap = #[] := by simpa using e2
          subst e1 e2
          refine ⟨r, S', ops_cal hop hc (fun A g a w hS hA => ?_) hcal, hK⟩
          have h1 := hA.ev f
          rw [hf] at h1
          refine ⟨#[], #[], rep_v h1, ?_⟩
          have e : (#[] : Array Value) ++ c.args.map a.eval ++ #[] = c.args.map a.eval := by simp
          rw [e]
          exact reps_map hA c.args
        · exact h.elim
      · rename_i gf first cap hf
        obtain ⟨r, S', hcal, hK⟩ := h
        refine ⟨r, S', ops_cal hop hc (fun A g a w hS hA => ?_) hcal, hK⟩
        have h1 := hA.ev f
        rw [hf] at h1
        obtain ⟨y, hy⟩ : ∃ y, a.eval f = y := ⟨_, rfl⟩
        rw [hy] at h1
        cases h1 with
        | @fn _ _ _ cs ds p1 p2 p3 p4 =>
          exact ⟨cs, ds, hy, reps_append (reps_append ⟨p1, p3⟩ (reps_map hA c.args)) ⟨p2, p4⟩⟩
      · rename_i k hf
        obtain ⟨r, S', hrnd, hK⟩ := h
        exact ⟨r, S', ops_rnd hop hc hf hrnd, hK⟩
      · exact h.elim
    · rename_i b hc
      unfold builtinK at h
      split at h
      · split at h
        · rename_i t a hty hargs
          obtain ⟨x, hx, hxa⟩ := map_one hargs
          unfold gotA at h
          split at h
          · rename_i m hlen
            unfold lenOf at hlen
            split at hlen
            · rename_i e m' hu hs hm
              obtain rfl := Option.some.inj hlen
              exact ok (run_len hop hc (toList_one hty) hx hxa hm hu (.inl ⟨e, rfl, fun s e => by rw [e] at hs; cases hs⟩)) (nodefer hop fun c e => by cases e) h
            · rename_i m' hu hs hm
              obtain rfl := Option.some.inj hlen
              refine ok (run_len hop hc (toList_one hty) hx hxa hm hu (.inr ⟨rfl, ?_⟩)) (nodefer hop fun c e => by cases e) h
              unfold isStr at hs
              split at hs
              · exact ⟨_, rfl⟩
              · cases hs
            · cases hlen
          · exact h.elim
        · exact h.elim
      · split at h
        · rename_i t t2 a b hty hargs
          obtain ⟨x, y, hxy, hxa, hyb⟩ := map_two hargs
          split at h
          · rename_i e e2 he he2
            split at h
            · rename_i hz
              obtain ⟨more, hm, h⟩ := h.out
              split at hz
              · rename_i z sz hz0 hs
                have elem : ∀ {t e : TypeId}, elemT P t = some e → P.underlying t = some (.slice e) := by
                  intro t e he
                  unfold elemT at he
                  split at he
                  · rename_i e' hu; rw [hu, Option.some.inj he]
                  · cases he
                obtain ⟨r, S', hr, hK⟩ := run_appendK (n := n) (w0 := w0) hop hc (toList_two hty) hxy hxa hyb (elem he) (elem he2) hm h.1 hz0 hs (Nat.eq_of_beq_eq_true hz) h.2
                exact ok hr (nodefer hop fun c e => by cases e) hK
              · cases hz
            · exact h.elim
          · exact h.elim
        · exact h.elim
      · split at h
        · rename_i k a k' b hargs
          obtain ⟨x, y, hxy, hxa, hyb⟩ := map_two hargs
          split at h
          · rename_i hk
            obtain rfl := of_decide_eq_true hk
            exact ok (run_min hop hc hxy hxa hyb) (nodefer hop fun c e => by cases e) h
          · exact h.elim
        · exact h.elim
      · split at h
        · rename_i k a k' b hargs
          obtain ⟨x, y, hxy, hxa, hyb⟩ := map_two hargs
          split at h
          · rename_i hk
            obtain rfl := of_decide_eq_true hk
            exact ok (run_max hop hc hxy hxa hyb) (nodefer hop fun c e => by cases e) h
          · exact h.elim
        · exact h.elim
      · exact h.elim
    · exact h.elim
  | _ => rw [hop] at h; exact h.elim
end
end Go.Proofs.YtahhaiomdjlckaaDoor
