/-
  A region that draws its order: what it does in the order of the text it does in every order.
-/
import Derived.Test.YtahhaiomdjlckaaDoorDraw1
namespace Go.Proofs.YtahhaiomdjlckaaDoor
set_option linter.unusedVariables false
set_option linter.unusedSimpArgs false
open Go.RowKit

section
variable {P : Program} {w0 : World} {n : Nat} {o : Oper} {α β : AA} {S S' : Store} {r : AV} {ops : Array Oper}
def opr (o : Oper) : List Tmp := o.op.operands.toList.filterMap fun | .tmp t => some t | _ => none
theorem opr_mem {t : Tmp} (h : Operand.tmp t ∈ o.op.operands) : t ∈ opr o := by
  unfold opr
  rw [List.mem_filterMap]
  exact ⟨.tmp t, by simpa using h, rfl⟩
theorem opr_looks {t : Tmp} (h : t ∈ opr o) : t ∈ o.looksAt ops := List.mem_append.2 (.inl h)
/-- one operation in its place; cls: what it is told apart by. -/
def GS (P : Program) (w0 : World) (n : Nat) (ops : Array Oper) (i : Nat) (α : AA) (S : Store) (α1 : AA) (S1 : Store) : Prop :=
  ∃ o, ops[i]? = some o ∧ (match o.dst with | some d => Nat.blt d n | none => true) = true ∧
    ((∃ (j : Nat) (want : Bool) (b : Option Bool), o.guard = some (j, want) ∧ ydA ops α j = some b ∧ b ≠ some want ∧ α1 = α.put o.dst (.v undef) ∧ S1 = S) ∨
     ((o.guard = none ∨ ∃ j want, o.guard = some (j, want) ∧ ydA ops α j = some (some want)) ∧ ∃ r, α1 = α.put o.dst r ∧ OpS P w0 n o (α.only (opr o)) S r S1 ∧
        (isP o.op = true → S1 = S ∧ ∀ S, OpS P w0 n o (α.only (opr o)) S r S) ∧ (isW o.op = false → S1 = S)))
theorem put_tm {d : Option Tmp} {a : AV} {t : Tmp} (h : ∀ e, d = some e → t ≠ e) : (α.put d a).tm t = α.tm t := by
  cases d with
  | none => rfl
  | some e => exact upd_other _ _ (h e rfl)
theorem put_df {d : Option Tmp} {a : AV} : (α.put d a).df = α.df := by cases d <;> rfl
theorem only_put {d : Option Tmp} {a : AV} {ts : List Tmp} (h : ∀ e, d = some e → e ∉ ts) : (α.put d a).only ts = α.only ts := by
  unfold AA.only
  rw [put_df]
  congr 1
  funext t
  by_cases c : ts.contains t = true
  · rw [if_pos c, if_pos c]
    exact put_tm fun e he e2 => h e he (by rw [← e2]; simpa using c)
  · rw [if_neg c, if_neg c]
theorem yd_put {d : Option Tmp} {a : AV} {j : Nat} (h : ∀ e, d = some e → (ops[j]?).bind (·.dst) ≠ some e) : ydA ops (α.put d a) j = ydA ops α j := by
  unfold ydA
  split
  · rename_i t ht
    rw [put_tm fun e he e2 => h e he (by rw [ht, e2])]
  · rfl
theorem put_comm {d e : Option Tmp} {a b : AV} (h : ∀ t, d = some t → e ≠ some t) : (α.put d a).put e b = (α.put e b).put d a := by
  cases d with
  | none => rfl
  | some d =>
    cases e with
    | none => rfl
    | some e =>
      have hne : e ≠ d := fun he => h d rfl (by rw [he])
      show (⟨upd (upd α.tm d a) e b, α.df⟩ : AA) = ⟨upd (upd α.tm e b) d a, α.df⟩
      congr 1
      funext t
      by_cases c1 : t = e
      · subst c1; rw [upd_same, upd_other _ _ hne, upd_same]
      · rw [upd_other _ _ c1]
        by_cases c2 : t = d
        · subst c2; rw [upd_same, upd_same]
        · rw [upd_other _ _ c2, upd_other _ _ c2, upd_other _ _ c1]
def commB (x y : Oper) : Bool := isP x.op || isP y.op || (!isW x.op && !isW y.op)
theorem GS.frame {i : Nat} {α1 : AA} {S1 : Store} {d : Option Tmp} {a : AV} (h : GS P w0 n ops i α S α1 S1) (hd : ∀ o, ops[i]? = some o → ∀ e, d = some e → e ∉ o.looksAt ops ∧ o.dst ≠ some e) : GS P w0 n ops i (α.put d a) S (α1.put d a) S1 := by
  obtain ⟨o, hi, hn, h⟩ := h
  have h1 : ∀ e, d = some e → e ∉ opr o := fun e he hm => (hd o hi e he).1 (opr_looks hm)
  have h2 : ∀ j want, o.guard = some (j, want) → ∀ e, d = some e → (ops[j]?).bind (·.dst) ≠ some e := by
    intro j want hg e he h3
    refine (hd o hi e he).1 (List.mem_append.2 (.inr ?_))
    rw [hg]
    simp only
    rw [h3]
    simp
  have hc : ∀ x, (α.put o.dst x).put d a = (α.put d a).put o.dst x := fun x => (put_comm fun t ht e => (hd o hi t ht).2 e).symm
  refine ⟨o, hi, hn, ?_⟩
  rcases h with ⟨j, want, b, hg, hy, hne, rfl, rfl⟩ | ⟨hg, r, rfl, h3, h4, h5⟩
  · exact .inl ⟨j, want, b, hg, by rw [yd_put (h2 j want hg)]; exact hy, hne, hc _, rfl⟩
  · refine .inr ⟨?_, r, hc _, by rw [only_put h1]; exact h3, by rw [only_put h1]; exact h4, h5⟩
    rcases hg with hg | ⟨j, want, hg, hy⟩
    · exact .inl hg
    · exact .inr ⟨j, want, hg, by rw [yd_put (h2 j want hg)]; exact hy⟩
/-- what an operation writes into its slot, and what it does to the store. -/
theorem GS.shape {i : Nat} {α1 : AA} {S1 : Store} (h : GS P w0 n ops i α S α1 S1) : ∃ o a, ops[i]? = some o ∧ α1 = α.put o.dst a ∧ (isW o.op = false → S1 = S) ∧ (isP o.op = true → S1 = S) := by
  obtain ⟨o, hi, hn, h⟩ := h
  rcases h with ⟨j, want, b, hg, hy, hne, rfl, rfl⟩ | ⟨hg, r, rfl, h3, h4, h5⟩
  · exact ⟨o, _, hi, rfl, fun _ => rfl, fun _ => rfl⟩
  · exact ⟨o, r, hi, rfl, h5, fun hp => (h4 hp).1⟩
theorem GS.anyS {i : Nat} {α1 : AA} {S1 T : Store} (h : GS P w0 n ops i α S α1 S1) (hp : ∀ o, ops[i]? = some o → isP o.op = true) : GS P w0 n ops i α T α1 T := by
  obtain ⟨o, hi, hn, h⟩ := h
  refine ⟨o, hi, hn, ?_⟩
  rcases h with ⟨j, want, b, hg, hy, hne, h1, h2⟩ | ⟨hg, r, h1, h3, h4, h5⟩
  · exact .inl ⟨j, want, b, hg, hy, hne, h1, rfl⟩
  · have h6 := (h4 (hp o hi)).2
    exact .inr ⟨hg, r, h1, h6 T, fun _ => ⟨rfl, h6⟩, fun _ => rfl⟩
/-- operations that ask nothing of each other change places. -/
theorem GS.swap {i j : Nat} {oi oj : Oper} {α1 α2 : AA} {S1 S2 : Store} (hi : ops[i]? = some oi) (hj : ops[j]? = some oj) (hap : oi.apart ops oj = true) (hc : commB oi oj = true) (h : GS P w0 n ops i α S α1 S1) (k : GS P w0 n ops j α1 S1 α2 S2) :
    ∃ α1' S1', GS P w0 n ops j α S α1' S1' ∧ GS P w0 n ops i α1' S1' α2 S2 := by
  obtain ⟨e1, e2, e3⟩ := Oper.apart_spec hap
  obtain ⟨oi', a, hi', rfl, hwi, hpi⟩ := h.shape
  obtain rfl : oi' = oi := by rw [hi] at hi'; exact (Option.some.inj hi').symm
  obtain ⟨oj', b, hj', rfl, hwj, hpj⟩ := k.shape
  obtain rfl : oj' = oj := by rw [hj] at hj'; exact (Option.some.inj hj').symm
  -- j before i: the slot of i is none that j looks at
  have kj : ∀ T T2, GS P w0 n ops j (α.put oi'.dst a) T ((α.put oi'.dst a).put oj'.dst b) T2 → GS P w0 n ops j α T (α.put oj'.dst b) T2 := by
    intro T T2 hk
    obtain ⟨o, ho, hn, hk⟩ := hk
    obtain rfl : o = oj' := by rw [hj] at ho; exact (Option.some.inj ho).symm
    have h1 : ∀ e, oi'.dst = some e → e ∉ opr o := fun e he hm => e1 e he (opr_looks hm)
    have h2 : ∀ q want, o.guard = some (q, want) → ∀ e, oi'.dst = some e → (ops[q]?).bind (·.dst) ≠ some e := by
      intro q want hg e he h3
      refine e1 e he (List.mem_append.2 (.inr ?_))
      rw [hg]
      simp only
      rw [h3]
      simp
    have inj : ∀ x y : AV, (α.put oi'.dst a).put o.dst x = (α.put oi'.dst a).put o.dst y → α.put o.dst x = α.put o.dst y := by
      intro x y hxy
      cases ho2 : o.dst with
      | none => rfl
      | some d =>
        rw [ho2] at hxy
        have : x = y := by
          have h3 := congrArg (fun z : AA => z.tm d) hxy
          simpa [AA.put, upd_same] using h3
        rw [this]
    refine ⟨o, ho, hn, ?_⟩
    rcases hk with ⟨q, want, c, hg, hy, hne, h3, h4⟩ | ⟨hg, r, h3, h4, h5, h6⟩
    · exact .inl ⟨q, want, c, hg, by rw [← yd_put (h2 q want hg)]; exact hy, hne, inj _ _ h3, h4⟩
    · rw [only_put h1] at h4 h5
      refine .inr ⟨?_, r, inj _ _ h3, h4, h5, h6⟩
      rcases hg with hg | ⟨q, want, hg, hy⟩
      · exact .inl hg
      · exact .inr ⟨q, want, hg, by rw [← yd_put (h2 q want hg)]; exact hy⟩
  have ki : ∀ T T2, GS P w0 n ops i α T (α.put oi'.dst a) T2 → GS P w0 n ops i (α.put oj'.dst b) T ((α.put oi'.dst a).put oj'.dst b) T2 := fun T T2 h' => h'.frame fun o ho e he => by
    obtain rfl : o = oi' := by rw [hi] at ho; exact (Option.some.inj ho).symm
    exact ⟨e3 e he, fun h3 => e2 e h3 he⟩
  simp only [commB, Bool.or_eq_true, Bool.and_eq_true, Bool.not_eq_true'] at hc
  rcases hc with (hp | hp) | ⟨hw1, hw2⟩
  · -- i asks nothing of the store
    have hS1 := hpi hp
    subst hS1
    exact ⟨_, S2, kj _ _ k, ki _ _ (h.anyS (fun o ho => by rw [hi] at ho; rw [← Option.some.inj ho]; exact hp))⟩
  · have hS2 := hpj hp
    subst hS2
    exact ⟨_, S, kj _ _ (k.anyS (T := S) (fun o ho => by rw [hj] at ho; rw [← Option.some.inj ho]; exact hp)), ki _ _ h⟩
  · have h1 := hwi hw1
    have h2 := hwj hw2
    subst h1 h2
    exact ⟨_, _, kj _ _ k, ki _ _ h⟩
/-- a list of operations, one behind the other. -/
inductive Der (P : Program) (w0 : World) (n : Nat) (ops : Array Oper) : List Nat → AA → Store → AA → Store → Prop where
  | nil (α : AA) (S : Store) : Der P w0 n ops [] α S α S
  | cons {i : Nat} {rest : List Nat} {α α1 α' : AA} {S S1 S' : Store} (h : GS P w0 n ops i α S α1 S1) (t : Der P w0 n ops rest α1 S1 α' S') : Der P w0 n ops (i :: rest) α S α' S'
def okPair (ops : Array Oper) (i j : Nat) : Bool :=
  match ops[i]?, ops[j]? with
  | some oi, some oj => oi.apart ops oj && commB oi oj
  | _, _ => false
theorem Der.front {j : Nat} : ∀ {C1 C2 : List Nat} {α α' : AA} {S S' : Store}, (∀ x ∈ C1, okPair ops x j = true) → Der P w0 n ops (C1 ++ j :: C2) α S α' S' → Der P w0 n ops (j :: (C1 ++ C2)) α S α' S'
  | [], C2, α, α', S, S', _, h => h
  | x :: C1, C2, α, α', S, S', hx, h => by
    cases h with
    | @cons _ _ _ α1 _ _ S1 _ h t =>
      have t' := Der.front (fun y hy => hx y (by simp [hy])) t
      cases t' with
      | @cons _ _ _ α2 _ _ S2 _ k t2 =>
        have hp := hx x (by simp)
        unfold okPair at hp
        split at hp
        · rename_i oi oj hi hj
          simp only [Bool.and_eq_true] at hp
          obtain ⟨α1', S1', h1, h2⟩ := h.swap hi hj hp.1 hp.2 k
          exact .cons h1 (.cons h2 t2)
        · cases hp
/-- in whatever order that the edges allow. -/
theorem Der.perm : ∀ {L C : List Nat} {α α' : AA} {S S' : Store}, C.Pairwise (· < ·) → L.Pairwise (fun y x => x < y → okPair ops x y = true) → (∀ x, x ∈ L ↔ x ∈ C) → L.Nodup → Der P w0 n ops C α S α' S' → Der P w0 n ops L α S α' S'
  | [], C, α, α', S, S', _, _, hm, _, h => by
    have : C = [] := by
      cases C with
      | nil => rfl
      | cons x C => have := (hm x).2 (by simp); cases this
    subst this
    exact h
  | y :: L, C, α, α', S, S', hC, hL, hm, hn, h => by
    obtain ⟨C1, C2, rfl⟩ := List.append_of_mem ((hm y).1 (by simp))
    rw [List.pairwise_cons] at hL
    rw [List.nodup_cons] at hn
    rw [List.pairwise_append, List.pairwise_cons] at hC
    obtain ⟨p1, ⟨p2, p3⟩, p4⟩ := hC
    have hx1 : ∀ x ∈ C1, x < y := fun x hx => p4 x hx y (by simp)
    have hx2 : ∀ x ∈ C2, y < x := p2
    have hmem : ∀ x, x ∈ L ↔ x ∈ C1 ++ C2 := by
      intro x
      have h0 := hm x
      simp only [List.mem_cons, List.mem_append] at h0 ⊢
      constructor
      · intro hx
        rcases h0.1 (.inr hx) with h1 | h1 | h1
        · exact .inl h1
        · subst h1; exact absurd hx hn.1
        · exact .inr h1
      · intro hx
        have hne : x ≠ y := by
          rintro rfl
          rcases hx with hx | hx
          · exact absurd (hx1 x hx) (Nat.lt_irrefl _)
          · exact absurd (hx2 x hx) (Nat.lt_irrefl _)
        rcases h0.2 (hx.elim .inl fun h => .inr (.inr h)) with h1 | h1
        · exact absurd h1 hne
        · exact h1
    have hf := Der.front (fun x hx => hL.1 x ((hmem x).2 (by simp [hx])) (hx1 x hx)) h
    cases hf with
    | cons h1 h2 =>
      refine .cons h1 (Der.perm (L := L) ?_ hL.2 hmem hn.2 h2)
      rw [List.pairwise_append]
      exact ⟨p1, p3, fun a ha b hb => p4 a ha b (by simp [hb])⟩
theorem ydA_only {ts : List Tmp} {j : Nat} {b : Option Bool} (h : ydA ops α j = some b) : ydA ops α j = some b := h
theorem Der.opsS : ∀ {L : List Nat} {α α' : AA} {S S' : Store}, Der P w0 n ops L α S α' S' → OpsS P w0 n ops L α S α' S'
  | [], _, _, _, _, .nil α S => fun F m A g a w Q hF hS hA hQ => hQ a w g hS hA (Ext.refl ..)
  | i :: rest, α, α', S, S', .cons (α1 := α1) (S1 := S1) h t => by
    have ih := Der.opsS t
    obtain ⟨o, hi, hd, h⟩ := h
    rcases h with ⟨j, want, b, hg, hy, hne, rfl, rfl⟩ | ⟨hg, r, rfl, h3, _, _⟩
    · intro F m A g a w Q hF hS hA hQ
      have hnw : ¬ Region.wanted o (yielded ops a.tmps) = true := by simp [Region.wanted, hg, yd_rep hA hy, hne]
      simp only [wpOpsIn, hi]
      rw [if_neg hnw]
      exact ⟨fun f _ => hF.1 f, ih F m A g _ w Q hF hS (put_rep hA hd .v) hQ⟩
    · intro F m A g a w Q hF hS hA hQ
      have hw : Region.wanted o (yielded ops a.tmps) = true := by
        rcases hg with hg | ⟨j, want, hg, hy⟩
        · simp [Region.wanted, hg]
        · simp [Region.wanted, hg, yd_rep hA hy]
      simp only [wpOpsIn, hi]
      rw [if_pos hw]
      refine ⟨fun f _ => hF.1 f, h3 F m A g a w _ Q hF hS (hA.only _) fun v w' g' hr hS' hE => ?_⟩
      exact ih F m A g' _ w' Q hF hS' (put_rep (hA.later hE.toLater) hd hr) fun a' w'' g'' h1 h2 h3 => hQ a' w'' g'' h1 h2 (hE.trans h3)
end
end Go.Proofs.YtahhaiomdjlckaaDoor
