/-
  What a reading of an argument gives at this program's types: terms, constraints, goals, rules, declarations, programs.
-/
import Derived.Test.YtahhaiomdjlckaaRep
import Derived.Test.YtahhaiomdjlckaaProg
namespace Go.Proofs.Ytahhaiomdjlckaa
set_option linter.unusedVariables false
set_option linter.unusedSimpArgs false
open Go.RowKit

section
variable {H : Type} {enc : TypeId × Value → H} {P : Program} {w : World} {sp : Nat → Bool} {held : Bool}
theorem fields_of_trod {t : TypeId} {fs : Array Field} (ht : P.underlying t = some (.struct fs)) {fuel : Nat} {cs : List Value} {d : DataW H × List MemPlace} (h : DataW.trod enc P w 0 sp held fuel t cs = some d) :
    ∃ n, fuel = n + 1 ∧ ∀ (i ty off : Nat), (fs[i]?).map (fun f => (f.type, f.offset)) = some (ty, off) → ∃ y, DataW.trod enc P w 0 sp held n ty ((cs.drop off).take (P.cellsOf ty)) = some y := by
  obtain ⟨xs, n, hn, _, _, hl, hf⟩ := DataW.trod_struct ht h
  refine ⟨n, hn, fun i ty off hi => ?_⟩
  obtain ⟨f, hi', hty⟩ := Option.map_eq_some_iff.1 hi
  simp only [Prod.mk.injEq] at hty
  obtain ⟨rfl, rfl⟩ := hty
  have hlt : i < fs.size := (Array.getElem?_eq_some_iff.1 hi').1
  exact ⟨xs[i]'(by omega), (hf i f hi').trans (List.getElem?_eq_getElem (by omega))⟩
theorem ReadsTo.mono {α : Type} {e : TypeId} {sz : Nat} {R : World → Nat → Nat → α → Prop} {n m : Nat} (h : ReadsTo enc P w sp held e sz R n) (hm : m ≤ n) : ReadsTo enc P w sp held e sz R m := fun k hk => h k (by omega)
end

theorem list2 {α : Type} {l : List α} (h : l.length = 2) : ∃ c0 c1, l = [c0, c1] :=
  match l, h with
  | [c0, c1], _ => ⟨c0, c1, rfl⟩
theorem list3 {α : Type} {l : List α} (h : l.length = 3) : ∃ c0 c1 c2, l = [c0, c1, c2] :=
  match l, h with
  | [c0, c1, c2], _ => ⟨c0, c1, c2, rfl⟩
theorem list4 {α : Type} {l : List α} (h : l.length = 4) : ∃ c0 c1 c2 c3, l = [c0, c1, c2, c3] :=
  match l, h with
  | [c0, c1, c2, c3], _ => ⟨c0, c1, c2, c3, rfl⟩
theorem list6 {α : Type} {l : List α} (h : l.length = 6) : ∃ c0 c1 c2 c3 c4 c5, l = [c0, c1, c2, c3, c4, c5] :=
  match l, h with
  | [c0, c1, c2, c3, c4, c5], _ => ⟨c0, c1, c2, c3, c4, c5, rfl⟩
theorem cInt : Try.prog.cellsOf 3 = 1 := by kernel_rfl
theorem cStr : Try.prog.cellsOf 9 = 1 := by kernel_rfl
theorem cTms : Try.prog.cellsOf 50 = 1 := by kernel_rfl
theorem cTm : Try.prog.cellsOf 69 = 4 := by kernel_rfl
theorem cAts : Try.prog.cellsOf 22 = 1 := by kernel_rfl
theorem cAt : Try.prog.cellsOf 52 = 2 := by kernel_rfl
theorem cGls : Try.prog.cellsOf 23 = 1 := by kernel_rfl
theorem cGl : Try.prog.cellsOf 65 = 3 := by kernel_rfl
theorem cRl : Try.prog.cellsOf 25 = 6 := by kernel_rfl
theorem cRls : Try.prog.cellsOf 27 = 1 := by kernel_rfl
theorem cDc : Try.prog.cellsOf 29 = 2 := by kernel_rfl
theorem cDcs : Try.prog.cellsOf 37 = 1 := by kernel_rfl

section
variable {H : Type} {enc : TypeId × Value → H} {w : World} {sp : Nat → Bool} {held : Bool}
theorem tm_reads : ∀ n, ReadsTo enc Try.prog w sp held 69 4 TmAt n := by
  intro n
  induction n with
  | zero => intro m hm; omega
  | succ n ih =>
    intro m hm b o cs d hlen hcell h
    obtain ⟨k, rfl, hf⟩ := fields_of_trod Try.underlying69 h
    obtain ⟨c0, c1, c2, c3, rfl⟩ := list4 hlen
    obtain ⟨y0, h0⟩ := hf 0 3 0 rfl
    obtain ⟨y1, h1⟩ := hf 1 3 1 rfl
    obtain ⟨y2, h2⟩ := hf 2 9 2 rfl
    obtain ⟨y3, h3⟩ := hf 3 50 3 rfl
    simp only [cInt, cStr, cTms, List.drop_zero, List.drop_succ_cons, List.take_succ_cons, List.take_zero] at h0 h1 h2 h3
    obtain ⟨x0, rfl, w0⟩ := int_of_trod Try.underlying3 h0
    obtain ⟨x1, rfl, w1⟩ := int_of_trod Try.underlying3 h1
    obtain ⟨x2, rfl, w2⟩ := str_of_trod Try.underlying9 h2
    obtain ⟨A, c, ts, rfl, hs⟩ := sl_of_trod Try.underlying50 cTm (by decide) (ih.mono (show k ≤ n by omega)) (Nat.le_refl k) h3
    have g0 := hcell 0 (by decide)
    have g1 := hcell 1 (by decide)
    have g2 := hcell 2 (by decide)
    have g3 := hcell 3 (by decide)
    by_cases hne : ts = []
    · subst hne
      exact ⟨_, TmAt.mk (b' := 0) (off' := 0) ⟨g0, w0⟩ ⟨g1, w1⟩ ⟨g2, w2⟩ g3 hs.1 (fun h => absurd rfl h) (fun k x hx => by simp at hx)⟩
    · obtain ⟨x, l, rfl⟩ := List.exists_cons_of_ne_nil hne
      obtain ⟨b', off', e, hlt, _⟩ := hs.2 0 x rfl
      refine ⟨_, TmAt.mk (b' := b') (off' := off') ⟨g0, w0⟩ ⟨g1, w1⟩ ⟨g2, w2⟩ g3 hs.1 (fun _ => ⟨e, hlt⟩) (fun k x hx => ?_)⟩
      obtain ⟨b2, off2, e2, _, hr⟩ := hs.2 k x hx
      rw [e] at e2
      injection e2 with e2
      injection e2 with e3 e4
      subst e3 e4
      exact hr
theorem tms_of {fuel : Nat} {v : Value} {d : DataW H × List MemPlace} (h : DataW.trod enc Try.prog w 0 sp held fuel 50 [v] = some d) : ∃ (A : Option Addr) (c : Nat) (l : List Tm), v = .slice A l.length c ∧ TmsAt w A l :=
  sl_of_trod Try.underlying50 cTm (by decide) (tm_reads fuel) (Nat.le_refl _) h
theorem at_reads (n : Nat) : ReadsTo enc Try.prog w sp held 52 2 AtAt n := by
  intro m hm b o cs d hlen hcell h
  obtain ⟨k, rfl, hf⟩ := fields_of_trod Try.underlying52 h
  obtain ⟨c0, c1, rfl⟩ := list2 hlen
  obtain ⟨y0, h0⟩ := hf 0 9 0 rfl
  obtain ⟨y1, h1⟩ := hf 1 50 1 rfl
  simp only [cStr, cTms, List.drop_zero, List.drop_succ_cons, List.take_succ_cons, List.take_zero] at h0 h1
  obtain ⟨x0, rfl, w0⟩ := str_of_trod Try.underlying9 h0
  obtain ⟨A, c, ts, rfl, hs⟩ := tms_of h1
  exact ⟨⟨x0, ts⟩, ⟨hcell 0 (by decide), w0⟩, A, c, hcell 1 (by decide), hs⟩
theorem ats_of {fuel : Nat} {v : Value} {d : DataW H × List MemPlace} (h : DataW.trod enc Try.prog w 0 sp held fuel 22 [v] = some d) : ∃ (A : Option Addr) (c : Nat) (l : List At), v = .slice A l.length c ∧ SlAt AtAt 2 w A l :=
  sl_of_trod Try.underlying22 cAt (by decide) (at_reads fuel) (Nat.le_refl _) h
theorem gl_reads (n : Nat) : ReadsTo enc Try.prog w sp held 65 3 GlAt n := by
  intro m hm b o cs d hlen hcell h
  obtain ⟨k, rfl, hf⟩ := fields_of_trod Try.underlying65 h
  obtain ⟨c0, c1, c2, rfl⟩ := list3 hlen
  obtain ⟨y0, h0⟩ := hf 0 3 0 rfl
  obtain ⟨y1, h1⟩ := hf 1 9 1 rfl
  obtain ⟨y2, h2⟩ := hf 2 50 2 rfl
  simp only [cInt, cStr, cTms, List.drop_zero, List.drop_succ_cons, List.take_succ_cons, List.take_zero] at h0 h1 h2
  obtain ⟨x0, rfl, w0⟩ := int_of_trod Try.underlying3 h0
  obtain ⟨x1, rfl, w1⟩ := str_of_trod Try.underlying9 h1
  obtain ⟨A, c, ts, rfl, hs⟩ := tms_of h2
  exact ⟨⟨x0, x1, ts⟩, ⟨hcell 0 (by decide), w0⟩, ⟨hcell 1 (by decide), w1⟩, A, c, hcell 2 (by decide), hs⟩
theorem gls_of {fuel : Nat} {v : Value} {d : DataW H × List MemPlace} (h : DataW.trod enc Try.prog w 0 sp held fuel 23 [v] = some d) : ∃ (A : Option Addr) (c : Nat) (l : List Gl), v = .slice A l.length c ∧ SlAt GlAt 3 w A l :=
  sl_of_trod Try.underlying23 cGl (by decide) (gl_reads fuel) (Nat.le_refl _) h
/-- a rule by its cells. -/
def RlCells (w : World) (cs : List Value) (r : Rl) : Prop :=
  ∃ kA kc rA rc gA gc bA bc, cs = [.string r.nm, .slice kA r.kp.length kc, .slice rA r.rm.length rc, .slice gA r.gd.length gc, .slice bA r.bd.length bc, .int .i64 r.vs] ∧ r.nm.size ≤ maxLen ∧
    SlAt AtAt 2 w kA r.kp ∧ SlAt AtAt 2 w rA r.rm ∧ SlAt GlAt 3 w gA r.gd ∧ SlAt GlAt 3 w bA r.bd ∧ I64 r.vs
theorem rl_of {fuel : Nat} {cs : List Value} {d : DataW H × List MemPlace} (hlen : cs.length = 6) (h : DataW.trod enc Try.prog w 0 sp held fuel 25 cs = some d) : ∃ r, RlCells w cs r := by
  obtain ⟨k, rfl, hf⟩ := fields_of_trod Try.underlying25 h
  obtain ⟨c0, c1, c2, c3, c4, c5, rfl⟩ := list6 hlen
  obtain ⟨y0, h0⟩ := hf 0 9 0 rfl
  obtain ⟨y1, h1⟩ := hf 1 22 1 rfl
  obtain ⟨y2, h2⟩ := hf 2 22 2 rfl
  obtain ⟨y3, h3⟩ := hf 3 23 3 rfl
  obtain ⟨y4, h4⟩ := hf 4 23 4 rfl
  obtain ⟨y5, h5⟩ := hf 5 3 5 rfl
  simp only [cInt, cStr, cAts, cGls, List.drop_zero, List.drop_succ_cons, List.take_succ_cons, List.take_zero] at h0 h1 h2 h3 h4 h5
  obtain ⟨x0, rfl, w0⟩ := str_of_trod Try.underlying9 h0
  obtain ⟨kA, kc, kl, rfl, hk⟩ := ats_of h1
  obtain ⟨rA, rc, rl, rfl, hr⟩ := ats_of h2
  obtain ⟨gA, gc, gl, rfl, hg⟩ := gls_of h3
  obtain ⟨bA, bc, bl, rfl, hb⟩ := gls_of h4
  obtain ⟨x5, rfl, w5⟩ := int_of_trod Try.underlying3 h5
  exact ⟨⟨x0, kl, rl, gl, bl, x5⟩, kA, kc, rA, rc, gA, gc, bA, bc, rfl, w0, hk, hr, hg, hb, w5⟩
theorem rl_reads (n : Nat) : ReadsTo enc Try.prog w sp held 25 6 RlAt n := by
  intro m hm b o cs d hlen hcell h
  obtain ⟨r, kA, kc, rA, rc, gA, gc, bA, bc, rfl, w0, hk, hr, hg, hb, w5⟩ := rl_of hlen h
  exact ⟨r, ⟨hcell 0 (by decide), w0⟩, ⟨kA, kc, hcell 1 (by decide), hk⟩, ⟨rA, rc, hcell 2 (by decide), hr⟩, ⟨gA, gc, hcell 3 (by decide), hg⟩, ⟨bA, bc, hcell 4 (by decide), hb⟩, hcell 5 (by decide), w5⟩
theorem rls_of {fuel : Nat} {v : Value} {d : DataW H × List MemPlace} (h : DataW.trod enc Try.prog w 0 sp held fuel 27 [v] = some d) : ∃ (A : Option Addr) (c : Nat) (l : List Rl), v = .slice A l.length c ∧ SlAt RlAt 6 w A l :=
  sl_of_trod Try.underlying27 cRl (by decide) (rl_reads fuel) (Nat.le_refl _) h
theorem dc_reads (n : Nat) : ReadsTo enc Try.prog w sp held 29 2 DcAt n := by
  intro m hm b o cs d hlen hcell h
  obtain ⟨k, rfl, hf⟩ := fields_of_trod Try.underlying29 h
  obtain ⟨c0, c1, rfl⟩ := list2 hlen
  obtain ⟨y0, h0⟩ := hf 0 9 0 rfl
  obtain ⟨y1, h1⟩ := hf 1 3 1 rfl
  simp only [cStr, cInt, List.drop_zero, List.drop_succ_cons, List.take_succ_cons, List.take_zero] at h0 h1
  obtain ⟨x0, rfl, w0⟩ := str_of_trod Try.underlying9 h0
  obtain ⟨x1, rfl, w1⟩ := int_of_trod Try.underlying3 h1
  exact ⟨⟨x0, x1⟩, ⟨hcell 0 (by decide), w0⟩, hcell 1 (by decide), w1⟩
theorem dcs_of {fuel : Nat} {v : Value} {d : DataW H × List MemPlace} (h : DataW.trod enc Try.prog w 0 sp held fuel 37 [v] = some d) : ∃ (A : Option Addr) (c : Nat) (l : List Dc), v = .slice A l.length c ∧ SlAt DcAt 2 w A l :=
  sl_of_trod Try.underlying37 cDc (by decide) (dc_reads fuel) (Nat.le_refl _) h
end
end Go.Proofs.Ytahhaiomdjlckaa
