/-
  The frame of the statements: from a walk that returns true and leaves old memory alone to the row's post; a world for the witness.
-/
import Derived.Test.YtahhaiomdjlckaaRows
import Derived.Test.YtahhaiomdjlckaaChecked
import Derived.Test.YtahhaiomdjlckaaReads
import Derived.ProofKit
import Derived.OpenShut
import Derived.Carry
import Derived.Deep.DeepHandedRow
import Derived.Lib.LaidTab
namespace Go.Proofs.Ytahhaiomdjlckaa
set_option linter.unusedVariables false
set_option linter.unusedSimpArgs false
open Go.ChangeShapes Go.WideShapes Go.ChangeAt Go.RowKit
open Go.ChangeMaps (open_string shut_string)

section
variable {H : Type} {enc : TypeId × Value → H} {P : Program}
theorem trodAll_below (hl : laidOutB P = true) {W W' : World} (hb : Below W.heap.size W W') : ∀ {ts : List TypeId} {vs : List Value} {ds : List (DataW H)} {ps : List MemPlace},
    (∀ t ∈ ts, P.readableRec t = true ∧ t < P.types.size) → DataW.TrodAll enc P W 0 (fun _ => true) true ts vs ds ps → (∀ x ∈ ps, x.block < W.heap.size) →
    DataW.TrodAll enc P W' 0 (fun b => decide (b < W.heap.size)) true ts vs ds ps
  | [], vs, ds, ps, _, h, _ => by
    obtain ⟨rfl, rfl, rfl⟩ := trodAll_nil h
    exact trodAll_mk0
  | t :: ts, vs, ds, ps, ht, h, hlt => by
    obtain ⟨v, vs', d, ds', p, q, rfl, rfl, rfl, h1, h2⟩ := trodAll_cons h
    obtain ⟨hr, hs⟩ := ht t (by simp)
    exact trodAll_cons_mk (Below.trod hl hr hs h1 hb fun x hx => hlt x (by simp [hx])) (trodAll_below hl hb (fun t ht' => ht t (by simp [ht'])) h2 fun x hx => hlt x (by simp [hx]))

/-- the post of a law: it returns true, and the arguments read as they did. -/
theorem law_post {f : Func} {s : ChangeSpec} {W W' : World} {args : Array Value} {ds : List (DataW H)} {before : List MemPlace} {tb : TypeId}
    (hl : laidOutB P = true) (hts : ∀ t ∈ f.params.toList, P.readableRec t = true ∧ t < P.types.size) (hvars : s.vars = []) (hres : f.resultTypes = #[tb]) (htb : P.underlying tb = some .bool)
    (hfn : s.fn H (ds ++ []) = { results := [.lit (.bool true)], args := ds }) (hW : DataW.Whole enc P f.params.toList s.vars false W args.toList ds [] before) (hb : Below W.heap.size W W') :
    s.post enc P f false true false false W args (.bool true) W' := by
  have hW' := hW
  obtain ⟨p, q, hA, hV, rfl, hfz, hnd⟩ := hW
  rw [hvars] at hV
  obtain ⟨_, rfl⟩ := trodVars_none hV
  have hlt : ∀ x ∈ p, x.block < W.heap.size := fun x hx => hW'.lt x (by simp [hx])
  refine ⟨ds, [], p ++ [], [], p, [], hW', ?_, ?_, ?_, World.keptBut_mono (fun x hx => ⟨hx, .inr (.inl (by simpa using hx))⟩) (hb.frame (· ∈ p ++ [])), fun h => by cases h⟩
  · rw [hfn, hres]
    exact trodAll_mk1 (shut_bool htb true)
  · rw [hfn]
    exact trodAll_below hl hb hts hA hlt
  · rw [hfn, hvars]
    rfl
end

section
variable {H : Type} {enc : TypeId × Value → H} {w : World} {sp : Nat → Bool} {held : Bool} {r : Reach} {b0 : Nat} {v : Value} {d : DataW H} {ps : List MemPlace}
set_option maxRecDepth 100000 in
theorem arg_ats (hval : Value.okWide Try.prog w r b0 22 v) (h : DataW.Trod enc Try.prog w 0 sp held 22 v d ps) : ∃ (A : Option Addr) (c : Nat) (l : List At), v = .slice A l.length c ∧ SlAt AtAt 2 w A l := by
  obtain ⟨fuel, hf⟩ := h
  obtain ⟨A, n, c, rfl⟩ := okWide_slice Try.underlying22 hval
  exact ats_of hf
theorem okWide_agg {P : Program} {w : World} {r : Reach} {b0 : Nat} {t : TypeId} {v : Value} {fs : Array Field} (ht : P.underlying t = some (.struct fs)) (h : Value.okWide P w r b0 t v) : ∃ cs, v = .agg cs ∧ cs.size = P.cellsOf t := by
  unfold Value.okWide at h
  rw [ht] at h
  obtain ⟨cs, e, hs, _⟩ := h
  exact ⟨cs, e, hs⟩
set_option maxRecDepth 100000 in
theorem arg_pg (hval : Value.okWide Try.prog w r b0 39 v) (h : DataW.Trod enc Try.prog w 0 sp held 39 v d ps) :
    ∃ (dA : Option Addr) (dc : Nat) (rA : Option Addr) (rc : Nat) (ds : List Dc) (rs : List Rl), v = .agg #[.slice dA ds.length dc, .slice rA rs.length rc] ∧ SlAt DcAt 2 w dA ds ∧ SlAt RlAt 6 w rA rs := by
  obtain ⟨fuel, hf⟩ := h
  obtain ⟨cs, rfl, hsz⟩ := okWide_agg Try.underlying39 hval
  have hsz2 : cs.toList.length = 2 := by rw [Array.length_toList, hsz]; exact (by kernel_rfl : Try.prog.cellsOf 39 = 2)
  obtain ⟨k, rfl, hfl⟩ := fields_of_trod Try.underlying39 hf
  obtain ⟨c0, c1, hcs⟩ := list2 hsz2
  obtain ⟨y0, h0⟩ := hfl 0 37 0 rfl
  obtain ⟨y1, h1⟩ := hfl 1 27 1 rfl
  have e : (Value.agg cs).cells.toList = [c0, c1] := hcs
  rw [e] at h0 h1
  simp only [cDcs, cRls, List.drop_zero, List.drop_succ_cons, List.take_succ_cons, List.take_zero] at h0 h1
  obtain ⟨dA, dc, ds, rfl, s1⟩ := dcs_of h0
  obtain ⟨rA, rc, rs, rfl, s2⟩ := rls_of h1
  obtain rfl : cs = #[.slice dA ds.length dc, .slice rA rs.length rc] := by cases cs; simpa using hcs
  exact ⟨dA, dc, rA, rc, ds, rs, rfl, s1, s2⟩
set_option maxRecDepth 100000 in
theorem arg_rl (hval : Value.okWide Try.prog w r b0 25 v) (h : DataW.Trod enc Try.prog w 0 sp held 25 v d ps) : ∃ (x : Rl) (kA rA gA bA : Option Addr) (kc rc gc bc : Nat),
    v = .agg #[.string x.nm, .slice kA x.kp.length kc, .slice rA x.rm.length rc, .slice gA x.gd.length gc, .slice bA x.bd.length bc, .int .i64 x.vs] ∧ x.nm.size ≤ maxLen ∧ SlAt AtAt 2 w kA x.kp ∧ SlAt AtAt 2 w rA x.rm ∧ SlAt GlAt 3 w gA x.gd ∧ SlAt GlAt 3 w bA x.bd ∧ I64 x.vs := by
  obtain ⟨fuel, hf⟩ := h
  obtain ⟨cs, rfl, hsz⟩ := okWide_agg Try.underlying25 hval
  have hsz2 : cs.toList.length = 6 := by rw [Array.length_toList, hsz]; exact (by kernel_rfl : Try.prog.cellsOf 25 = 6)
  obtain ⟨x, kA, kc, rA, rc, gA, gc, bA, bc, hcs, w0, s1, s2, s3, s4, w5⟩ := rl_of (cs := cs.toList) hsz2 hf
  refine ⟨x, kA, rA, gA, bA, kc, rc, gc, bc, ?_, w0, s1, s2, s3, s4, w5⟩
  obtain ⟨l⟩ := cs
  simp only at hcs
  rw [hcs]
end

theorem own : ownKnob Try.prog.godebug = none := by kernel_rfl
theorem laidOut : laidOutB Try.prog = true := by kernel_rfl
/-- a world for the witness: the settled one. -/
noncomputable def laidWorld (os : Os) : World := World.holding Try.prog os ⟨#[], #[], []⟩
end Go.Proofs.Ytahhaiomdjlckaa
