/-
  trace: TraceLists returns true.
-/
import Derived.Test.YtahhaiomdjlckaaDoorX1
namespace Go.Proofs.YtahhaiomdjlckaaDoor
set_option linter.unusedVariables false
set_option linter.unusedSimpArgs false
open Go.RowKit

def qp5 : {q : QC × List QR // compF Tryd.progTables Tryd.f5 = some q} := ⟨_, by conv => lhs; cbv⟩
theorem qf5 : QFn Tryd.prog 5 qp5.1 Tryd.f5.ntmps := QFn.of Tryd.func5 qp5.2 rfl rfl (by kernel_rfl) Tryd.call5
theorem eqE_self (x : Ed) : eqE x x = true := by simp [eqE]
theorem eqEs_self : ∀ l : List Ed, eqEs l l = true
  | [] => rfl
  | x :: l => by rw [eqEs, eqE_self, eqEs_self]; rfl
theorem rulesL_len : ∀ l : List Ed, (rulesL l).length ≤ l.length
  | [] => Nat.le_refl _
  | x :: l => by
    have := rulesL_len l
    simp only [rulesL]
    split <;> simp only [List.length_cons] <;> omega
theorem large_not {l : List Ed} (h : largeB l = false) : l.length ≤ 200 ∧ ∀ x ∈ l, x.ids.length ≤ 20 := by
  simp only [largeB, Bool.or_eq_false_iff, decide_eq_false_iff_not, List.any_eq_false] at h
  refine ⟨by omega, fun x hx => ?_⟩
  have := h.2 x hx
  simpa using this
section
variable {w0 : World} {ρ : Hd}
set_option maxRecDepth 100000
theorem lists_h (hE : Env w0) (a b : List Ed) : PCal Tryd.prog w0 5 [lst ρ (evR ρ) false a, lst ρ (evR ρ) false b] (.v (.bool true)) := by
  have la := large_h (w0 := w0) (ρ := ρ) a
  have lb := large_h (w0 := w0) (ρ := ρ) b
  have pa := evs_pure (ρ := ρ) a (ex := false)
  have pb := evs_pure (ρ := ρ) b (ex := false)
  by_cases hL : largeB a = true ∨ largeB b = true
  · skip
    refine qf5.pcal (by simp [Tryd.ntmps5]) (.v) ?_
    refine wpQ.go 400 (by conv => lhs; cbv) ?_
    repeat' (first
      | (refine wpQ.bif rfl (Owe.pcall rfl la ⟨pa, trivial⟩) (fun _ => ?_) (fun _ => ?_) <;> refine wpQ.go 400 (by conv => lhs; cbv) ?_)
      | (refine wpQ.bif rfl (Owe.pcall rfl lb ⟨pb, trivial⟩) (fun _ => ?_) (fun _ => ?_) <;> refine wpQ.go 400 (by conv => lhs; cbv) ?_)
      | (refine wpQ.op rfl (Owe.pcall rfl (example_h hE) trivial) ?_; refine wpQ.go 400 (by conv => lhs; cbv) ?_)
      | (exfalso; simp_all; done)
      | (refine wpQ.bif rfl (Owe.bit rfl) (fun hb => ?_) (fun hb => ?_) <;> (try simp only [decide_eq_true_eq, decide_eq_false_iff_not, beq_iff_eq, beq_eq_false_iff_ne, bne_iff_ne, bne_eq_false_iff_eq, Bool.not_eq_true, Bool.not_eq_false, Bool.not_eq_true', Bool.not_eq_false', ne_eq] at hb) <;> refine wpQ.go 400 (by conv => lhs; cbv) ?_)
      | (refine wpQ.int rfl (Owe.len rfl) fun m hm => ?_; (try rw [lst_len] at hm); refine wpQ.go 400 (by conv => lhs; cbv) ?_)
      | (refine wpQ.int rfl (Owe.ari64 rfl rfl rfl (by omega) (by omega)) fun _ _ => ?_; refine wpQ.go 400 (by conv => lhs; cbv) ?_)
      | (refine wpQ.int rfl (Owe.conv64 rfl (by omega) (by omega)) fun _ _ => ?_; refine wpQ.go 400 (by conv => lhs; cbv) ?_)
      | (refine wpQ.str rfl (Owe.cat rfl rfl (by assumption)) fun _ _ => ?_; refine wpQ.go 400 (by conv => lhs; cbv) ?_)
      | (refine wpQ.exitC ?_; refine wpQ.go 400 (by conv => lhs; cbv) ?_)
      | (refine wpQ.retC ?_; refine wpQ.go 400 (by conv => lhs; cbv) ?_)
      | (refine wpQ.fin (by conv => lhs; cbv) ?_))
    all_goals exact Frz.of_eq rfl
  · have h1 : largeB a = false := by cases h : largeB a <;> simp_all
    have h2 : largeB b = false := by cases h : largeB b <;> simp_all
    obtain ⟨n1, i1⟩ := large_not h1
    obtain ⟨n2, i2⟩ := large_not h2
    rw [h1] at la
    rw [h2] at lb
    have s1 := same_h (w0 := w0) (ρ := ρ) a b (by omega) (fun x hx => by have := i1 x hx; omega)
    have s2 := sameR_h (w0 := w0) (ρ := ρ) a b (by omega) (fun x hx => by have := i1 x hx; omega)
    have s3 := same_h (w0 := w0) (ρ := ρ) a a (by omega) (fun x hx => by have := i1 x hx; omega)
    rw [eqEs_self] at s3
    have r1 := rules_h (w0 := w0) (ρ := ρ) a (by omega)
    have r2 := rulesR_h (w0 := w0) (ρ := ρ) a (by omega)
    obtain ⟨L, hL⟩ : ∃ L, rulesL a = L := ⟨_, rfl⟩
    have hlen := rulesL_len a
    rw [hL] at r1 r2 hlen
    have s4 := sameInts_h (w0 := w0) (ρ := ρ) L L (by omega)
    rw [show decide (L = L) = true by simp] at s4
    obtain ⟨e, he⟩ : ∃ e, eqEs a b = e := ⟨_, rfl⟩
    rw [he] at s1 s2
    refine qf5.pcal (by simp [Tryd.ntmps5]) (.v) ?_
    refine wpQ.go 400 (by conv => lhs; cbv) ?_
    cases e
    all_goals
      repeat' (first
        | (refine wpQ.op rfl (Owe.pcall rfl la ⟨pa, trivial⟩) ?_; refine wpQ.go 400 (by conv => lhs; cbv) ?_)
        | (refine wpQ.op rfl (Owe.pcall rfl lb ⟨pb, trivial⟩) ?_; refine wpQ.go 400 (by conv => lhs; cbv) ?_)
        | (refine wpQ.op rfl (Owe.pcall rfl s1 ⟨pa, pb, trivial⟩) ?_; refine wpQ.go 400 (by conv => lhs; cbv) ?_)
        | (refine wpQ.op rfl (Owe.pcall rfl s2 ⟨pa, pb, trivial⟩) ?_; refine wpQ.go 400 (by conv => lhs; cbv) ?_)
        | (refine wpQ.op rfl (Owe.pcall rfl s3 ⟨pa, pa, trivial⟩) ?_; refine wpQ.go 400 (by conv => lhs; cbv) ?_)
        | (refine wpQ.op rfl (Owe.pcall rfl r1 ⟨pa, trivial⟩) ?_; refine wpQ.go 400 (by conv => lhs; cbv) ?_)
        | (refine wpQ.op rfl (Owe.pcall rfl r2 ⟨pa, trivial⟩) ?_; refine wpQ.go 400 (by conv => lhs; cbv) ?_)
        | (refine wpQ.op rfl (Owe.pcall rfl s4 ⟨ints_pureH _, ints_pureH _, trivial⟩) ?_; refine wpQ.go 400 (by conv => lhs; cbv) ?_)
        | (refine wpQ.op rfl (Owe.pcall rfl (example_h hE) trivial) ?_; refine wpQ.go 400 (by conv => lhs; cbv) ?_)
        | (refine wpQ.bif rfl (Owe.bit rfl) (fun hb => ?_) (fun hb => ?_) <;> (try simp only [decide_eq_true_eq, decide_eq_false_iff_not, beq_iff_eq, beq_eq_false_iff_ne, bne_iff_ne, bne_eq_false_iff_eq, Bool.not_eq_true, Bool.not_eq_false, Bool.not_eq_true', Bool.not_eq_false', ne_eq] at hb) <;> refine wpQ.go 400 (by conv => lhs; cbv) ?_)
        | (refine wpQ.int rfl (Owe.len rfl) fun m hm => ?_; (try rw [lst_len] at hm); refine wpQ.go 400 (by conv => lhs; cbv) ?_)
        | (refine wpQ.int rfl (Owe.ari64 rfl rfl rfl (by omega) (by omega)) fun _ _ => ?_; refine wpQ.go 400 (by conv => lhs; cbv) ?_)
        | (refine wpQ.int rfl (Owe.conv64 rfl (by omega) (by omega)) fun _ _ => ?_; refine wpQ.go 400 (by conv => lhs; cbv) ?_)
        | (refine wpQ.str rfl (Owe.cat rfl rfl (by assumption)) fun _ _ => ?_; refine wpQ.go 400 (by conv => lhs; cbv) ?_)
        | (refine wpQ.exitC ?_; refine wpQ.go 400 (by conv => lhs; cbv) ?_)
        | (refine wpQ.retC ?_; refine wpQ.go 400 (by conv => lhs; cbv) ?_)
        | (refine wpQ.fin (by conv => lhs; cbv) ?_))
    all_goals first
      | exact Frz.of_eq rfl
      | exact absurd trivial (by assumption)
theorem traceLists_w (hE : Env w0) (a : List Ed) {p : Prop} (_ : p) (b : List Ed) {q : Prop} (_ : q) : PCal Tryd.prog w0 5 [lst Hd.plain (evR Hd.plain) false a, lst Hd.plain (evR Hd.plain) false b] (.v (.bool true)) := lists_h hE a b
end
end Go.Proofs.YtahhaiomdjlckaaDoor
