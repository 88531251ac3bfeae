/-
  trace: TraceParses returns true.
-/
import Derived.Test.YtahhaiomdjlckaaDoorP2
import Derived.Test.YtahhaiomdjlckaaDoorX1
namespace Go.Proofs.YtahhaiomdjlckaaDoor
set_option linter.unusedVariables false
set_option linter.unusedSimpArgs false
open Go.RowKit

def qp4 : {q : QC × List QR // compF Tryd.progTables Tryd.f4 = some q} := ⟨_, by conv => lhs; cbv⟩
theorem qf4 : QFn Tryd.prog 4 qp4.1 Tryd.f4.ntmps := QFn.of Tryd.func4 qp4.2 rfl rfl (by kernel_rfl) Tryd.call4
theorem eqE_same (x : Ed) : eqE x x = true := by simp [eqE]
theorem parseP_ids (l : List ByteArray) : (parseP l).1.ids.length ≤ 4 := by
  unfold parseP
  split
  · split
    · simp
    · split
      · simp only; omega
      · simp
  · simp
section
variable {w0 : World} {ρ : Hd}
set_option maxRecDepth 100000
theorem parses_h (hE : Env w0) (s : ByteArray) : PCal Tryd.prog w0 4 [strA s] (.v (.bool true)) := by
  obtain ⟨ρ, _⟩ : ∃ ρ : Hd, True := ⟨Hd.plain, trivial⟩
  by_cases hs : s.size > 1000
  · skip
    refine qf4.pcal (by simp [Tryd.ntmps4]) (.v) ?_
    refine wpQ.go 400 (by conv => lhs; cbv) ?_
    repeat' (first
      | (exfalso; omega)
      | (refine wpQ.op rfl (Owe.pcall rfl (example_h hE) trivial) ?_; refine wpQ.go 400 (by conv => lhs; cbv) ?_)
      | (refine wpQ.bif rfl (Owe.bit rfl) (fun hb => ?_) (fun hb => ?_) <;> (try simp only [decide_eq_true_eq, decide_eq_false_iff_not, beq_iff_eq, beq_eq_false_iff_ne, bne_iff_ne, bne_eq_false_iff_eq, Bool.not_eq_true, Bool.not_eq_false, Bool.not_eq_true', Bool.not_eq_false', ne_eq] at hb) <;> refine wpQ.go 400 (by conv => lhs; cbv) ?_)
      | (refine wpQ.int rfl (Owe.len rfl) fun m hm => ?_; (try rw [lst_len] at hm); refine wpQ.go 400 (by conv => lhs; cbv) ?_)
      | (refine wpQ.int rfl (Owe.ari64 rfl rfl rfl (by omega) (by omega)) fun _ _ => ?_; refine wpQ.go 400 (by conv => lhs; cbv) ?_)
      | (refine wpQ.int rfl (Owe.conv64 rfl (by omega) (by omega)) fun _ _ => ?_; refine wpQ.go 400 (by conv => lhs; cbv) ?_)
      | (refine wpQ.str rfl (Owe.cat rfl rfl (by assumption)) fun _ _ => ?_; refine wpQ.go 400 (by conv => lhs; cbv) ?_)
      | (refine wpQ.exitC ?_; refine wpQ.go 400 (by conv => lhs; cbv) ?_)
      | (refine wpQ.retC ?_; refine wpQ.go 400 (by conv => lhs; cbv) ?_)
      | (refine wpQ.fin (by conv => lhs; cbv) ?_))
    all_goals exact Frz.of_eq rfl
  · have hz := partsB_size s
    have hz1 := hz.1
    have hp := parse_h (ρ := ρ) hE s (by omega) (by omega) (fun p hp => by have := hz.2 p hp; omega) (partsB_ne s)
    have hr := parseR_h (w0 := w0) (ρ := ρ) s (by omega) (by omega) (fun p hp => by have := hz.2 p hp; omega) (partsB_ne s)
    rw [parse_eq] at hr
    have htx := text_parse s
    have hid := parseP_ids (partsB s)
    obtain ⟨⟨e, f⟩, hX⟩ : ∃ X, parseP (partsB s) = X := ⟨_, rfl⟩
    rw [hX] at hp hr htx hid
    simp only at hp hr htx hid
    have heq := equal_h (w0 := w0) (ρ := ρ) e e (by omega)
    rw [eqE_same] at heq
    by_cases hf : f = 0
    · have ht := text_h (w0 := w0) (ρ := ρ) hE e (by omega)
      rw [htx hf] at ht
      subst hf
      refine qf4.pcal (by simp [Tryd.ntmps4]) (.v) ?_
      refine wpQ.go 400 (by conv => lhs; cbv) ?_
      repeat' (first
        | (exfalso; omega)
        | (exact absurd rfl hb)
        | (refine wpQ.op rfl (Owe.pcall rfl hp ⟨.v, trivial⟩) ?_; refine wpQ.go 400 (by conv => lhs; cbv) ?_)
        | (refine wpQ.op rfl (Owe.pcall rfl hr ⟨.v, trivial⟩) ?_; refine wpQ.go 400 (by conv => lhs; cbv) ?_)
        | (refine wpQ.op rfl (Owe.pcall rfl heq ⟨evH_pure _, evH_pure _, trivial⟩) ?_; refine wpQ.go 400 (by conv => lhs; cbv) ?_)
        | (refine wpQ.op rfl (Owe.pcall rfl ht ⟨evH_pure _, trivial⟩) ?_; refine wpQ.go 400 (by conv => lhs; cbv) ?_)
        | (refine wpQ.op rfl (Owe.pcall rfl (example_h hE) trivial) ?_; refine wpQ.go 400 (by conv => lhs; cbv) ?_)
        | (refine wpQ.bif rfl (Owe.bit rfl) (fun hb => ?_) (fun hb => ?_) <;> (try simp only [decide_eq_true_eq, decide_eq_false_iff_not, beq_iff_eq, beq_eq_false_iff_ne, bne_iff_ne, bne_eq_false_iff_eq, Bool.not_eq_true, Bool.not_eq_false, Bool.not_eq_true', Bool.not_eq_false', ne_eq] at hb) <;> refine wpQ.go 400 (by conv => lhs; cbv) ?_)
        | (refine wpQ.int rfl (Owe.len rfl) fun m hm => ?_; (try rw [lst_len] at hm); refine wpQ.go 400 (by conv => lhs; cbv) ?_)
        | (refine wpQ.int rfl (Owe.ari64 rfl rfl rfl (by omega) (by omega)) fun _ _ => ?_; refine wpQ.go 400 (by conv => lhs; cbv) ?_)
        | (refine wpQ.int rfl (Owe.conv64 rfl (by omega) (by omega)) fun _ _ => ?_; refine wpQ.go 400 (by conv => lhs; cbv) ?_)
        | (refine wpQ.str rfl (Owe.cat rfl rfl (by assumption)) fun _ _ => ?_; refine wpQ.go 400 (by conv => lhs; cbv) ?_)
        | (refine wpQ.exitC ?_; refine wpQ.go 400 (by conv => lhs; cbv) ?_)
        | (refine wpQ.retC ?_; refine wpQ.go 400 (by conv => lhs; cbv) ?_)
        | (refine wpQ.fin (by conv => lhs; cbv) ?_))
      all_goals first | exact Frz.of_eq rfl | (exfalso; simp_all; done)
    · skip
      refine qf4.pcal (by simp [Tryd.ntmps4]) (.v) ?_
      refine wpQ.go 400 (by conv => lhs; cbv) ?_
      repeat' (first
        | (exfalso; omega)
        | (exact absurd rfl hb)
        | (refine wpQ.op rfl (Owe.pcall rfl hp ⟨.v, trivial⟩) ?_; refine wpQ.go 400 (by conv => lhs; cbv) ?_)
        | (refine wpQ.op rfl (Owe.pcall rfl hr ⟨.v, trivial⟩) ?_; refine wpQ.go 400 (by conv => lhs; cbv) ?_)
        | (refine wpQ.op rfl (Owe.pcall rfl heq ⟨evH_pure _, evH_pure _, trivial⟩) ?_; refine wpQ.go 400 (by conv => lhs; cbv) ?_)
        | (refine wpQ.op rfl (Owe.pcall rfl (example_h hE) trivial) ?_; refine wpQ.go 400 (by conv => lhs; cbv) ?_)
        | (refine wpQ.bif rfl (Owe.bit rfl) (fun hb => ?_) (fun hb => ?_) <;> (try simp only [decide_eq_true_eq, decide_eq_false_iff_not, beq_iff_eq, beq_eq_false_iff_ne, bne_iff_ne, bne_eq_false_iff_eq, Bool.not_eq_true, Bool.not_eq_false, Bool.not_eq_true', Bool.not_eq_false', ne_eq] at hb) <;> refine wpQ.go 400 (by conv => lhs; cbv) ?_)
        | (refine wpQ.int rfl (Owe.len rfl) fun m hm => ?_; (try rw [lst_len] at hm); refine wpQ.go 400 (by conv => lhs; cbv) ?_)
        | (refine wpQ.int rfl (Owe.ari64 rfl rfl rfl (by omega) (by omega)) fun _ _ => ?_; refine wpQ.go 400 (by conv => lhs; cbv) ?_)
        | (refine wpQ.int rfl (Owe.conv64 rfl (by omega) (by omega)) fun _ _ => ?_; refine wpQ.go 400 (by conv => lhs; cbv) ?_)
        | (refine wpQ.str rfl (Owe.cat rfl rfl (by assumption)) fun _ _ => ?_; refine wpQ.go 400 (by conv => lhs; cbv) ?_)
        | (refine wpQ.exitC ?_; refine wpQ.go 400 (by conv => lhs; cbv) ?_)
        | (refine wpQ.retC ?_; refine wpQ.go 400 (by conv => lhs; cbv) ?_)
        | (refine wpQ.fin (by conv => lhs; cbv) ?_))
      all_goals first | exact Frz.of_eq rfl | (exfalso; simp_all; done)
theorem traceParses_w (hE : Env w0) (s : ByteArray) {p : Prop} (_ : p) : PCal Tryd.prog w0 4 [.v (.string s)] (.v (.bool true)) := parses_h hE s
end
end Go.Proofs.YtahhaiomdjlckaaDoor
