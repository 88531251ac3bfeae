/-
  trace: lists of events: rules.
-/
import Derived.Test.YtahhaiomdjlckaaDoorD1
namespace Go.Proofs.YtahhaiomdjlckaaDoor
set_option linter.unusedVariables false
set_option linter.unusedSimpArgs false
open Go.RowKit

def qp16 : {q : QC × List QR // compF Tryd.progTables Tryd.f16 = some q} := ⟨_, by conv => lhs; cbv⟩
theorem qf16 : QFn Tryd.prog 16 qp16.1 Tryd.f16.ntmps := QFn.of Tryd.func16 qp16.2 rfl rfl (by kernel_rfl) Tryd.call16
def qp17 : {q : QC × List QR // compF Tryd.progTables Tryd.f17 = some q} := ⟨_, by conv => lhs; cbv⟩
theorem qf17 : QFn Tryd.prog 17 qp17.1 Tryd.f17.ntmps := QFn.of Tryd.func17 qp17.2 rfl rfl (by kernel_rfl) Tryd.call17
section
variable {w0 : World} {ρ : Hd}
set_option maxRecDepth 100000
def rulesL : List Ed → List Int
  | [] => []
  | x :: l => if appB x.kd then x.rl :: rulesL l else rulesL l
theorem rules_h (a : List Ed) (hl : a.length ≤ 1000000) : PCal Tryd.prog w0 16 [lst ρ (evR ρ) false a] (lst ρ irow false (rulesL a)) := by
  refine qf16.pcal (by simp [Tryd.ntmps16]) (ints_pureH _) ?_
  refine wpQ.go 400 (by conv => lhs; cbv) ?_
  repeat' (first
    | (refine wpQ.bif rfl (Owe.bit rfl) (fun hb => ?_) (fun hb => ?_) <;> (try simp only [decide_eq_true_eq, decide_eq_false_iff_not, beq_iff_eq, beq_eq_false_iff_ne, bne_iff_ne, bne_eq_false_iff_eq, Bool.not_eq_true, Bool.not_eq_false, Bool.not_eq_true', Bool.not_eq_false', ne_eq] at hb) <;> refine wpQ.go 400 (by conv => lhs; cbv) ?_)
    | (refine wpQ.int rfl (Owe.len rfl) fun m hm => ?_; (try rw [lst_len] at hm); refine wpQ.go 400 (by conv => lhs; cbv) ?_)
    | (refine wpQ.int rfl (Owe.ari64 rfl rfl rfl (by omega) (by omega)) fun _ _ => ?_; refine wpQ.go 400 (by conv => lhs; cbv) ?_)
    | (refine wpQ.int rfl (Owe.conv64 rfl (by omega) (by omega)) fun _ _ => ?_; refine wpQ.go 400 (by conv => lhs; cbv) ?_)
    | (refine wpQ.str rfl (Owe.cat rfl rfl (by assumption)) fun _ _ => ?_; refine wpQ.go 400 (by conv => lhs; cbv) ?_)
    | (refine wpQ.exitC ?_; refine wpQ.go 400 (by conv => lhs; cbv) ?_)
    | (refine wpQ.retC ?_; refine wpQ.go 400 (by conv => lhs; cbv) ?_)
    | (refine wpQ.fin (by conv => lhs; cbv) ?_))
  refine wpQ.loopC (σ := Int × Nat × List Int) 0 1 [] (fun s => [(3, accA 0 1 s.2.1), (6, lst ρ (evR ρ) false a), (7, .v (.int .i64 m)), (8, .v (.int .i64 s.1))]) [] (fun s => accO ρ irow 0 1 s.2.2 s.2.1)
    (fun s => s.2.1 = s.2.2.length ∧ ∃ k : Nat, s.1 = k ∧ k ≤ a.length ∧ s.2.1 ≤ k ∧ rulesL a = s.2.2 ++ rulesL (a.drop k)) (fun s => a.length - s.1.toNat) (0, 0, []) ⟨rfl, 0, rfl, by simp, by simp, by simp⟩ rfl
    ⟨⟨.old rfl klt_nil, .old rfl ((evs_pure a).klt), .old rfl .v, .old rfl .v, trivial⟩, rfl, trivial, rfl, rfl, rfl⟩ ?_
  rintro ⟨i, n, acc⟩ ⟨hn, k, hi, hk, hnk, hp⟩
  simp only at hn hi hp hnk
  by_cases hlt : k < a.length
  · obtain ⟨x, hx, hx2⟩ := drop_at hlt
    rw [hx2, rulesL] at hp
    cases n with
    | zero =>
      have ha : acc = [] := List.eq_nil_of_length_eq_zero hn.symm
      refine wpQ.go 400 (by conv => lhs; cbv) ?_
      repeat' (first
        | (refine wpQ.op rfl (Owe.ind rfl rfl (lst_idx (l := a) hi hx) (lst_all fun _ => rfl)) ?_; refine wpQ.go 400 (by conv => lhs; cbv) ?_)
        | (refine wpQ.bif rfl (Owe.pcall rfl (applies_p _) ⟨.v, trivial⟩) (fun _ => ?_) (fun _ => ?_) <;> refine wpQ.go 400 (by conv => lhs; cbv) ?_)
        | (refine wpQ.appN ρ irow rfl rfl rfl rfl (by decide) fun acc' hacc => ?_; refine wpQ.go 400 (by conv => lhs; cbv) ?_)
        | (refine wpQ.bif rfl (Owe.bit rfl) (fun hb => ?_) (fun hb => ?_) <;> (try simp only [decide_eq_true_eq, decide_eq_false_iff_not, beq_iff_eq, beq_eq_false_iff_ne, bne_iff_ne, bne_eq_false_iff_eq, Bool.not_eq_true, Bool.not_eq_false, Bool.not_eq_true', Bool.not_eq_false', ne_eq] at hb) <;> refine wpQ.go 400 (by conv => lhs; cbv) ?_)
        | (refine wpQ.int rfl (Owe.len rfl) fun m hm => ?_; (try rw [lst_len] at hm); refine wpQ.go 400 (by conv => lhs; cbv) ?_)
        | (refine wpQ.int rfl (Owe.ari64 rfl rfl rfl (by omega) (by omega)) fun _ _ => ?_; refine wpQ.go 400 (by conv => lhs; cbv) ?_)
        | (refine wpQ.int rfl (Owe.conv64 rfl (by omega) (by omega)) fun _ _ => ?_; refine wpQ.go 400 (by conv => lhs; cbv) ?_)
        | (refine wpQ.str rfl (Owe.cat rfl rfl (by assumption)) fun _ _ => ?_; refine wpQ.go 400 (by conv => lhs; cbv) ?_)
        | (refine wpQ.exitC ?_; refine wpQ.go 400 (by conv => lhs; cbv) ?_)
        | (refine wpQ.retC ?_; refine wpQ.go 400 (by conv => lhs; cbv) ?_)
        | (refine wpQ.fin (by conv => lhs; cbv) ?_))
      · refine wpQ.nextC (σ := Int × Nat × List Int) (_, 1, _) [(0, 2)] ⟨by simp [hacc], k + 1, by omega, by omega, by simp only; omega, ?_⟩ (by simp only; omega) ⟨⟨.new rfl rfl, .old rfl ((evs_pure a).klt), .old rfl .v, .old rfl .v, trivial⟩, rfl, ⟨⟨_, rfl, .same (kob_lst fun x _ => irow_p x)⟩, trivial⟩, rfl, rfl, rfl⟩
        simp_all
      · refine wpQ.nextC (σ := Int × Nat × List Int) (_, 0, acc) [] ⟨hn, k + 1, by omega, by omega, by simp only; omega, ?_⟩ (by simp only; omega) ⟨⟨.old rfl klt_nil, .old rfl ((evs_pure a).klt), .old rfl .v, .old rfl .v, trivial⟩, rfl, trivial, rfl, rfl, rfl⟩
        simp_all
      · omega
    | succ n =>
      refine wpQ.go 400 (by conv => lhs; cbv) ?_
      repeat' (first
        | (refine wpQ.op rfl (Owe.ind rfl rfl (lst_idx (l := a) hi hx) (lst_all fun _ => rfl)) ?_; refine wpQ.go 400 (by conv => lhs; cbv) ?_)
        | (refine wpQ.bif rfl (Owe.pcall rfl (applies_p _) ⟨.v, trivial⟩) (fun _ => ?_) (fun _ => ?_) <;> refine wpQ.go 400 (by conv => lhs; cbv) ?_)
        | (refine wpQ.appC (ρ := ρ) (f := irow) (acc := acc) rfl rfl rfl hn rfl rfl rfl (by omega) fun acc' hacc => ?_; refine wpQ.go 400 (by conv => lhs; cbv) ?_)
        | (refine wpQ.bif rfl (Owe.bit rfl) (fun hb => ?_) (fun hb => ?_) <;> (try simp only [decide_eq_true_eq, decide_eq_false_iff_not, beq_iff_eq, beq_eq_false_iff_ne, bne_iff_ne, bne_eq_false_iff_eq, Bool.not_eq_true, Bool.not_eq_false, Bool.not_eq_true', Bool.not_eq_false', ne_eq] at hb) <;> refine wpQ.go 400 (by conv => lhs; cbv) ?_)
        | (refine wpQ.int rfl (Owe.len rfl) fun m hm => ?_; (try rw [lst_len] at hm); refine wpQ.go 400 (by conv => lhs; cbv) ?_)
        | (refine wpQ.int rfl (Owe.ari64 rfl rfl rfl (by omega) (by omega)) fun _ _ => ?_; refine wpQ.go 400 (by conv => lhs; cbv) ?_)
        | (refine wpQ.int rfl (Owe.conv64 rfl (by omega) (by omega)) fun _ _ => ?_; refine wpQ.go 400 (by conv => lhs; cbv) ?_)
        | (refine wpQ.str rfl (Owe.cat rfl rfl (by assumption)) fun _ _ => ?_; refine wpQ.go 400 (by conv => lhs; cbv) ?_)
        | (refine wpQ.exitC ?_; refine wpQ.go 400 (by conv => lhs; cbv) ?_)
        | (refine wpQ.retC ?_; refine wpQ.go 400 (by conv => lhs; cbv) ?_)
        | (refine wpQ.fin (by conv => lhs; cbv) ?_))
      · refine wpQ.nextC (σ := Int × Nat × List Int) (_, n + 2, _) [(0, 2)] ⟨by simp [hacc]; omega, k + 1, by omega, by omega, by simp only; omega, ?_⟩ (by simp only; omega) ⟨⟨.new rfl rfl, .old rfl ((evs_pure a).klt), .old rfl .v, .old rfl .v, trivial⟩, rfl, ⟨⟨_, rfl, .same (kob_lst fun x _ => irow_p x)⟩, trivial⟩, rfl, rfl, rfl⟩
        simp_all
      · refine wpQ.nextC (σ := Int × Nat × List Int) (_, n + 1, acc) [] ⟨hn, k + 1, by omega, by omega, by simp only; omega, ?_⟩ (by simp only; omega) ⟨⟨.new rfl rfl, .old rfl ((evs_pure a).klt), .old rfl .v, .old rfl .v, trivial⟩, rfl, ⟨⟨_, rfl, .same (kob_lst fun x _ => irow_p x)⟩, trivial⟩, rfl, rfl, rfl⟩
        simp_all
      · omega
  · rw [List.drop_eq_nil_of_le (by omega), rulesL, List.append_nil] at hp
    cases n with
    | zero =>
      refine wpQ.go 400 (by conv => lhs; cbv) ?_
      repeat' (first
        | (refine wpQ.bif rfl (Owe.bit rfl) (fun hb => ?_) (fun hb => ?_) <;> (try simp only [decide_eq_true_eq, decide_eq_false_iff_not, beq_iff_eq, beq_eq_false_iff_ne, bne_iff_ne, bne_eq_false_iff_eq, Bool.not_eq_true, Bool.not_eq_false, Bool.not_eq_true', Bool.not_eq_false', ne_eq] at hb) <;> refine wpQ.go 400 (by conv => lhs; cbv) ?_)
        | (refine wpQ.int rfl (Owe.len rfl) fun m hm => ?_; (try rw [lst_len] at hm); refine wpQ.go 400 (by conv => lhs; cbv) ?_)
        | (refine wpQ.int rfl (Owe.ari64 rfl rfl rfl (by omega) (by omega)) fun _ _ => ?_; refine wpQ.go 400 (by conv => lhs; cbv) ?_)
        | (refine wpQ.int rfl (Owe.conv64 rfl (by omega) (by omega)) fun _ _ => ?_; refine wpQ.go 400 (by conv => lhs; cbv) ?_)
        | (refine wpQ.str rfl (Owe.cat rfl rfl (by assumption)) fun _ _ => ?_; refine wpQ.go 400 (by conv => lhs; cbv) ?_)
        | (refine wpQ.exitC ?_; refine wpQ.go 400 (by conv => lhs; cbv) ?_)
        | (refine wpQ.retC ?_; refine wpQ.go 400 (by conv => lhs; cbv) ?_)
        | (refine wpQ.fin (by conv => lhs; cbv) ?_))
      · omega
      · rw [hp]; exact Frz.accN (List.eq_nil_of_length_eq_zero hn.symm)
    | succ n =>
      refine wpQ.go 400 (by conv => lhs; cbv) ?_
      repeat' (first
        | (refine wpQ.bif rfl (Owe.bit rfl) (fun hb => ?_) (fun hb => ?_) <;> (try simp only [decide_eq_true_eq, decide_eq_false_iff_not, beq_iff_eq, beq_eq_false_iff_ne, bne_iff_ne, bne_eq_false_iff_eq, Bool.not_eq_true, Bool.not_eq_false, Bool.not_eq_true', Bool.not_eq_false', ne_eq] at hb) <;> refine wpQ.go 400 (by conv => lhs; cbv) ?_)
        | (refine wpQ.int rfl (Owe.len rfl) fun m hm => ?_; (try rw [lst_len] at hm); refine wpQ.go 400 (by conv => lhs; cbv) ?_)
        | (refine wpQ.int rfl (Owe.ari64 rfl rfl rfl (by omega) (by omega)) fun _ _ => ?_; refine wpQ.go 400 (by conv => lhs; cbv) ?_)
        | (refine wpQ.int rfl (Owe.conv64 rfl (by omega) (by omega)) fun _ _ => ?_; refine wpQ.go 400 (by conv => lhs; cbv) ?_)
        | (refine wpQ.str rfl (Owe.cat rfl rfl (by assumption)) fun _ _ => ?_; refine wpQ.go 400 (by conv => lhs; cbv) ?_)
        | (refine wpQ.exitC ?_; refine wpQ.go 400 (by conv => lhs; cbv) ?_)
        | (refine wpQ.retC ?_; refine wpQ.go 400 (by conv => lhs; cbv) ?_)
        | (refine wpQ.fin (by conv => lhs; cbv) ?_))
      · omega
      · rw [hp]; exact Frz.accC rfl hn
theorem rulesR_h (a : List Ed) (hl : a.length ≤ 1000000) : PCal Tryd.prog w0 17 [lst ρ (evR ρ) false a] (lst ρ irow false (rulesL a)) := by
  refine qf17.pcal (by simp [Tryd.ntmps17]) (ints_pureH _) ?_
  refine wpQ.go 400 (by conv => lhs; cbv) ?_
  refine wpQ.loopC (σ := Int × Nat × List Int) 0 1 [] (fun s => [(3, accA 0 1 s.2.1), (0, lst ρ (evR ρ) false a), (4, .v (.int .i64 s.1))]) [] (fun s => accO ρ irow 0 1 s.2.2 s.2.1)
    (fun s => s.2.1 = s.2.2.length ∧ ∃ k : Nat, s.1 = k ∧ k ≤ a.length ∧ s.2.1 ≤ k ∧ rulesL a = s.2.2 ++ rulesL (a.drop k)) (fun s => a.length - s.1.toNat) (0, 0, []) ⟨rfl, 0, rfl, by simp, by simp, by simp⟩ rfl
    ⟨⟨.old rfl klt_nil, .old rfl ((evs_pure a).klt), .old rfl .v, trivial⟩, rfl, trivial, rfl, rfl, rfl⟩ ?_
  rintro ⟨i, n, acc⟩ ⟨hn, k, hi, hk, hnk, hp⟩
  simp only at hn hi hp hnk
  by_cases hlt : k < a.length
  · obtain ⟨x, hx, hx2⟩ := drop_at hlt
    rw [hx2, rulesL] at hp
    cases n with
    | zero =>
      have ha : acc = [] := List.eq_nil_of_length_eq_zero hn.symm
      refine wpQ.go 400 (by conv => lhs; cbv) ?_
      repeat' (first
        | (refine wpQ.op rfl (Owe.ind rfl rfl (lst_idx (l := a) hi hx) (lst_all fun _ => rfl)) ?_; refine wpQ.go 400 (by conv => lhs; cbv) ?_)
        | (refine wpQ.bif rfl (Owe.pcall rfl (appliesR_h (ρ := ρ) x) ⟨evH_pure _, trivial⟩) (fun _ => ?_) (fun _ => ?_) <;> refine wpQ.go 400 (by conv => lhs; cbv) ?_)
        | (refine wpQ.appN ρ irow rfl rfl rfl rfl (by decide) fun acc' hacc => ?_; refine wpQ.go 400 (by conv => lhs; cbv) ?_)
        | (refine wpQ.bif rfl (Owe.bit rfl) (fun hb => ?_) (fun hb => ?_) <;> (try simp only [decide_eq_true_eq, decide_eq_false_iff_not, beq_iff_eq, beq_eq_false_iff_ne, bne_iff_ne, bne_eq_false_iff_eq, Bool.not_eq_true, Bool.not_eq_false, Bool.not_eq_true', Bool.not_eq_false', ne_eq] at hb) <;> refine wpQ.go 400 (by conv => lhs; cbv) ?_)
        | (refine wpQ.int rfl (Owe.len rfl) fun m hm => ?_; (try rw [lst_len] at hm); refine wpQ.go 400 (by conv => lhs; cbv) ?_)
        | (refine wpQ.int rfl (Owe.ari64 rfl rfl rfl (by omega) (by omega)) fun _ _ => ?_; refine wpQ.go 400 (by conv => lhs; cbv) ?_)
        | (refine wpQ.int rfl (Owe.conv64 rfl (by omega) (by omega)) fun _ _ => ?_; refine wpQ.go 400 (by conv => lhs; cbv) ?_)
        | (refine wpQ.str rfl (Owe.cat rfl rfl (by assumption)) fun _ _ => ?_; refine wpQ.go 400 (by conv => lhs; cbv) ?_)
        | (refine wpQ.exitC ?_; refine wpQ.go 400 (by conv => lhs; cbv) ?_)
        | (refine wpQ.retC ?_; refine wpQ.go 400 (by conv => lhs; cbv) ?_)
        | (refine wpQ.fin (by conv => lhs; cbv) ?_))
      · refine wpQ.nextC (σ := Int × Nat × List Int) (_, 1, _) [(0, 1)] ⟨by simp [hacc], k + 1, by omega, by omega, by simp only; omega, ?_⟩ (by simp only; omega) ⟨⟨.new rfl rfl, .old rfl ((evs_pure a).klt), .old rfl .v, trivial⟩, rfl, ⟨⟨_, rfl, .same (kob_lst fun x _ => irow_p x)⟩, trivial⟩, rfl, rfl, rfl⟩
        simp_all
      · refine wpQ.nextC (σ := Int × Nat × List Int) (_, 0, acc) [] ⟨hn, k + 1, by omega, by omega, by simp only; omega, ?_⟩ (by simp only; omega) ⟨⟨.old rfl klt_nil, .old rfl ((evs_pure a).klt), .old rfl .v, trivial⟩, rfl, trivial, rfl, rfl, rfl⟩
        simp_all
      · omega
    | succ n =>
      refine wpQ.go 400 (by conv => lhs; cbv) ?_
      repeat' (first
        | (refine wpQ.op rfl (Owe.ind rfl rfl (lst_idx (l := a) hi hx) (lst_all fun _ => rfl)) ?_; refine wpQ.go 400 (by conv => lhs; cbv) ?_)
        | (refine wpQ.bif rfl (Owe.pcall rfl (appliesR_h (ρ := ρ) x) ⟨evH_pure _, trivial⟩) (fun _ => ?_) (fun _ => ?_) <;> refine wpQ.go 400 (by conv => lhs; cbv) ?_)
        | (refine wpQ.appC (ρ := ρ) (f := irow) (acc := acc) rfl rfl rfl hn rfl rfl rfl (by omega) fun acc' hacc => ?_; refine wpQ.go 400 (by conv => lhs; cbv) ?_)
        | (refine wpQ.bif rfl (Owe.bit rfl) (fun hb => ?_) (fun hb => ?_) <;> (try simp only [decide_eq_true_eq, decide_eq_false_iff_not, beq_iff_eq, beq_eq_false_iff_ne, bne_iff_ne, bne_eq_false_iff_eq, Bool.not_eq_true, Bool.not_eq_false, Bool.not_eq_true', Bool.not_eq_false', ne_eq] at hb) <;> refine wpQ.go 400 (by conv => lhs; cbv) ?_)
        | (refine wpQ.int rfl (Owe.len rfl) fun m hm => ?_; (try rw [lst_len] at hm); refine wpQ.go 400 (by conv => lhs; cbv) ?_)
        | (refine wpQ.int rfl (Owe.ari64 rfl rfl rfl (by omega) (by omega)) fun _ _ => ?_; refine wpQ.go 400 (by conv => lhs; cbv) ?_)
        | (refine wpQ.int rfl (Owe.conv64 rfl (by omega) (by omega)) fun _ _ => ?_; refine wpQ.go 400 (by conv => lhs; cbv) ?_)
        | (refine wpQ.str rfl (Owe.cat rfl rfl (by assumption)) fun _ _ => ?_; refine wpQ.go 400 (by conv => lhs; cbv) ?_)
        | (refine wpQ.exitC ?_; refine wpQ.go 400 (by conv => lhs; cbv) ?_)
        | (refine wpQ.retC ?_; refine wpQ.go 400 (by conv => lhs; cbv) ?_)
        | (refine wpQ.fin (by conv => lhs; cbv) ?_))
      · refine wpQ.nextC (σ := Int × Nat × List Int) (_, n + 2, _) [(0, 1)] ⟨by simp [hacc]; omega, k + 1, by omega, by omega, by simp only; omega, ?_⟩ (by simp only; omega) ⟨⟨.new rfl rfl, .old rfl ((evs_pure a).klt), .old rfl .v, trivial⟩, rfl, ⟨⟨_, rfl, .same (kob_lst fun x _ => irow_p x)⟩, trivial⟩, rfl, rfl, rfl⟩
        simp_all
      · refine wpQ.nextC (σ := Int × Nat × List Int) (_, n + 1, acc) [] ⟨hn, k + 1, by omega, by omega, by simp only; omega, ?_⟩ (by simp only; omega) ⟨⟨.new rfl rfl, .old rfl ((evs_pure a).klt), .old rfl .v, trivial⟩, rfl, ⟨⟨_, rfl, .same (kob_lst fun x _ => irow_p x)⟩, trivial⟩, rfl, rfl, rfl⟩
        simp_all
      · omega
  · rw [List.drop_eq_nil_of_le (by omega), rulesL, List.append_nil] at hp
    cases n with
    | zero =>
      refine wpQ.go 400 (by conv => lhs; cbv) ?_
      repeat' (first
        | (refine wpQ.bif rfl (Owe.bit rfl) (fun hb => ?_) (fun hb => ?_) <;> (try simp only [decide_eq_true_eq, decide_eq_false_iff_not, beq_iff_eq, beq_eq_false_iff_ne, bne_iff_ne, bne_eq_false_iff_eq, Bool.not_eq_true, Bool.not_eq_false, Bool.not_eq_true', Bool.not_eq_false', ne_eq] at hb) <;> refine wpQ.go 400 (by conv => lhs; cbv) ?_)
        | (refine wpQ.int rfl (Owe.len rfl) fun m hm => ?_; (try rw [lst_len] at hm); refine wpQ.go 400 (by conv => lhs; cbv) ?_)
        | (refine wpQ.int rfl (Owe.ari64 rfl rfl rfl (by omega) (by omega)) fun _ _ => ?_; refine wpQ.go 400 (by conv => lhs; cbv) ?_)
        | (refine wpQ.int rfl (Owe.conv64 rfl (by omega) (by omega)) fun _ _ => ?_; refine wpQ.go 400 (by conv => lhs; cbv) ?_)
        | (refine wpQ.str rfl (Owe.cat rfl rfl (by assumption)) fun _ _ => ?_; refine wpQ.go 400 (by conv => lhs; cbv) ?_)
        | (refine wpQ.exitC ?_; refine wpQ.go 400 (by conv => lhs; cbv) ?_)
        | (refine wpQ.retC ?_; refine wpQ.go 400 (by conv => lhs; cbv) ?_)
        | (refine wpQ.fin (by conv => lhs; cbv) ?_))
      · omega
      · rw [hp]; exact Frz.accN (List.eq_nil_of_length_eq_zero hn.symm)
    | succ n =>
      refine wpQ.go 400 (by conv => lhs; cbv) ?_
      repeat' (first
        | (refine wpQ.bif rfl (Owe.bit rfl) (fun hb => ?_) (fun hb => ?_) <;> (try simp only [decide_eq_true_eq, decide_eq_false_iff_not, beq_iff_eq, beq_eq_false_iff_ne, bne_iff_ne, bne_eq_false_iff_eq, Bool.not_eq_true, Bool.not_eq_false, Bool.not_eq_true', Bool.not_eq_false', ne_eq] at hb) <;> refine wpQ.go 400 (by conv => lhs; cbv) ?_)
        | (refine wpQ.int rfl (Owe.len rfl) fun m hm => ?_; (try rw [lst_len] at hm); refine wpQ.go 400 (by conv => lhs; cbv) ?_)
        | (refine wpQ.int rfl (Owe.ari64 rfl rfl rfl (by omega) (by omega)) fun _ _ => ?_; refine wpQ.go 400 (by conv => lhs; cbv) ?_)
        | (refine wpQ.int rfl (Owe.conv64 rfl (by omega) (by omega)) fun _ _ => ?_; refine wpQ.go 400 (by conv => lhs; cbv) ?_)
        | (refine wpQ.str rfl (Owe.cat rfl rfl (by assumption)) fun _ _ => ?_; refine wpQ.go 400 (by conv => lhs; cbv) ?_)
        | (refine wpQ.exitC ?_; refine wpQ.go 400 (by conv => lhs; cbv) ?_)
        | (refine wpQ.retC ?_; refine wpQ.go 400 (by conv => lhs; cbv) ?_)
        | (refine wpQ.fin (by conv => lhs; cbv) ?_))
      · omega
      · rw [hp]; exact Frz.accC rfl hn
def largeB (l : List Ed) : Bool := decide (l.length > 200) || l.any fun x => decide (x.ids.length > 20)
theorem large_h (a : List Ed) : PCal Tryd.prog w0 12 [lst ρ (evR ρ) false a] (.v (.bool (largeB a))) := by
  refine qf12.pcal (by simp [Tryd.ntmps12]) (.v) ?_
  refine wpQ.go 400 (by conv => lhs; cbv) ?_
  repeat' (first
    | (refine wpQ.bif rfl (Owe.bit rfl) (fun hb => ?_) (fun hb => ?_) <;> (try simp only [decide_eq_true_eq, decide_eq_false_iff_not, beq_iff_eq, beq_eq_false_iff_ne, bne_iff_ne, bne_eq_false_iff_eq, Bool.not_eq_true, Bool.not_eq_false, Bool.not_eq_true', Bool.not_eq_false', ne_eq] at hb) <;> refine wpQ.go 400 (by conv => lhs; cbv) ?_)
    | (refine wpQ.int rfl (Owe.len rfl) fun m hm => ?_; (try rw [lst_len] at hm); refine wpQ.go 400 (by conv => lhs; cbv) ?_)
    | (refine wpQ.int rfl (Owe.ari64 rfl rfl rfl (by omega) (by omega)) fun _ _ => ?_; refine wpQ.go 400 (by conv => lhs; cbv) ?_)
    | (refine wpQ.int rfl (Owe.conv64 rfl (by omega) (by omega)) fun _ _ => ?_; refine wpQ.go 400 (by conv => lhs; cbv) ?_)
    | (refine wpQ.str rfl (Owe.cat rfl rfl (by assumption)) fun _ _ => ?_; refine wpQ.go 400 (by conv => lhs; cbv) ?_)
    | (refine wpQ.exitC ?_; refine wpQ.go 400 (by conv => lhs; cbv) ?_)
    | (refine wpQ.retC ?_; refine wpQ.go 400 (by conv => lhs; cbv) ?_)
    | (refine wpQ.fin (by conv => lhs; cbv) ?_))
  · exact Frz.of_eq (by simp [largeB]; omega)
  have hle : a.length ≤ 200 := by omega
  have hL : largeB a = a.any fun x => decide (x.ids.length > 20) := by simp [largeB, show ¬ 200 < a.length by omega]
  rw [hL]
  refine wpQ.loopC (σ := Int) 0 0 [] (fun i => [(0, lst ρ (evR ρ) false a), (3, .v (.int .i64 i))]) [] (fun _ => [])
    (fun i => ∃ k : Nat, i = k ∧ k ≤ a.length ∧ (a.any fun x => decide (x.ids.length > 20)) = ((a.drop k).any fun x => decide (x.ids.length > 20))) (fun i => a.length - i.toNat) 0 ⟨0, rfl, by simp, by simp⟩ rfl
    ⟨⟨.old rfl ((evs_pure a).klt), .old rfl .v, trivial⟩, rfl, trivial, rfl, rfl, rfl⟩ ?_
  rintro i ⟨k, hi, hk, hp⟩
  refine wpQ.go 400 (by conv => lhs; cbv) ?_
  by_cases hlt : k < a.length
  · obtain ⟨x, hx, hx2⟩ := drop_at hlt
    rw [hx2, List.any_cons] at hp
    repeat' (first
      | (refine wpQ.op rfl (Owe.ind rfl rfl (lst_idx (l := a) hi hx) (lst_all fun _ => rfl)) ?_; refine wpQ.go 400 (by conv => lhs; cbv) ?_)
      | (refine wpQ.bif rfl (Owe.bit rfl) (fun hb => ?_) (fun hb => ?_) <;> (try simp only [decide_eq_true_eq, decide_eq_false_iff_not, beq_iff_eq, beq_eq_false_iff_ne, bne_iff_ne, bne_eq_false_iff_eq, Bool.not_eq_true, Bool.not_eq_false, Bool.not_eq_true', Bool.not_eq_false', ne_eq] at hb) <;> refine wpQ.go 400 (by conv => lhs; cbv) ?_)
      | (refine wpQ.int rfl (Owe.len rfl) fun m hm => ?_; (try rw [lst_len] at hm); refine wpQ.go 400 (by conv => lhs; cbv) ?_)
      | (refine wpQ.int rfl (Owe.ari64 rfl rfl rfl (by omega) (by omega)) fun _ _ => ?_; refine wpQ.go 400 (by conv => lhs; cbv) ?_)
      | (refine wpQ.int rfl (Owe.conv64 rfl (by omega) (by omega)) fun _ _ => ?_; refine wpQ.go 400 (by conv => lhs; cbv) ?_)
      | (refine wpQ.str rfl (Owe.cat rfl rfl (by assumption)) fun _ _ => ?_; refine wpQ.go 400 (by conv => lhs; cbv) ?_)
      | (refine wpQ.exitC ?_; refine wpQ.go 400 (by conv => lhs; cbv) ?_)
      | (refine wpQ.retC ?_; refine wpQ.go 400 (by conv => lhs; cbv) ?_)
      | (refine wpQ.fin (by conv => lhs; cbv) ?_))
    · have hm : m = (x.ids.length : Int) := hm
      rw [hp]; exact Frz.of_eq (by simp; left; omega)
    · have hm : m = (x.ids.length : Int) := hm
      refine wpQ.nextC (σ := Int) _ [] ⟨k + 1, by omega, by omega, ?_⟩ (by omega) ⟨⟨.old rfl ((evs_pure a).klt), .old rfl .v, trivial⟩, rfl, trivial, rfl, rfl, rfl⟩
      rw [hp, show decide (x.ids.length > 20) = false by simp; omega, Bool.false_or]
    · omega
  · skip
    repeat' (first
      | (refine wpQ.bif rfl (Owe.bit rfl) (fun hb => ?_) (fun hb => ?_) <;> (try simp only [decide_eq_true_eq, decide_eq_false_iff_not, beq_iff_eq, beq_eq_false_iff_ne, bne_iff_ne, bne_eq_false_iff_eq, Bool.not_eq_true, Bool.not_eq_false, Bool.not_eq_true', Bool.not_eq_false', ne_eq] at hb) <;> refine wpQ.go 400 (by conv => lhs; cbv) ?_)
      | (refine wpQ.int rfl (Owe.len rfl) fun m hm => ?_; (try rw [lst_len] at hm); refine wpQ.go 400 (by conv => lhs; cbv) ?_)
      | (refine wpQ.int rfl (Owe.ari64 rfl rfl rfl (by omega) (by omega)) fun _ _ => ?_; refine wpQ.go 400 (by conv => lhs; cbv) ?_)
      | (refine wpQ.int rfl (Owe.conv64 rfl (by omega) (by omega)) fun _ _ => ?_; refine wpQ.go 400 (by conv => lhs; cbv) ?_)
      | (refine wpQ.str rfl (Owe.cat rfl rfl (by assumption)) fun _ _ => ?_; refine wpQ.go 400 (by conv => lhs; cbv) ?_)
      | (refine wpQ.exitC ?_; refine wpQ.go 400 (by conv => lhs; cbv) ?_)
      | (refine wpQ.retC ?_; refine wpQ.go 400 (by conv => lhs; cbv) ?_)
      | (refine wpQ.fin (by conv => lhs; cbv) ?_))
    · omega
    · rw [hp, List.drop_eq_nil_of_le (by omega)]; exact Frz.of_eq rfl
end
end Go.Proofs.YtahhaiomdjlckaaDoor
