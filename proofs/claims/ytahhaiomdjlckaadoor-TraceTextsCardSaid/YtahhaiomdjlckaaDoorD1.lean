/-
  trace: lists of events: comparison, rules.
-/
import Derived.Test.YtahhaiomdjlckaaDoorC1
namespace Go.Proofs.YtahhaiomdjlckaaDoor
set_option linter.unusedVariables false
set_option linter.unusedSimpArgs false
open Go.RowKit

def qp32 : {q : QC × List QR // compF Tryd.progTables Tryd.f32 = some q} := ⟨_, by conv => lhs; cbv⟩
theorem qf32 : QFn Tryd.prog 32 qp32.1 Tryd.f32.ntmps := QFn.of Tryd.func32 qp32.2 rfl rfl (by kernel_rfl) Tryd.call32
def qp31 : {q : QC × List QR // compF Tryd.progTables Tryd.f31 = some q} := ⟨_, by conv => lhs; cbv⟩
theorem qf31 : QFn Tryd.prog 31 qp31.1 Tryd.f31.ntmps := QFn.of Tryd.func31 qp31.2 rfl rfl (by kernel_rfl) Tryd.call31
def qp30 : {q : QC × List QR // compF Tryd.progTables Tryd.f30 = some q} := ⟨_, by conv => lhs; cbv⟩
theorem qf30 : QFn Tryd.prog 30 qp30.1 Tryd.f30.ntmps := QFn.of Tryd.func30 qp30.2 rfl rfl (by kernel_rfl) Tryd.call30
def qp13 : {q : QC × List QR // compF Tryd.progTables Tryd.f13 = some q} := ⟨_, by conv => lhs; cbv⟩
theorem qf13 : QFn Tryd.prog 13 qp13.1 Tryd.f13.ntmps := QFn.of Tryd.func13 qp13.2 rfl rfl (by kernel_rfl) Tryd.call13
def qp15 : {q : QC × List QR // compF Tryd.progTables Tryd.f15 = some q} := ⟨_, by conv => lhs; cbv⟩
theorem qf15 : QFn Tryd.prog 15 qp15.1 Tryd.f15.ntmps := QFn.of Tryd.func15 qp15.2 rfl rfl (by kernel_rfl) Tryd.call15
def qp10 : {q : QC × List QR // compF Tryd.progTables Tryd.f10 = some q} := ⟨_, by conv => lhs; cbv⟩
theorem qf10 : QFn Tryd.prog 10 qp10.1 Tryd.f10.ntmps := QFn.of Tryd.func10 qp10.2 rfl rfl (by kernel_rfl) Tryd.call10
def qp14 : {q : QC × List QR // compF Tryd.progTables Tryd.f14 = some q} := ⟨_, by conv => lhs; cbv⟩
theorem qf14 : QFn Tryd.prog 14 qp14.1 Tryd.f14.ntmps := QFn.of Tryd.func14 qp14.2 rfl rfl (by kernel_rfl) Tryd.call14
def qp25 : {q : QC × List QR // compF Tryd.progTables Tryd.f25 = some q} := ⟨_, by conv => lhs; cbv⟩
theorem qf25 : QFn Tryd.prog 25 qp25.1 Tryd.f25.ntmps := QFn.of Tryd.func25 qp25.2 rfl rfl (by kernel_rfl) Tryd.call25
def qp12 : {q : QC × List QR // compF Tryd.progTables Tryd.f12 = some q} := ⟨_, by conv => lhs; cbv⟩
theorem qf12 : QFn Tryd.prog 12 qp12.1 Tryd.f12.ntmps := QFn.of Tryd.func12 qp12.2 rfl rfl (by kernel_rfl) Tryd.call12
theorem drop_at {T : Type} {l : List T} {k : Nat} (h : k < l.length) : ∃ x, l[k]? = some x ∧ l.drop k = x :: l.drop (k + 1) := ⟨l[k], List.getElem?_eq_getElem h, List.drop_eq_getElem_cons h⟩
def eqE (x y : Ed) : Bool := x.kd == y.kd && x.id == y.id && x.oc == y.oc && x.rl == y.rl && decide (x.ids = y.ids)
def eqEs : List Ed → List Ed → Bool
  | [], [] => true
  | x :: l, y :: m => eqE x y && eqEs l m
  | _, _ => false
theorem eqEs_len : ∀ {l m : List Ed}, eqEs l m = true → l.length = m.length
  | [], [], _ => rfl
  | x :: l, y :: m, h => by
    simp only [eqEs, Bool.and_eq_true] at h
    simp [eqEs_len h.2]
  | [], _ :: _, h => by cases h
  | _ :: _, [], h => by cases h
section
variable {w0 : World} {ρ : Hd}
set_option maxRecDepth 100000
theorem equalI_h (a b : List Int) (hl : a.length ≤ 1000000) : PCal Tryd.prog w0 32 [lst ρ irow false a, lst ρ irow false b] (.v (.bool (decide (a = b)))) := by
  refine qf32.pcal (by simp [Tryd.ntmps32]) (.v) ?_
  refine wpQ.go 400 (by conv => lhs; cbv) ?_
  repeat' (first
    | (refine wpQ.bif rfl (Owe.bit rfl) (fun hb => ?_) (fun hb => ?_) <;> (try simp only [decide_eq_true_eq, decide_eq_false_iff_not, beq_iff_eq, beq_eq_false_iff_ne, bne_iff_ne, bne_eq_false_iff_eq, Bool.not_eq_true, Bool.not_eq_false, Bool.not_eq_true', Bool.not_eq_false', ne_eq] at hb) <;> refine wpQ.go 400 (by conv => lhs; cbv) ?_)
    | (refine wpQ.int rfl (Owe.len rfl) fun m hm => ?_; (try rw [lst_len] at hm); refine wpQ.go 400 (by conv => lhs; cbv) ?_)
    | (refine wpQ.int rfl (Owe.ari64 rfl rfl rfl (by omega) (by omega)) fun _ _ => ?_; refine wpQ.go 400 (by conv => lhs; cbv) ?_)
    | (refine wpQ.int rfl (Owe.conv64 rfl (by omega) (by omega)) fun _ _ => ?_; refine wpQ.go 400 (by conv => lhs; cbv) ?_)
    | (refine wpQ.str rfl (Owe.cat rfl rfl (by assumption)) fun _ _ => ?_; refine wpQ.go 400 (by conv => lhs; cbv) ?_)
    | (refine wpQ.exitC ?_; refine wpQ.go 400 (by conv => lhs; cbv) ?_)
    | (refine wpQ.retC ?_; refine wpQ.go 400 (by conv => lhs; cbv) ?_)
    | (refine wpQ.fin (by conv => lhs; cbv) ?_))
  · refine Frz.of_eq ?_
    have : a ≠ b := by rintro rfl; omega
    simp [this]
  have hne : a.length = b.length := by omega
  refine wpQ.loopC (σ := Int) 0 0 [] (fun i => [(0, lst ρ irow false a), (1, lst ρ irow false b), (11, lst ρ irow false a), (12, .v (.int .i64 m)), (13, .v (.int .i64 i))]) [] (fun _ => [])
    (fun i => ∃ k : Nat, i = k ∧ k ≤ a.length ∧ decide (a = b) = decide (a.drop k = b.drop k)) (fun i => a.length - i.toNat) 0 ⟨0, rfl, by simp, by simp⟩ rfl
    ⟨⟨.old rfl ((ints_pureH a).klt), .old rfl ((ints_pureH b).klt), .old rfl ((ints_pureH a).klt), .old rfl .v, .old rfl .v, trivial⟩, rfl, trivial, rfl, rfl, rfl⟩ ?_
  rintro i ⟨k, hi, hk, hp⟩
  refine wpQ.go 400 (by conv => lhs; cbv) ?_
  by_cases hlt : k < a.length
  · obtain ⟨x, hx, hx2⟩ := drop_at hlt
    obtain ⟨y, hy, hy2⟩ := drop_at (show k < b.length by omega)
    rw [hx2, hy2] at hp
    repeat' (first
      | (refine wpQ.op rfl (Owe.ind rfl rfl (lst_idx (l := a) hi hx) (lst_all fun _ => rfl)) ?_; refine wpQ.go 400 (by conv => lhs; cbv) ?_)
      | (refine wpQ.op rfl (Owe.ind rfl rfl (lst_idx (l := b) hi hy) (lst_all fun _ => rfl)) ?_; refine wpQ.go 400 (by conv => lhs; cbv) ?_)
      | (refine wpQ.bif rfl (Owe.bit rfl) (fun hb => ?_) (fun hb => ?_) <;> (try simp only [decide_eq_true_eq, decide_eq_false_iff_not, beq_iff_eq, beq_eq_false_iff_ne, bne_iff_ne, bne_eq_false_iff_eq, Bool.not_eq_true, Bool.not_eq_false, Bool.not_eq_true', Bool.not_eq_false', ne_eq] at hb) <;> refine wpQ.go 400 (by conv => lhs; cbv) ?_)
      | (refine wpQ.int rfl (Owe.len rfl) fun m hm => ?_; (try rw [lst_len] at hm); refine wpQ.go 400 (by conv => lhs; cbv) ?_)
      | (refine wpQ.int rfl (Owe.ari64 rfl rfl rfl (by omega) (by omega)) fun _ _ => ?_; refine wpQ.go 400 (by conv => lhs; cbv) ?_)
      | (refine wpQ.int rfl (Owe.conv64 rfl (by omega) (by omega)) fun _ _ => ?_; refine wpQ.go 400 (by conv => lhs; cbv) ?_)
      | (refine wpQ.str rfl (Owe.cat rfl rfl (by assumption)) fun _ _ => ?_; refine wpQ.go 400 (by conv => lhs; cbv) ?_)
      | (refine wpQ.exitC ?_; refine wpQ.go 400 (by conv => lhs; cbv) ?_)
      | (refine wpQ.retC ?_; refine wpQ.go 400 (by conv => lhs; cbv) ?_)
      | (refine wpQ.fin (by conv => lhs; cbv) ?_))
    · rw [hp]; exact Frz.of_eq (by simp_all)
    · refine wpQ.nextC (σ := Int) _ [] ⟨k + 1, by omega, by omega, ?_⟩ (by omega) ⟨⟨.old rfl ((ints_pureH a).klt), .old rfl ((ints_pureH b).klt), .old rfl ((ints_pureH a).klt), .old rfl .v, .old rfl .v, trivial⟩, rfl, trivial, rfl, rfl, rfl⟩
      rw [hp]; simp_all
    · omega
  · skip
    repeat' (first
      | (refine wpQ.bif rfl (Owe.bit rfl) (fun hb => ?_) (fun hb => ?_) <;> (try simp only [decide_eq_true_eq, decide_eq_false_iff_not, beq_iff_eq, beq_eq_false_iff_ne, bne_iff_ne, bne_eq_false_iff_eq, Bool.not_eq_true, Bool.not_eq_false, Bool.not_eq_true', Bool.not_eq_false', ne_eq] at hb) <;> refine wpQ.go 400 (by conv => lhs; cbv) ?_)
      | (refine wpQ.int rfl (Owe.len rfl) fun m hm => ?_; (try rw [lst_len] at hm); refine wpQ.go 400 (by conv => lhs; cbv) ?_)
      | (refine wpQ.int rfl (Owe.ari64 rfl rfl rfl (by omega) (by omega)) fun _ _ => ?_; refine wpQ.go 400 (by conv => lhs; cbv) ?_)
      | (refine wpQ.int rfl (Owe.conv64 rfl (by omega) (by omega)) fun _ _ => ?_; refine wpQ.go 400 (by conv => lhs; cbv) ?_)
      | (refine wpQ.str rfl (Owe.cat rfl rfl (by assumption)) fun _ _ => ?_; refine wpQ.go 400 (by conv => lhs; cbv) ?_)
      | (refine wpQ.exitC ?_; refine wpQ.go 400 (by conv => lhs; cbv) ?_)
      | (refine wpQ.retC ?_; refine wpQ.go 400 (by conv => lhs; cbv) ?_)
      | (refine wpQ.fin (by conv => lhs; cbv) ?_))
    · omega
    · rw [hp, List.drop_eq_nil_of_le (by omega), List.drop_eq_nil_of_le (by omega)]; exact Frz.of_eq rfl
theorem sameInts_h (a b : List Int) (hl : a.length ≤ 999999) : PCal Tryd.prog w0 15 [lst ρ irow false a, lst ρ irow false b] (.v (.bool (decide (a = b)))) := by
  refine qf15.pcal (by simp [Tryd.ntmps15]) (.v) ?_
  refine wpQ.go 400 (by conv => lhs; cbv) ?_
  repeat' (first
    | (refine wpQ.bif rfl (Owe.bit rfl) (fun hb => ?_) (fun hb => ?_) <;> (try simp only [decide_eq_true_eq, decide_eq_false_iff_not, beq_iff_eq, beq_eq_false_iff_ne, bne_iff_ne, bne_eq_false_iff_eq, Bool.not_eq_true, Bool.not_eq_false, Bool.not_eq_true', Bool.not_eq_false', ne_eq] at hb) <;> refine wpQ.go 400 (by conv => lhs; cbv) ?_)
    | (refine wpQ.int rfl (Owe.len rfl) fun m hm => ?_; (try rw [lst_len] at hm); refine wpQ.go 400 (by conv => lhs; cbv) ?_)
    | (refine wpQ.int rfl (Owe.ari64 rfl rfl rfl (by omega) (by omega)) fun _ _ => ?_; refine wpQ.go 400 (by conv => lhs; cbv) ?_)
    | (refine wpQ.int rfl (Owe.conv64 rfl (by omega) (by omega)) fun _ _ => ?_; refine wpQ.go 400 (by conv => lhs; cbv) ?_)
    | (refine wpQ.str rfl (Owe.cat rfl rfl (by assumption)) fun _ _ => ?_; refine wpQ.go 400 (by conv => lhs; cbv) ?_)
    | (refine wpQ.exitC ?_; refine wpQ.go 400 (by conv => lhs; cbv) ?_)
    | (refine wpQ.retC ?_; refine wpQ.go 400 (by conv => lhs; cbv) ?_)
    | (refine wpQ.fin (by conv => lhs; cbv) ?_))
  · refine Frz.of_eq ?_
    have : a ≠ b := by rintro rfl; omega
    simp [this]
  have hne : a.length = b.length := by omega
  refine wpQ.loopC (σ := Int) 0 0 [] (fun i => [(0, lst ρ irow false a), (1, lst ρ irow false b), (5, .v (.int .i64 i))]) [] (fun _ => [])
    (fun i => ∃ k : Nat, i = k ∧ k ≤ a.length ∧ decide (a = b) = decide (a.drop k = b.drop k)) (fun i => a.length - i.toNat) 0 ⟨0, rfl, by simp, by simp⟩ rfl
    ⟨⟨.old rfl ((ints_pureH a).klt), .old rfl ((ints_pureH b).klt), .old rfl .v, trivial⟩, rfl, trivial, rfl, rfl, rfl⟩ ?_
  rintro i ⟨k, hi, hk, hp⟩
  refine wpQ.go 400 (by conv => lhs; cbv) ?_
  by_cases hlt : k < a.length
  · obtain ⟨x, hx, hx2⟩ := drop_at hlt
    obtain ⟨y, hy, hy2⟩ := drop_at (show k < b.length by omega)
    rw [hx2, hy2] at hp
    repeat' (first
      | (refine wpQ.op rfl (Owe.ind rfl rfl (lst_idx (l := a) hi hx) (lst_all fun _ => rfl)) ?_; refine wpQ.go 400 (by conv => lhs; cbv) ?_)
      | (refine wpQ.op rfl (Owe.ind rfl rfl (lst_idx (l := b) hi hy) (lst_all fun _ => rfl)) ?_; refine wpQ.go 400 (by conv => lhs; cbv) ?_)
      | (refine wpQ.bif rfl (Owe.bit rfl) (fun hb => ?_) (fun hb => ?_) <;> (try simp only [decide_eq_true_eq, decide_eq_false_iff_not, beq_iff_eq, beq_eq_false_iff_ne, bne_iff_ne, bne_eq_false_iff_eq, Bool.not_eq_true, Bool.not_eq_false, Bool.not_eq_true', Bool.not_eq_false', ne_eq] at hb) <;> refine wpQ.go 400 (by conv => lhs; cbv) ?_)
      | (refine wpQ.int rfl (Owe.len rfl) fun m hm => ?_; (try rw [lst_len] at hm); refine wpQ.go 400 (by conv => lhs; cbv) ?_)
      | (refine wpQ.int rfl (Owe.ari64 rfl rfl rfl (by omega) (by omega)) fun _ _ => ?_; refine wpQ.go 400 (by conv => lhs; cbv) ?_)
      | (refine wpQ.int rfl (Owe.conv64 rfl (by omega) (by omega)) fun _ _ => ?_; refine wpQ.go 400 (by conv => lhs; cbv) ?_)
      | (refine wpQ.str rfl (Owe.cat rfl rfl (by assumption)) fun _ _ => ?_; refine wpQ.go 400 (by conv => lhs; cbv) ?_)
      | (refine wpQ.exitC ?_; refine wpQ.go 400 (by conv => lhs; cbv) ?_)
      | (refine wpQ.retC ?_; refine wpQ.go 400 (by conv => lhs; cbv) ?_)
      | (refine wpQ.fin (by conv => lhs; cbv) ?_))
    all_goals first
      | (rw [hp]; exact Frz.of_eq (by simp_all))
      | (refine wpQ.nextC (σ := Int) _ [] ⟨k + 1, by omega, by omega, ?_⟩ (by omega) ⟨⟨.old rfl ((ints_pureH a).klt), .old rfl ((ints_pureH b).klt), .old rfl .v, trivial⟩, rfl, trivial, rfl, rfl, rfl⟩; rw [hp]; simp_all; done)
      | (exfalso; omega)
  · skip
    repeat' (first
      | (refine wpQ.bif rfl (Owe.bit rfl) (fun hb => ?_) (fun hb => ?_) <;> (try simp only [decide_eq_true_eq, decide_eq_false_iff_not, beq_iff_eq, beq_eq_false_iff_ne, bne_iff_ne, bne_eq_false_iff_eq, Bool.not_eq_true, Bool.not_eq_false, Bool.not_eq_true', Bool.not_eq_false', ne_eq] at hb) <;> refine wpQ.go 400 (by conv => lhs; cbv) ?_)
      | (refine wpQ.int rfl (Owe.len rfl) fun m hm => ?_; (try rw [lst_len] at hm); refine wpQ.go 400 (by conv => lhs; cbv) ?_)
      | (refine wpQ.int rfl (Owe.ari64 rfl rfl rfl (by omega) (by omega)) fun _ _ => ?_; refine wpQ.go 400 (by conv => lhs; cbv) ?_)
      | (refine wpQ.int rfl (Owe.conv64 rfl (by omega) (by omega)) fun _ _ => ?_; refine wpQ.go 400 (by conv => lhs; cbv) ?_)
      | (refine wpQ.str rfl (Owe.cat rfl rfl (by assumption)) fun _ _ => ?_; refine wpQ.go 400 (by conv => lhs; cbv) ?_)
      | (refine wpQ.exitC ?_; refine wpQ.go 400 (by conv => lhs; cbv) ?_)
      | (refine wpQ.retC ?_; refine wpQ.go 400 (by conv => lhs; cbv) ?_)
      | (refine wpQ.fin (by conv => lhs; cbv) ?_))
    all_goals first
      | (exfalso; omega)
      | (rw [hp, List.drop_eq_nil_of_le (by omega), List.drop_eq_nil_of_le (by omega)]; exact Frz.of_eq rfl)
theorem same1_h (x y : Ed) (hl : x.ids.length ≤ 1000000) : PCal Tryd.prog w0 31 [evH ρ x, evH ρ y] (.v (.bool (eqE x y))) := by
  obtain ⟨k1, i1, o1, r1, s1⟩ := x
  obtain ⟨k2, i2, o2, r2, s2⟩ := y
  refine qf31.pcal (by simp [Tryd.ntmps31]) (.v) ?_
  refine wpQ.go 400 (by conv => lhs; cbv) ?_
  repeat' (first
    | (refine wpQ.bif rfl (Owe.pcall rfl (equalI_h (ρ := ρ) s1 s2 hl) ⟨ints_pureH _, ints_pureH _, trivial⟩) (fun _ => ?_) (fun _ => ?_) <;> refine wpQ.go 400 (by conv => lhs; cbv) ?_)
    | (refine wpQ.bif rfl (Owe.bit rfl) (fun hb => ?_) (fun hb => ?_) <;> (try simp only [decide_eq_true_eq, decide_eq_false_iff_not, beq_iff_eq, beq_eq_false_iff_ne, bne_iff_ne, bne_eq_false_iff_eq, Bool.not_eq_true, Bool.not_eq_false, Bool.not_eq_true', Bool.not_eq_false', ne_eq] at hb) <;> refine wpQ.go 400 (by conv => lhs; cbv) ?_)
    | (refine wpQ.int rfl (Owe.len rfl) fun m hm => ?_; (try rw [lst_len] at hm); refine wpQ.go 400 (by conv => lhs; cbv) ?_)
    | (refine wpQ.int rfl (Owe.ari64 rfl rfl rfl (by omega) (by omega)) fun _ _ => ?_; refine wpQ.go 400 (by conv => lhs; cbv) ?_)
    | (refine wpQ.int rfl (Owe.conv64 rfl (by omega) (by omega)) fun _ _ => ?_; refine wpQ.go 400 (by conv => lhs; cbv) ?_)
    | (refine wpQ.str rfl (Owe.cat rfl rfl (by assumption)) fun _ _ => ?_; refine wpQ.go 400 (by conv => lhs; cbv) ?_)
    | (refine wpQ.exitC ?_; refine wpQ.go 400 (by conv => lhs; cbv) ?_)
    | (refine wpQ.retC ?_; refine wpQ.go 400 (by conv => lhs; cbv) ?_)
    | (refine wpQ.fin (by conv => lhs; cbv) ?_))
  all_goals (refine Frz.of_eq ?_; simp_all [eqE])
theorem equal_h (x y : Ed) (hl : x.ids.length ≤ 999999) : PCal Tryd.prog w0 10 [evH ρ x, evH ρ y] (.v (.bool (eqE x y))) := by
  obtain ⟨k1, i1, o1, r1, s1⟩ := x
  obtain ⟨k2, i2, o2, r2, s2⟩ := y
  refine qf10.pcal (by simp [Tryd.ntmps10]) (.v) ?_
  refine wpQ.go 400 (by conv => lhs; cbv) ?_
  repeat' (first
    | (refine wpQ.bif rfl (Owe.pcall rfl (sameInts_h (ρ := ρ) s1 s2 hl) ⟨ints_pureH _, ints_pureH _, trivial⟩) (fun _ => ?_) (fun _ => ?_) <;> refine wpQ.go 400 (by conv => lhs; cbv) ?_)
    | (refine wpQ.bif rfl (Owe.bit rfl) (fun hb => ?_) (fun hb => ?_) <;> (try simp only [decide_eq_true_eq, decide_eq_false_iff_not, beq_iff_eq, beq_eq_false_iff_ne, bne_iff_ne, bne_eq_false_iff_eq, Bool.not_eq_true, Bool.not_eq_false, Bool.not_eq_true', Bool.not_eq_false', ne_eq] at hb) <;> refine wpQ.go 400 (by conv => lhs; cbv) ?_)
    | (refine wpQ.int rfl (Owe.len rfl) fun m hm => ?_; (try rw [lst_len] at hm); refine wpQ.go 400 (by conv => lhs; cbv) ?_)
    | (refine wpQ.int rfl (Owe.ari64 rfl rfl rfl (by omega) (by omega)) fun _ _ => ?_; refine wpQ.go 400 (by conv => lhs; cbv) ?_)
    | (refine wpQ.int rfl (Owe.conv64 rfl (by omega) (by omega)) fun _ _ => ?_; refine wpQ.go 400 (by conv => lhs; cbv) ?_)
    | (refine wpQ.str rfl (Owe.cat rfl rfl (by assumption)) fun _ _ => ?_; refine wpQ.go 400 (by conv => lhs; cbv) ?_)
    | (refine wpQ.exitC ?_; refine wpQ.go 400 (by conv => lhs; cbv) ?_)
    | (refine wpQ.retC ?_; refine wpQ.go 400 (by conv => lhs; cbv) ?_)
    | (refine wpQ.fin (by conv => lhs; cbv) ?_))
  all_goals (refine Frz.of_eq ?_; simp_all [eqE])
theorem evs_pure (l : List Ed) {ex : Bool} : Pure (lst ρ (evR ρ) ex l) := lst_pure fun x _ a ha => by
  simp only [evR, List.mem_cons, List.not_mem_nil, or_false] at ha
  rcases ha with rfl | rfl | rfl | rfl | rfl
  all_goals first | exact .v | exact ints_pureH _
theorem appliesR_h (x : Ed) : PCal Tryd.prog w0 25 [evH ρ x] (.v (.bool (appB x.kd))) := by
  obtain ⟨k1, i1, o1, r1, s1⟩ := x
  refine qf25.pcal (by simp [Tryd.ntmps25]) (.v) ?_
  refine wpQ.go 400 (by conv => lhs; cbv) ?_
  repeat' (first
    | (refine wpQ.bif rfl (Owe.bit rfl) (fun hb => ?_) (fun hb => ?_) <;> (try simp only [decide_eq_true_eq, decide_eq_false_iff_not, beq_iff_eq, beq_eq_false_iff_ne, bne_iff_ne, bne_eq_false_iff_eq, Bool.not_eq_true, Bool.not_eq_false, Bool.not_eq_true', Bool.not_eq_false', ne_eq] at hb) <;> refine wpQ.go 400 (by conv => lhs; cbv) ?_)
    | (refine wpQ.int rfl (Owe.len rfl) fun m hm => ?_; (try rw [lst_len] at hm); refine wpQ.go 400 (by conv => lhs; cbv) ?_)
    | (refine wpQ.int rfl (Owe.ari64 rfl rfl rfl (by omega) (by omega)) fun _ _ => ?_; refine wpQ.go 400 (by conv => lhs; cbv) ?_)
    | (refine wpQ.int rfl (Owe.conv64 rfl (by omega) (by omega)) fun _ _ => ?_; refine wpQ.go 400 (by conv => lhs; cbv) ?_)
    | (refine wpQ.str rfl (Owe.cat rfl rfl (by assumption)) fun _ _ => ?_; refine wpQ.go 400 (by conv => lhs; cbv) ?_)
    | (refine wpQ.exitC ?_; refine wpQ.go 400 (by conv => lhs; cbv) ?_)
    | (refine wpQ.retC ?_; refine wpQ.go 400 (by conv => lhs; cbv) ?_)
    | (refine wpQ.fin (by conv => lhs; cbv) ?_))
  all_goals (refine Frz.of_eq ?_; simp_all [appB])
theorem eqf_h (a b : List Ed) (hl : a.length ≤ 1000000) (hI : ∀ x ∈ a, x.ids.length ≤ 1000000) :
    PCal Tryd.prog w0 30 [lst ρ (evR ρ) false a, lst ρ (evR ρ) false b, .v (.func (.func 31) #[] #[])] (.v (.bool (eqEs a b))) := by
  refine qf30.pcal (by simp [Tryd.ntmps30]) (.v) ?_
  refine wpQ.go 400 (by conv => lhs; cbv) ?_
  repeat' (first
    | (refine wpQ.bif rfl (Owe.bit rfl) (fun hb => ?_) (fun hb => ?_) <;> (try simp only [decide_eq_true_eq, decide_eq_false_iff_not, beq_iff_eq, beq_eq_false_iff_ne, bne_iff_ne, bne_eq_false_iff_eq, Bool.not_eq_true, Bool.not_eq_false, Bool.not_eq_true', Bool.not_eq_false', ne_eq] at hb) <;> refine wpQ.go 400 (by conv => lhs; cbv) ?_)
    | (refine wpQ.int rfl (Owe.len rfl) fun m hm => ?_; (try rw [lst_len] at hm); refine wpQ.go 400 (by conv => lhs; cbv) ?_)
    | (refine wpQ.int rfl (Owe.ari64 rfl rfl rfl (by omega) (by omega)) fun _ _ => ?_; refine wpQ.go 400 (by conv => lhs; cbv) ?_)
    | (refine wpQ.int rfl (Owe.conv64 rfl (by omega) (by omega)) fun _ _ => ?_; refine wpQ.go 400 (by conv => lhs; cbv) ?_)
    | (refine wpQ.str rfl (Owe.cat rfl rfl (by assumption)) fun _ _ => ?_; refine wpQ.go 400 (by conv => lhs; cbv) ?_)
    | (refine wpQ.exitC ?_; refine wpQ.go 400 (by conv => lhs; cbv) ?_)
    | (refine wpQ.retC ?_; refine wpQ.go 400 (by conv => lhs; cbv) ?_)
    | (refine wpQ.fin (by conv => lhs; cbv) ?_))
  · refine Frz.of_eq ?_
    cases h : eqEs a b with
    | false => rfl
    | true => have := eqEs_len h; omega
  have hne : a.length = b.length := by omega
  refine wpQ.loopC (σ := Int) 0 0 [] (fun i => [(1, lst ρ (evR ρ) false b), (2, .v (.func (.func 31) #[] #[])), (15, lst ρ (evR ρ) false a), (16, .v (.int .i64 m)), (17, .v (.int .i64 i))]) [] (fun _ => [])
    (fun i => ∃ k : Nat, i = k ∧ k ≤ a.length ∧ eqEs a b = eqEs (a.drop k) (b.drop k)) (fun i => a.length - i.toNat) 0 ⟨0, rfl, by simp, by simp⟩ rfl
    ⟨⟨.old rfl ((evs_pure b).klt), .old rfl .v, .old rfl ((evs_pure a).klt), .old rfl .v, .old rfl .v, trivial⟩, rfl, trivial, rfl, rfl, rfl⟩ ?_
  rintro i ⟨k, hi, hk, hp⟩
  refine wpQ.go 400 (by conv => lhs; cbv) ?_
  by_cases hlt : k < a.length
  · obtain ⟨x, hx, hx2⟩ := drop_at hlt
    obtain ⟨y, hy, hy2⟩ := drop_at (show k < b.length by omega)
    have hxi : x.ids.length ≤ 1000000 := hI x (List.mem_of_getElem? hx)
    rw [hx2, hy2, eqEs] at hp
    repeat' (first
      | (refine wpQ.op rfl (Owe.ind rfl rfl (lst_idx (l := a) hi hx) (lst_all fun _ => rfl)) ?_; refine wpQ.go 400 (by conv => lhs; cbv) ?_)
      | (refine wpQ.op rfl (Owe.ind rfl rfl (lst_idx (l := b) hi hy) (lst_all fun _ => rfl)) ?_; refine wpQ.go 400 (by conv => lhs; cbv) ?_)
      | (refine wpQ.bif rfl (Owe.pcall rfl (same1_h (ρ := ρ) x y hxi) ⟨evH_pure _, evH_pure _, trivial⟩) (fun _ => ?_) (fun _ => ?_) <;> refine wpQ.go 400 (by conv => lhs; cbv) ?_)
      | (refine wpQ.bif rfl (Owe.bit rfl) (fun hb => ?_) (fun hb => ?_) <;> (try simp only [decide_eq_true_eq, decide_eq_false_iff_not, beq_iff_eq, beq_eq_false_iff_ne, bne_iff_ne, bne_eq_false_iff_eq, Bool.not_eq_true, Bool.not_eq_false, Bool.not_eq_true', Bool.not_eq_false', ne_eq] at hb) <;> refine wpQ.go 400 (by conv => lhs; cbv) ?_)
      | (refine wpQ.int rfl (Owe.len rfl) fun m hm => ?_; (try rw [lst_len] at hm); refine wpQ.go 400 (by conv => lhs; cbv) ?_)
      | (refine wpQ.int rfl (Owe.ari64 rfl rfl rfl (by omega) (by omega)) fun _ _ => ?_; refine wpQ.go 400 (by conv => lhs; cbv) ?_)
      | (refine wpQ.int rfl (Owe.conv64 rfl (by omega) (by omega)) fun _ _ => ?_; refine wpQ.go 400 (by conv => lhs; cbv) ?_)
      | (refine wpQ.str rfl (Owe.cat rfl rfl (by assumption)) fun _ _ => ?_; refine wpQ.go 400 (by conv => lhs; cbv) ?_)
      | (refine wpQ.exitC ?_; refine wpQ.go 400 (by conv => lhs; cbv) ?_)
      | (refine wpQ.retC ?_; refine wpQ.go 400 (by conv => lhs; cbv) ?_)
      | (refine wpQ.fin (by conv => lhs; cbv) ?_))
    all_goals first
      | (rw [hp]; exact Frz.of_eq (by simp_all))
      | (refine wpQ.nextC (σ := Int) _ [] ⟨k + 1, by omega, by omega, ?_⟩ (by omega) ⟨⟨.old rfl ((evs_pure b).klt), .old rfl .v, .old rfl ((evs_pure a).klt), .old rfl .v, .old rfl .v, trivial⟩, rfl, trivial, rfl, rfl, rfl⟩; rw [hp]; simp_all; done)
      | (exfalso; omega)
  · skip
    repeat' (first
      | (refine wpQ.bif rfl (Owe.bit rfl) (fun hb => ?_) (fun hb => ?_) <;> (try simp only [decide_eq_true_eq, decide_eq_false_iff_not, beq_iff_eq, beq_eq_false_iff_ne, bne_iff_ne, bne_eq_false_iff_eq, Bool.not_eq_true, Bool.not_eq_false, Bool.not_eq_true', Bool.not_eq_false', ne_eq] at hb) <;> refine wpQ.go 400 (by conv => lhs; cbv) ?_)
      | (refine wpQ.int rfl (Owe.len rfl) fun m hm => ?_; (try rw [lst_len] at hm); refine wpQ.go 400 (by conv => lhs; cbv) ?_)
      | (refine wpQ.int rfl (Owe.ari64 rfl rfl rfl (by omega) (by omega)) fun _ _ => ?_; refine wpQ.go 400 (by conv => lhs; cbv) ?_)
      | (refine wpQ.int rfl (Owe.conv64 rfl (by omega) (by omega)) fun _ _ => ?_; refine wpQ.go 400 (by conv => lhs; cbv) ?_)
      | (refine wpQ.str rfl (Owe.cat rfl rfl (by assumption)) fun _ _ => ?_; refine wpQ.go 400 (by conv => lhs; cbv) ?_)
      | (refine wpQ.exitC ?_; refine wpQ.go 400 (by conv => lhs; cbv) ?_)
      | (refine wpQ.retC ?_; refine wpQ.go 400 (by conv => lhs; cbv) ?_)
      | (refine wpQ.fin (by conv => lhs; cbv) ?_))
    all_goals first
      | (exfalso; omega)
      | (rw [hp, List.drop_eq_nil_of_le (by omega), List.drop_eq_nil_of_le (by omega)]; exact Frz.of_eq rfl)
theorem same_h (a b : List Ed) (hl : a.length ≤ 1000000) (hI : ∀ x ∈ a, x.ids.length ≤ 1000000) : PCal Tryd.prog w0 13 [lst ρ (evR ρ) false a, lst ρ (evR ρ) false b] (.v (.bool (eqEs a b))) := by
  refine qf13.pcal (by simp [Tryd.ntmps13]) (.v) ?_
  refine wpQ.go 400 (by conv => lhs; cbv) ?_
  repeat' (first
    | (refine wpQ.bif rfl (Owe.pcall rfl (eqf_h (ρ := ρ) a b hl hI) ⟨evs_pure _, evs_pure _, .v, trivial⟩) (fun _ => ?_) (fun _ => ?_) <;> refine wpQ.go 400 (by conv => lhs; cbv) ?_)
    | (refine wpQ.bif rfl (Owe.bit rfl) (fun hb => ?_) (fun hb => ?_) <;> (try simp only [decide_eq_true_eq, decide_eq_false_iff_not, beq_iff_eq, beq_eq_false_iff_ne, bne_iff_ne, bne_eq_false_iff_eq, Bool.not_eq_true, Bool.not_eq_false, Bool.not_eq_true', Bool.not_eq_false', ne_eq] at hb) <;> refine wpQ.go 400 (by conv => lhs; cbv) ?_)
    | (refine wpQ.int rfl (Owe.len rfl) fun m hm => ?_; (try rw [lst_len] at hm); refine wpQ.go 400 (by conv => lhs; cbv) ?_)
    | (refine wpQ.int rfl (Owe.ari64 rfl rfl rfl (by omega) (by omega)) fun _ _ => ?_; refine wpQ.go 400 (by conv => lhs; cbv) ?_)
    | (refine wpQ.int rfl (Owe.conv64 rfl (by omega) (by omega)) fun _ _ => ?_; refine wpQ.go 400 (by conv => lhs; cbv) ?_)
    | (refine wpQ.str rfl (Owe.cat rfl rfl (by assumption)) fun _ _ => ?_; refine wpQ.go 400 (by conv => lhs; cbv) ?_)
    | (refine wpQ.exitC ?_; refine wpQ.go 400 (by conv => lhs; cbv) ?_)
    | (refine wpQ.retC ?_; refine wpQ.go 400 (by conv => lhs; cbv) ?_)
    | (refine wpQ.fin (by conv => lhs; cbv) ?_))
  all_goals (refine Frz.of_eq ?_; simp_all)
theorem sameR_h (a b : List Ed) (hl : a.length ≤ 1000000) (hI : ∀ x ∈ a, x.ids.length ≤ 999999) : PCal Tryd.prog w0 14 [lst ρ (evR ρ) false a, lst ρ (evR ρ) false b] (.v (.bool (eqEs a b))) := by
  refine qf14.pcal (by simp [Tryd.ntmps14]) (.v) ?_
  refine wpQ.go 400 (by conv => lhs; cbv) ?_
  repeat' (first
    | (refine wpQ.bif rfl (Owe.bit rfl) (fun hb => ?_) (fun hb => ?_) <;> (try simp only [decide_eq_true_eq, decide_eq_false_iff_not, beq_iff_eq, beq_eq_false_iff_ne, bne_iff_ne, bne_eq_false_iff_eq, Bool.not_eq_true, Bool.not_eq_false, Bool.not_eq_true', Bool.not_eq_false', ne_eq] at hb) <;> refine wpQ.go 400 (by conv => lhs; cbv) ?_)
    | (refine wpQ.int rfl (Owe.len rfl) fun m hm => ?_; (try rw [lst_len] at hm); refine wpQ.go 400 (by conv => lhs; cbv) ?_)
    | (refine wpQ.int rfl (Owe.ari64 rfl rfl rfl (by omega) (by omega)) fun _ _ => ?_; refine wpQ.go 400 (by conv => lhs; cbv) ?_)
    | (refine wpQ.int rfl (Owe.conv64 rfl (by omega) (by omega)) fun _ _ => ?_; refine wpQ.go 400 (by conv => lhs; cbv) ?_)
    | (refine wpQ.str rfl (Owe.cat rfl rfl (by assumption)) fun _ _ => ?_; refine wpQ.go 400 (by conv => lhs; cbv) ?_)
    | (refine wpQ.exitC ?_; refine wpQ.go 400 (by conv => lhs; cbv) ?_)
    | (refine wpQ.retC ?_; refine wpQ.go 400 (by conv => lhs; cbv) ?_)
    | (refine wpQ.fin (by conv => lhs; cbv) ?_))
  · refine Frz.of_eq ?_
    cases h : eqEs a b with
    | false => rfl
    | true => have := eqEs_len h; omega
  have hne : a.length = b.length := by omega
  refine wpQ.loopC (σ := Int) 0 0 [] (fun i => [(0, lst ρ (evR ρ) false a), (1, lst ρ (evR ρ) false b), (5, .v (.int .i64 i))]) [] (fun _ => [])
    (fun i => ∃ k : Nat, i = k ∧ k ≤ a.length ∧ eqEs a b = eqEs (a.drop k) (b.drop k)) (fun i => a.length - i.toNat) 0 ⟨0, rfl, by simp, by simp⟩ rfl
    ⟨⟨.old rfl ((evs_pure a).klt), .old rfl ((evs_pure b).klt), .old rfl .v, trivial⟩, rfl, trivial, rfl, rfl, rfl⟩ ?_
  rintro i ⟨k, hi, hk, hp⟩
  refine wpQ.go 400 (by conv => lhs; cbv) ?_
  by_cases hlt : k < a.length
  · obtain ⟨x, hx, hx2⟩ := drop_at hlt
    obtain ⟨y, hy, hy2⟩ := drop_at (show k < b.length by omega)
    have hxi : x.ids.length ≤ 999999 := hI x (List.mem_of_getElem? hx)
    rw [hx2, hy2, eqEs] at hp
    repeat' (first
      | (refine wpQ.op rfl (Owe.ind rfl rfl (lst_idx (l := a) hi hx) (lst_all fun _ => rfl)) ?_; refine wpQ.go 400 (by conv => lhs; cbv) ?_)
      | (refine wpQ.op rfl (Owe.ind rfl rfl (lst_idx (l := b) hi hy) (lst_all fun _ => rfl)) ?_; refine wpQ.go 400 (by conv => lhs; cbv) ?_)
      | (refine wpQ.bif rfl (Owe.pcall rfl (equal_h (ρ := ρ) x y hxi) ⟨evH_pure _, evH_pure _, trivial⟩) (fun _ => ?_) (fun _ => ?_) <;> refine wpQ.go 400 (by conv => lhs; cbv) ?_)
      | (refine wpQ.bif rfl (Owe.bit rfl) (fun hb => ?_) (fun hb => ?_) <;> (try simp only [decide_eq_true_eq, decide_eq_false_iff_not, beq_iff_eq, beq_eq_false_iff_ne, bne_iff_ne, bne_eq_false_iff_eq, Bool.not_eq_true, Bool.not_eq_false, Bool.not_eq_true', Bool.not_eq_false', ne_eq] at hb) <;> refine wpQ.go 400 (by conv => lhs; cbv) ?_)
      | (refine wpQ.int rfl (Owe.len rfl) fun m hm => ?_; (try rw [lst_len] at hm); refine wpQ.go 400 (by conv => lhs; cbv) ?_)
      | (refine wpQ.int rfl (Owe.ari64 rfl rfl rfl (by omega) (by omega)) fun _ _ => ?_; refine wpQ.go 400 (by conv => lhs; cbv) ?_)
      | (refine wpQ.int rfl (Owe.conv64 rfl (by omega) (by omega)) fun _ _ => ?_; refine wpQ.go 400 (by conv => lhs; cbv) ?_)
      | (refine wpQ.str rfl (Owe.cat rfl rfl (by assumption)) fun _ _ => ?_; refine wpQ.go 400 (by conv => lhs; cbv) ?_)
      | (refine wpQ.exitC ?_; refine wpQ.go 400 (by conv => lhs; cbv) ?_)
      | (refine wpQ.retC ?_; refine wpQ.go 400 (by conv => lhs; cbv) ?_)
      | (refine wpQ.fin (by conv => lhs; cbv) ?_))
    all_goals first
      | (rw [hp]; exact Frz.of_eq (by simp_all))
      | (refine wpQ.nextC (σ := Int) _ [] ⟨k + 1, by omega, by omega, ?_⟩ (by omega) ⟨⟨.old rfl ((evs_pure a).klt), .old rfl ((evs_pure b).klt), .old rfl .v, trivial⟩, rfl, trivial, rfl, rfl, rfl⟩; rw [hp]; simp_all; done)
      | (exfalso; omega)
  · skip
    repeat' (first
      | (refine wpQ.bif rfl (Owe.bit rfl) (fun hb => ?_) (fun hb => ?_) <;> (try simp only [decide_eq_true_eq, decide_eq_false_iff_not, beq_iff_eq, beq_eq_false_iff_ne, bne_iff_ne, bne_eq_false_iff_eq, Bool.not_eq_true, Bool.not_eq_false, Bool.not_eq_true', Bool.not_eq_false', ne_eq] at hb) <;> refine wpQ.go 400 (by conv => lhs; cbv) ?_)
      | (refine wpQ.int rfl (Owe.len rfl) fun m hm => ?_; (try rw [lst_len] at hm); refine wpQ.go 400 (by conv => lhs; cbv) ?_)
      | (refine wpQ.int rfl (Owe.ari64 rfl rfl rfl (by omega) (by omega)) fun _ _ => ?_; refine wpQ.go 400 (by conv => lhs; cbv) ?_)
      | (refine wpQ.int rfl (Owe.conv64 rfl (by omega) (by omega)) fun _ _ => ?_; refine wpQ.go 400 (by conv => lhs; cbv) ?_)
      | (refine wpQ.str rfl (Owe.cat rfl rfl (by assumption)) fun _ _ => ?_; refine wpQ.go 400 (by conv => lhs; cbv) ?_)
      | (refine wpQ.exitC ?_; refine wpQ.go 400 (by conv => lhs; cbv) ?_)
      | (refine wpQ.retC ?_; refine wpQ.go 400 (by conv => lhs; cbv) ?_)
      | (refine wpQ.fin (by conv => lhs; cbv) ?_))
    all_goals first
      | (exfalso; omega)
      | (rw [hp, List.drop_eq_nil_of_le (by omega), List.drop_eq_nil_of_le (by omega)]; exact Frz.of_eq rfl)
end
end Go.Proofs.YtahhaiomdjlckaaDoor
