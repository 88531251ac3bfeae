/-
  trace: numbers, occurrence, application, read, Parse: what they return.
-/
import Derived.Test.YtahhaiomdjlckaaDoorE1
namespace Go.Proofs.YtahhaiomdjlckaaDoor
set_option linter.unusedVariables false
set_option linter.unusedSimpArgs false
open Go.RowKit

def qp65 : {q : QC × List QR // compF Tryd.progTables Tryd.f65 = some q} := ⟨_, by conv => lhs; cbv⟩
theorem qf65 : QFn Tryd.prog 65 qp65.1 Tryd.f65.ntmps := QFn.of Tryd.func65 qp65.2 rfl rfl (by kernel_rfl) Tryd.call65
def qp54 : {q : QC × List QR // compF Tryd.progTables Tryd.f54 = some q} := ⟨_, by conv => lhs; cbv⟩
theorem qf54 : QFn Tryd.prog 54 qp54.1 Tryd.f54.ntmps := QFn.of Tryd.func54 qp54.2 rfl rfl (by kernel_rfl) Tryd.call54
def qp43 : {q : QC × List QR // compF Tryd.progTables Tryd.f43 = some q} := ⟨_, by conv => lhs; cbv⟩
theorem qf43 : QFn Tryd.prog 43 qp43.1 Tryd.f43.ntmps := QFn.of Tryd.func43 qp43.2 rfl rfl (by kernel_rfl) Tryd.call43
def qp37 : {q : QC × List QR // compF Tryd.progTables Tryd.f37 = some q} := ⟨_, by conv => lhs; cbv⟩
theorem qf37 : QFn Tryd.prog 37 qp37.1 Tryd.f37.ntmps := QFn.of Tryd.func37 qp37.2 rfl rfl (by kernel_rfl) Tryd.call37
def qp26 : {q : QC × List QR // compF Tryd.progTables Tryd.f26 = some q} := ⟨_, by conv => lhs; cbv⟩
theorem qf26 : QFn Tryd.prog 26 qp26.1 Tryd.f26.ntmps := QFn.of Tryd.func26 qp26.2 rfl rfl (by kernel_rfl) Tryd.call26
def qp9 : {q : QC × List QR // compF Tryd.progTables Tryd.f9 = some q} := ⟨_, by conv => lhs; cbv⟩
theorem qf9 : QFn Tryd.prog 9 qp9.1 Tryd.f9.ntmps := QFn.of Tryd.func9 qp9.2 rfl rfl (by kernel_rfl) Tryd.call9
def num (s : ByteArray) : Int × Bool := numL s.data.toList
def nums (l : List ByteArray) : List Int × Bool := if l.all fun s => (num s).2 then (l.map fun s => (num s).1, true) else ([], false)
def occ (s : ByteArray) : Int × Bool := if s.toList == ByteArray.toList ⟨#[45, 49]⟩ then (-1, true) else num s
def hasSuf (s t : ByteArray) : Bool := decide (t.size ≤ s.size) && ((s.extract (s.size - t.size) s.size).toList == t.toList)
def cutS (s t : ByteArray) : ByteArray × Bool := (if hasSuf s t then s.extract 0 (s.size - t.size) else s, hasSuf s t)
def strA (s : ByteArray) : AV := .v (.string s)
section
variable {w0 : World} {ρ : Hd}
set_option maxRecDepth 100000
theorem tb_pure {T : Type} {F : T → AV} (h : ∀ x, Pure (F x)) (p : T × Bool) : Pure (.tup [F p.1, .v (.bool p.2)]) := .tup (by
  intro a ha
  simp only [List.mem_cons, List.not_mem_nil, or_false] at ha
  rcases ha with rfl | rfl
  · exact h _
  · exact .v)
theorem hasSuf_h (s t : ByteArray) (hs : s.size ≤ 9223372036854775807) (ht : t.size ≤ 9223372036854775807) : PCal Tryd.prog w0 65 [strA s, strA t] (.v (.bool (hasSuf s t))) := by
  refine qf65.pcal (by simp [Tryd.ntmps65]) (.v) ?_
  refine wpQ.go 400 (by conv => lhs; cbv) ?_
  repeat' (first
    | (refine wpQ.str rfl (Owe.sliS (h := (s.size : Int)) rfl rfl rfl (by omega) (by omega) (by omega)) fun _ _ => ?_; refine wpQ.go 400 (by conv => lhs; cbv) ?_)
    | (refine wpQ.bif rfl (Owe.bit rfl) (fun hb => ?_) (fun hb => ?_) <;> (try simp only [decide_eq_true_eq, decide_eq_false_iff_not, beq_iff_eq, beq_eq_false_iff_ne, bne_iff_ne, bne_eq_false_iff_eq, Bool.not_eq_true, Bool.not_eq_false, Bool.not_eq_true', Bool.not_eq_false', ne_eq] at hb) <;> refine wpQ.go 400 (by conv => lhs; cbv) ?_)
    | (refine wpQ.int rfl (Owe.len rfl) fun m hm => ?_; (try rw [lst_len] at hm); refine wpQ.go 400 (by conv => lhs; cbv) ?_)
    | (refine wpQ.int rfl (Owe.ari64 rfl rfl rfl (by omega) (by omega)) fun _ _ => ?_; refine wpQ.go 400 (by conv => lhs; cbv) ?_)
    | (refine wpQ.int rfl (Owe.conv64 rfl (by omega) (by omega)) fun _ _ => ?_; refine wpQ.go 400 (by conv => lhs; cbv) ?_)
    | (refine wpQ.str rfl (Owe.cat rfl rfl (by assumption)) fun _ _ => ?_; refine wpQ.go 400 (by conv => lhs; cbv) ?_)
    | (refine wpQ.exitC ?_; refine wpQ.go 400 (by conv => lhs; cbv) ?_)
    | (refine wpQ.retC ?_; refine wpQ.go 400 (by conv => lhs; cbv) ?_)
    | (refine wpQ.fin (by conv => lhs; cbv) ?_))
  · rename_i d hd x hx
    refine Frz.of_eq ?_
    rw [show d.toNat = s.size - t.size by omega, show (s.size : Int).toNat = s.size by omega] at hx
    subst hx
    simp [hasSuf, hb, show t.size ≤ s.size by omega]
  · rename_i d hd x hx
    refine Frz.of_eq ?_
    rw [show d.toNat = s.size - t.size by omega, show (s.size : Int).toNat = s.size by omega] at hx
    subst hx
    simp [hasSuf, hb]
  · exact Frz.of_eq (by simp [hasSuf]; omega)
theorem cut0_h (s t : ByteArray) (hs : s.size ≤ 9223372036854775807) (ht : t.size ≤ 9223372036854775807) : PCal Tryd.prog w0 54 [strA s, strA t] (.tup [strA (cutS s t).1, .v (.bool (cutS s t).2)]) := by
  have hle : hasSuf s t = true → t.size ≤ s.size := by
    intro h
    simp [hasSuf] at h
    exact h.1
  refine qf54.pcal (by simp [Tryd.ntmps54]) ((tb_pure (fun _ => .v) _)) ?_
  refine wpQ.go 400 (by conv => lhs; cbv) ?_
  repeat' (first
    | (refine wpQ.bif rfl (Owe.pcall rfl (hasSuf_h s t hs ht) ⟨.v, .v, trivial⟩) (fun hx => ?_) (fun hx => ?_) <;> (try have hle := hle hx) <;> refine wpQ.go 400 (by conv => lhs; cbv) ?_)
    | (refine wpQ.str rfl (Owe.sliS (l := 0) rfl rfl rfl (by omega) (by omega) (by omega)) fun _ _ => ?_; refine wpQ.go 400 (by conv => lhs; cbv) ?_)
    | (refine wpQ.bif rfl (Owe.bit rfl) (fun hb => ?_) (fun hb => ?_) <;> (try simp only [decide_eq_true_eq, decide_eq_false_iff_not, beq_iff_eq, beq_eq_false_iff_ne, bne_iff_ne, bne_eq_false_iff_eq, Bool.not_eq_true, Bool.not_eq_false, Bool.not_eq_true', Bool.not_eq_false', ne_eq] at hb) <;> refine wpQ.go 400 (by conv => lhs; cbv) ?_)
    | (refine wpQ.int rfl (Owe.len rfl) fun m hm => ?_; (try rw [lst_len] at hm); refine wpQ.go 400 (by conv => lhs; cbv) ?_)
    | (refine wpQ.int rfl (Owe.ari64 rfl rfl rfl (by omega) (by omega)) fun _ _ => ?_; refine wpQ.go 400 (by conv => lhs; cbv) ?_)
    | (refine wpQ.int rfl (Owe.conv64 rfl (by omega) (by omega)) fun _ _ => ?_; refine wpQ.go 400 (by conv => lhs; cbv) ?_)
    | (refine wpQ.str rfl (Owe.cat rfl rfl (by assumption)) fun _ _ => ?_; refine wpQ.go 400 (by conv => lhs; cbv) ?_)
    | (refine wpQ.exitC ?_; refine wpQ.go 400 (by conv => lhs; cbv) ?_)
    | (refine wpQ.retC ?_; refine wpQ.go 400 (by conv => lhs; cbv) ?_)
    | (refine wpQ.fin (by conv => lhs; cbv) ?_))
  · rename_i d hd x hx2
    refine Frz.of_eq ?_
    rw [show d.toNat = s.size - t.size by omega] at hx2
    subst hx2
    simp [cutS, hx, strA]
  · exact Frz.of_eq (by simp [cutS, hx, strA])
theorem cut_h (s t : ByteArray) (hs : s.size ≤ 9223372036854775807) (ht : t.size ≤ 9223372036854775807) : PCal Tryd.prog w0 43 [strA s, strA t] (.tup [strA (cutS s t).1, .v (.bool (cutS s t).2)]) := by
  refine qf43.pcal (by simp [Tryd.ntmps43]) ((tb_pure (fun _ => .v) _)) ?_
  refine wpQ.go 400 (by conv => lhs; cbv) ?_
  repeat' (first
    | (refine wpQ.tb strA rfl (Owe.pcall rfl (cut0_h s t hs ht) ⟨.v, .v, trivial⟩) (fun v hv => ?_) (fun v hv => ?_) <;> refine wpQ.go 400 (by conv => lhs; cbv) ?_)
    | (refine wpQ.bif rfl (Owe.bit rfl) (fun hb => ?_) (fun hb => ?_) <;> (try simp only [decide_eq_true_eq, decide_eq_false_iff_not, beq_iff_eq, beq_eq_false_iff_ne, bne_iff_ne, bne_eq_false_iff_eq, Bool.not_eq_true, Bool.not_eq_false, Bool.not_eq_true', Bool.not_eq_false', ne_eq] at hb) <;> refine wpQ.go 400 (by conv => lhs; cbv) ?_)
    | (refine wpQ.int rfl (Owe.len rfl) fun m hm => ?_; (try rw [lst_len] at hm); refine wpQ.go 400 (by conv => lhs; cbv) ?_)
    | (refine wpQ.int rfl (Owe.ari64 rfl rfl rfl (by omega) (by omega)) fun _ _ => ?_; refine wpQ.go 400 (by conv => lhs; cbv) ?_)
    | (refine wpQ.int rfl (Owe.conv64 rfl (by omega) (by omega)) fun _ _ => ?_; refine wpQ.go 400 (by conv => lhs; cbv) ?_)
    | (refine wpQ.str rfl (Owe.cat rfl rfl (by assumption)) fun _ _ => ?_; refine wpQ.go 400 (by conv => lhs; cbv) ?_)
    | (refine wpQ.exitC ?_; refine wpQ.go 400 (by conv => lhs; cbv) ?_)
    | (refine wpQ.retC ?_; refine wpQ.go 400 (by conv => lhs; cbv) ?_)
    | (refine wpQ.fin (by conv => lhs; cbv) ?_))
  all_goals (refine Frz.of_eq ?_; rw [hv]; rfl)
theorem number_t (s : ByteArray) (hs : s.size ≤ 9223372036854775807) : PCal Tryd.prog w0 35 [strA s] (.tup [iv (num s).1, .v (.bool (num s).2)]) := number_h s hs
theorem occ_h (s : ByteArray) (hs : s.size ≤ 9223372036854775807) : PCal Tryd.prog w0 36 [strA s] (.tup [iv (occ s).1, .v (.bool (occ s).2)]) := by
  refine qf36.pcal (by simp [Tryd.ntmps36]) ((tb_pure (fun _ => .v) _)) ?_
  refine wpQ.go 400 (by conv => lhs; cbv) ?_
  repeat' (first
    | (refine wpQ.tb iv rfl (Owe.pcall rfl (number_t s hs) ⟨.v, trivial⟩) (fun v hv => ?_) (fun v hv => ?_) <;> refine wpQ.go 400 (by conv => lhs; cbv) ?_)
    | (refine wpQ.bif rfl (Owe.bit rfl) (fun hb => ?_) (fun hb => ?_) <;> (try simp only [decide_eq_true_eq, decide_eq_false_iff_not, beq_iff_eq, beq_eq_false_iff_ne, bne_iff_ne, bne_eq_false_iff_eq, Bool.not_eq_true, Bool.not_eq_false, Bool.not_eq_true', Bool.not_eq_false', ne_eq] at hb) <;> refine wpQ.go 400 (by conv => lhs; cbv) ?_)
    | (refine wpQ.int rfl (Owe.len rfl) fun m hm => ?_; (try rw [lst_len] at hm); refine wpQ.go 400 (by conv => lhs; cbv) ?_)
    | (refine wpQ.int rfl (Owe.ari64 rfl rfl rfl (by omega) (by omega)) fun _ _ => ?_; refine wpQ.go 400 (by conv => lhs; cbv) ?_)
    | (refine wpQ.int rfl (Owe.conv64 rfl (by omega) (by omega)) fun _ _ => ?_; refine wpQ.go 400 (by conv => lhs; cbv) ?_)
    | (refine wpQ.str rfl (Owe.cat rfl rfl (by assumption)) fun _ _ => ?_; refine wpQ.go 400 (by conv => lhs; cbv) ?_)
    | (refine wpQ.exitC ?_; refine wpQ.go 400 (by conv => lhs; cbv) ?_)
    | (refine wpQ.retC ?_; refine wpQ.go 400 (by conv => lhs; cbv) ?_)
    | (refine wpQ.fin (by conv => lhs; cbv) ?_))
  all_goals (refine Frz.of_eq ?_; simp_all [occ, iv])
theorem nums_nil {l : List ByteArray} (h : (l.all fun s => (num s).2) = false) : nums l = ([], false) := by simp [nums, h]
theorem frz_tup2 {S : Store} {a b a' b' : AV} (h1 : Frz S a a') (h2 : Frz S b b') : Frz S (.tup [a, b]) (.tup [a', b']) := by
  refine .tup rfl fun i x y hx hy => ?_
  match i with
  | 0 => simp at hx hy; subst hx hy; exact h1
  | 1 => simp at hx hy; subst hx hy; exact h2
  | n + 2 => simp at hx
theorem nums_h (a : List ByteArray) (hl : a.length ≤ 1000000) (hI : ∀ s ∈ a, s.size ≤ 1000000) : PCal Tryd.prog w0 44 [lst ρ srow false a] (.tup [lst ρ irow false (nums a).1, .v (.bool (nums a).2)]) := by
  refine qf44.pcal (by simp [Tryd.ntmps44]) ((tb_pure (fun l => ints_pureH l) _)) ?_
  refine wpQ.go 400 (by conv => lhs; cbv) ?_
  repeat' (first
    | (refine wpQ.bif rfl (Owe.bit rfl) (fun hb => ?_) (fun hb => ?_) <;> (try simp only [decide_eq_true_eq, decide_eq_false_iff_not, beq_iff_eq, beq_eq_false_iff_ne, bne_iff_ne, bne_eq_false_iff_eq, Bool.not_eq_true, Bool.not_eq_false, Bool.not_eq_true', Bool.not_eq_false', ne_eq] at hb) <;> refine wpQ.go 400 (by conv => lhs; cbv) ?_)
    | (refine wpQ.int rfl (Owe.len rfl) fun m hm => ?_; (try rw [lst_len] at hm); refine wpQ.go 400 (by conv => lhs; cbv) ?_)
    | (refine wpQ.int rfl (Owe.ari64 rfl rfl rfl (by omega) (by omega)) fun _ _ => ?_; refine wpQ.go 400 (by conv => lhs; cbv) ?_)
    | (refine wpQ.int rfl (Owe.conv64 rfl (by omega) (by omega)) fun _ _ => ?_; refine wpQ.go 400 (by conv => lhs; cbv) ?_)
    | (refine wpQ.str rfl (Owe.cat rfl rfl (by assumption)) fun _ _ => ?_; refine wpQ.go 400 (by conv => lhs; cbv) ?_)
    | (refine wpQ.exitC ?_; refine wpQ.go 400 (by conv => lhs; cbv) ?_)
    | (refine wpQ.retC ?_; refine wpQ.go 400 (by conv => lhs; cbv) ?_)
    | (refine wpQ.fin (by conv => lhs; cbv) ?_))
  refine wpQ.loopC (σ := Int × Nat × List Int) 0 1 [] (fun s => [(4, accA 0 1 s.2.1), (9, lst ρ srow false a), (10, .v (.int .i64 m)), (11, .v (.int .i64 s.1))]) [] (fun s => accO ρ irow 0 1 s.2.2 s.2.1)
    (fun s => s.2.1 = s.2.2.length ∧ ∃ k : Nat, s.1 = k ∧ k ≤ a.length ∧ s.2.1 ≤ k ∧ ((a.all fun s => (num s).2) = ((a.drop k).all fun s => (num s).2)) ∧ s.2.2 ++ ((a.drop k).map fun s => (num s).1) = a.map fun s => (num s).1) (fun s => a.length - s.1.toNat) (0, 0, []) ⟨rfl, 0, rfl, by simp, by simp, by simp, by simp⟩ rfl
    ⟨⟨.old rfl klt_nil, .old rfl ((strs_pure a).klt), .old rfl .v, .old rfl .v, trivial⟩, rfl, trivial, rfl, rfl, rfl⟩ ?_
  rintro ⟨i, n, acc⟩ ⟨hn, k, hi, hk, hnk, hp, hq⟩
  simp only at hn hi hp hnk hq
  by_cases hlt : k < a.length
  · obtain ⟨x, hx, hx2⟩ := drop_at hlt
    have hsz := hI x (List.mem_of_getElem? hx)
    rw [hx2, List.all_cons] at hp
    rw [hx2, List.map_cons] at hq
    cases n with
    | zero =>
      have ha : acc = [] := List.eq_nil_of_length_eq_zero hn.symm
      refine wpQ.go 400 (by conv => lhs; cbv) ?_
      repeat' (first
        | (refine wpQ.op rfl (Owe.ind rfl rfl (lst_idx (l := a) hi hx) (lst_all fun _ => rfl)) ?_; refine wpQ.go 400 (by conv => lhs; cbv) ?_)
        | (refine wpQ.tb iv rfl (Owe.pcall rfl (number_t x (by omega)) ⟨.v, trivial⟩) (fun v hv => ?_) (fun v hv => ?_) <;> refine wpQ.go 400 (by conv => lhs; cbv) ?_)
        | (refine wpQ.appN ρ irow rfl rfl rfl rfl (by decide) fun acc' hacc => ?_; refine wpQ.go 400 (by conv => lhs; cbv) ?_)
        | (refine wpQ.bif rfl (Owe.bit rfl) (fun hb => ?_) (fun hb => ?_) <;> (try simp only [decide_eq_true_eq, decide_eq_false_iff_not, beq_iff_eq, beq_eq_false_iff_ne, bne_iff_ne, bne_eq_false_iff_eq, Bool.not_eq_true, Bool.not_eq_false, Bool.not_eq_true', Bool.not_eq_false', ne_eq] at hb) <;> refine wpQ.go 400 (by conv => lhs; cbv) ?_)
        | (refine wpQ.int rfl (Owe.len rfl) fun m hm => ?_; (try rw [lst_len] at hm); refine wpQ.go 400 (by conv => lhs; cbv) ?_)
        | (refine wpQ.int rfl (Owe.ari64 rfl rfl rfl (by omega) (by omega)) fun _ _ => ?_; refine wpQ.go 400 (by conv => lhs; cbv) ?_)
        | (refine wpQ.int rfl (Owe.conv64 rfl (by omega) (by omega)) fun _ _ => ?_; refine wpQ.go 400 (by conv => lhs; cbv) ?_)
        | (refine wpQ.str rfl (Owe.cat rfl rfl (by assumption)) fun _ _ => ?_; refine wpQ.go 400 (by conv => lhs; cbv) ?_)
        | (refine wpQ.exitC ?_; refine wpQ.go 400 (by conv => lhs; cbv) ?_)
        | (refine wpQ.retC ?_; refine wpQ.go 400 (by conv => lhs; cbv) ?_)
        | (refine wpQ.fin (by conv => lhs; cbv) ?_))
      · refine wpQ.nextC (σ := Int × Nat × List Int) (_, 1, _) [(0, 1)] ⟨by simp [hacc], k + 1, by omega, by omega, by simp only; omega, ?_, ?_⟩ (by simp only; omega) ⟨⟨.new rfl rfl, .old rfl ((strs_pure a).klt), .old rfl .v, .old rfl .v, trivial⟩, rfl, ⟨⟨_, rfl, .same (kob_lst fun x _ => irow_p x)⟩, trivial⟩, rfl, rfl, rfl⟩
        · rw [hp, hv]; rfl
        · rw [← hq, hacc, ha, hv]; rfl
      · rw [nums_nil (by rw [hp, hv]; rfl)]; exact frz_tup2 (Frz.accN rfl) (.refl _)
      · omega
    | succ n =>
      refine wpQ.go 400 (by conv => lhs; cbv) ?_
      repeat' (first
        | (refine wpQ.op rfl (Owe.ind rfl rfl (lst_idx (l := a) hi hx) (lst_all fun _ => rfl)) ?_; refine wpQ.go 400 (by conv => lhs; cbv) ?_)
        | (refine wpQ.tb iv rfl (Owe.pcall rfl (number_t x (by omega)) ⟨.v, trivial⟩) (fun v hv => ?_) (fun v hv => ?_) <;> refine wpQ.go 400 (by conv => lhs; cbv) ?_)
        | (refine wpQ.appC (ρ := ρ) (f := irow) (acc := acc) rfl rfl rfl hn rfl rfl rfl (by omega) fun acc' hacc => ?_; refine wpQ.go 400 (by conv => lhs; cbv) ?_)
        | (refine wpQ.bif rfl (Owe.bit rfl) (fun hb => ?_) (fun hb => ?_) <;> (try simp only [decide_eq_true_eq, decide_eq_false_iff_not, beq_iff_eq, beq_eq_false_iff_ne, bne_iff_ne, bne_eq_false_iff_eq, Bool.not_eq_true, Bool.not_eq_false, Bool.not_eq_true', Bool.not_eq_false', ne_eq] at hb) <;> refine wpQ.go 400 (by conv => lhs; cbv) ?_)
        | (refine wpQ.int rfl (Owe.len rfl) fun m hm => ?_; (try rw [lst_len] at hm); refine wpQ.go 400 (by conv => lhs; cbv) ?_)
        | (refine wpQ.int rfl (Owe.ari64 rfl rfl rfl (by omega) (by omega)) fun _ _ => ?_; refine wpQ.go 400 (by conv => lhs; cbv) ?_)
        | (refine wpQ.int rfl (Owe.conv64 rfl (by omega) (by omega)) fun _ _ => ?_; refine wpQ.go 400 (by conv => lhs; cbv) ?_)
        | (refine wpQ.str rfl (Owe.cat rfl rfl (by assumption)) fun _ _ => ?_; refine wpQ.go 400 (by conv => lhs; cbv) ?_)
        | (refine wpQ.exitC ?_; refine wpQ.go 400 (by conv => lhs; cbv) ?_)
        | (refine wpQ.retC ?_; refine wpQ.go 400 (by conv => lhs; cbv) ?_)
        | (refine wpQ.fin (by conv => lhs; cbv) ?_))
      · refine wpQ.nextC (σ := Int × Nat × List Int) (_, n + 2, _) [(0, 1)] ⟨by simp [hacc]; omega, k + 1, by omega, by omega, by simp only; omega, ?_, ?_⟩ (by simp only; omega) ⟨⟨.new rfl rfl, .old rfl ((strs_pure a).klt), .old rfl .v, .old rfl .v, trivial⟩, rfl, ⟨⟨_, rfl, .same (kob_lst fun x _ => irow_p x)⟩, trivial⟩, rfl, rfl, rfl⟩
        · rw [hp, hv]; rfl
        · rw [← hq, hacc, hv]; simp
      · rw [nums_nil (by rw [hp, hv]; rfl)]; exact frz_tup2 (Frz.accN rfl) (.refl _)
      · omega
  · rw [List.drop_eq_nil_of_le (by omega)] at hp hq
    cases n with
    | zero =>
      refine wpQ.go 400 (by conv => lhs; cbv) ?_
      repeat' (first
        | (refine wpQ.bif rfl (Owe.bit rfl) (fun hb => ?_) (fun hb => ?_) <;> (try simp only [decide_eq_true_eq, decide_eq_false_iff_not, beq_iff_eq, beq_eq_false_iff_ne, bne_iff_ne, bne_eq_false_iff_eq, Bool.not_eq_true, Bool.not_eq_false, Bool.not_eq_true', Bool.not_eq_false', ne_eq] at hb) <;> refine wpQ.go 400 (by conv => lhs; cbv) ?_)
        | (refine wpQ.int rfl (Owe.len rfl) fun m hm => ?_; (try rw [lst_len] at hm); refine wpQ.go 400 (by conv => lhs; cbv) ?_)
        | (refine wpQ.int rfl (Owe.ari64 rfl rfl rfl (by omega) (by omega)) fun _ _ => ?_; refine wpQ.go 400 (by conv => lhs; cbv) ?_)
        | (refine wpQ.int rfl (Owe.conv64 rfl (by omega) (by omega)) fun _ _ => ?_; refine wpQ.go 400 (by conv => lhs; cbv) ?_)
        | (refine wpQ.str rfl (Owe.cat rfl rfl (by assumption)) fun _ _ => ?_; refine wpQ.go 400 (by conv => lhs; cbv) ?_)
        | (refine wpQ.exitC ?_; refine wpQ.go 400 (by conv => lhs; cbv) ?_)
        | (refine wpQ.retC ?_; refine wpQ.go 400 (by conv => lhs; cbv) ?_)
        | (refine wpQ.fin (by conv => lhs; cbv) ?_))
      · omega
      · rw [show nums a = (acc, true) by simp_all [nums]]
        exact frz_tup2 (Frz.accN (List.eq_nil_of_length_eq_zero hn.symm)) (.refl _)
    | succ n =>
      refine wpQ.go 400 (by conv => lhs; cbv) ?_
      repeat' (first
        | (refine wpQ.bif rfl (Owe.bit rfl) (fun hb => ?_) (fun hb => ?_) <;> (try simp only [decide_eq_true_eq, decide_eq_false_iff_not, beq_iff_eq, beq_eq_false_iff_ne, bne_iff_ne, bne_eq_false_iff_eq, Bool.not_eq_true, Bool.not_eq_false, Bool.not_eq_true', Bool.not_eq_false', ne_eq] at hb) <;> refine wpQ.go 400 (by conv => lhs; cbv) ?_)
        | (refine wpQ.int rfl (Owe.len rfl) fun m hm => ?_; (try rw [lst_len] at hm); refine wpQ.go 400 (by conv => lhs; cbv) ?_)
        | (refine wpQ.int rfl (Owe.ari64 rfl rfl rfl (by omega) (by omega)) fun _ _ => ?_; refine wpQ.go 400 (by conv => lhs; cbv) ?_)
        | (refine wpQ.int rfl (Owe.conv64 rfl (by omega) (by omega)) fun _ _ => ?_; refine wpQ.go 400 (by conv => lhs; cbv) ?_)
        | (refine wpQ.str rfl (Owe.cat rfl rfl (by assumption)) fun _ _ => ?_; refine wpQ.go 400 (by conv => lhs; cbv) ?_)
        | (refine wpQ.exitC ?_; refine wpQ.go 400 (by conv => lhs; cbv) ?_)
        | (refine wpQ.retC ?_; refine wpQ.go 400 (by conv => lhs; cbv) ?_)
        | (refine wpQ.fin (by conv => lhs; cbv) ?_))
      · omega
      · rw [show nums a = (acc, true) by simp_all [nums]]
        exact frz_tup2 (Frz.accC rfl hn) (.refl _)
/- AN EVENT OUT OF ITS PARTS. -/
def applP (e : Ed) (ps : List ByteArray) : Ed × Bool := match ps with
  | p :: q :: r => (⟨e.kd, e.id, e.oc, (num (cutS p ⟨#[58]⟩).1).1, (nums (q :: r)).1⟩, (cutS p ⟨#[58]⟩).2 && (num (cutS p ⟨#[58]⟩).1).2 && (nums (q :: r)).2)
  | _ => (e, false)
def appC (l : List Int × Bool) (w : Bool) : Bool := l.2 && w
theorem cutS_size (s t : ByteArray) : (cutS s t).1.size ≤ s.size := by
  unfold cutS
  split
  · simp only [ByteArray.size_extract]; omega
  · exact Nat.le_refl _
theorem appl_h (e : Ed) (ps : List ByteArray) (hl : ps.length ≤ 1000000) (hI : ∀ s ∈ ps, s.size ≤ 1000000) : PCal Tryd.prog w0 37 [evH ρ e, lst ρ srow false ps] (.tup [evH ρ (applP e ps).1, .v (.bool (applP e ps).2)]) := by
  obtain ⟨kd, id, oc, rl, ids⟩ := e
  refine qf37.pcal (by simp [Tryd.ntmps37]) ((tb_pure (fun e => evH_pure e) _)) ?_
  refine wpQ.go 400 (by conv => lhs; cbv) ?_
  rcases ps with _ | ⟨p, _ | ⟨q, r⟩⟩
  · skip
    repeat' (first
      | (refine wpQ.bif rfl (Owe.bit rfl) (fun hb => ?_) (fun hb => ?_) <;> (try simp only [decide_eq_true_eq, decide_eq_false_iff_not, beq_iff_eq, beq_eq_false_iff_ne, bne_iff_ne, bne_eq_false_iff_eq, Bool.not_eq_true, Bool.not_eq_false, Bool.not_eq_true', Bool.not_eq_false', ne_eq] at hb) <;> refine wpQ.go 400 (by conv => lhs; cbv) ?_)
      | (refine wpQ.int rfl (Owe.len rfl) fun m hm => ?_; (try rw [lst_len] at hm); refine wpQ.go 400 (by conv => lhs; cbv) ?_)
      | (refine wpQ.int rfl (Owe.ari64 rfl rfl rfl (by omega) (by omega)) fun _ _ => ?_; refine wpQ.go 400 (by conv => lhs; cbv) ?_)
      | (refine wpQ.int rfl (Owe.conv64 rfl (by omega) (by omega)) fun _ _ => ?_; refine wpQ.go 400 (by conv => lhs; cbv) ?_)
      | (refine wpQ.str rfl (Owe.cat rfl rfl (by assumption)) fun _ _ => ?_; refine wpQ.go 400 (by conv => lhs; cbv) ?_)
      | (refine wpQ.exitC ?_; refine wpQ.go 400 (by conv => lhs; cbv) ?_)
      | (refine wpQ.retC ?_; refine wpQ.go 400 (by conv => lhs; cbv) ?_)
      | (refine wpQ.fin (by conv => lhs; cbv) ?_))
    · exact Frz.of_eq rfl
    · simp only [List.length_nil] at hm; omega
  · skip
    repeat' (first
      | (refine wpQ.bif rfl (Owe.bit rfl) (fun hb => ?_) (fun hb => ?_) <;> (try simp only [decide_eq_true_eq, decide_eq_false_iff_not, beq_iff_eq, beq_eq_false_iff_ne, bne_iff_ne, bne_eq_false_iff_eq, Bool.not_eq_true, Bool.not_eq_false, Bool.not_eq_true', Bool.not_eq_false', ne_eq] at hb) <;> refine wpQ.go 400 (by conv => lhs; cbv) ?_)
      | (refine wpQ.int rfl (Owe.len rfl) fun m hm => ?_; (try rw [lst_len] at hm); refine wpQ.go 400 (by conv => lhs; cbv) ?_)
      | (refine wpQ.int rfl (Owe.ari64 rfl rfl rfl (by omega) (by omega)) fun _ _ => ?_; refine wpQ.go 400 (by conv => lhs; cbv) ?_)
      | (refine wpQ.int rfl (Owe.conv64 rfl (by omega) (by omega)) fun _ _ => ?_; refine wpQ.go 400 (by conv => lhs; cbv) ?_)
      | (refine wpQ.str rfl (Owe.cat rfl rfl (by assumption)) fun _ _ => ?_; refine wpQ.go 400 (by conv => lhs; cbv) ?_)
      | (refine wpQ.exitC ?_; refine wpQ.go 400 (by conv => lhs; cbv) ?_)
      | (refine wpQ.retC ?_; refine wpQ.go 400 (by conv => lhs; cbv) ?_)
      | (refine wpQ.fin (by conv => lhs; cbv) ?_))
    · exact Frz.of_eq rfl
    · simp only [List.length_cons, List.length_nil] at hm; omega
  · obtain ⟨c, hc⟩ : ∃ c, cutS p ⟨#[58]⟩ = c := ⟨_, rfl⟩
    have hcs : c.1.size ≤ 1000000 := by
      have h1 := cutS_size p ⟨#[58]⟩
      have h2 := hI p (by simp)
      rw [hc] at h1
      omega
    have hcut := cut_h (w0 := w0) p ⟨#[58]⟩ (by have := hI p (by simp); omega) (by decide)
    rw [hc] at hcut
    have hnum := number_t (w0 := w0) c.1 (by omega)
    have hns := nums_h (w0 := w0) (ρ := ρ) (q :: r) (by simp at hl ⊢; omega) (fun s hs => hI s (by simp at hs ⊢; right; exact hs))
    repeat' (first
      | (refine wpQ.op rfl (Owe.ind rfl rfl (lst_idx (k := 0) rfl rfl) (lst_all fun _ => rfl)) ?_; refine wpQ.go 400 (by conv => lhs; cbv) ?_)
      | (refine wpQ.tb strA rfl (Owe.pcall rfl hcut ⟨.v, .v, trivial⟩) (fun v hv => ?_) (fun v hv => ?_) <;> (rw [hv] at hnum) <;> refine wpQ.go 400 (by conv => lhs; cbv) ?_)
      | (refine wpQ.tb iv rfl (Owe.pcall rfl hnum ⟨.v, trivial⟩) (fun v hv => ?_) (fun v hv => ?_) <;> refine wpQ.go 400 (by conv => lhs; cbv) ?_)
      | (refine wpQ.gen (lst ρ srow false) rfl (Owe.sliHR rfl rfl (fun _ => rfl) (by decide) (by simp; omega)) (fun l hll => ?_); refine wpQ.go 400 (by conv => lhs; cbv) ?_)
      | (refine wpQ.tb (lst ρ irow false) rfl (Owe.pcall rfl (by rename_i l hll; subst hll; exact hns) ⟨strs_pure _, trivial⟩) (fun v hv => ?_) (fun v hv => ?_) <;> refine wpQ.go 400 (by conv => lhs; cbv) ?_)
      | (refine wpQ.bif rfl (Owe.bit rfl) (fun hb => ?_) (fun hb => ?_) <;> (try simp only [decide_eq_true_eq, decide_eq_false_iff_not, beq_iff_eq, beq_eq_false_iff_ne, bne_iff_ne, bne_eq_false_iff_eq, Bool.not_eq_true, Bool.not_eq_false, Bool.not_eq_true', Bool.not_eq_false', ne_eq] at hb) <;> refine wpQ.go 400 (by conv => lhs; cbv) ?_)
      | (refine wpQ.int rfl (Owe.len rfl) fun m hm => ?_; (try rw [lst_len] at hm); refine wpQ.go 400 (by conv => lhs; cbv) ?_)
      | (refine wpQ.int rfl (Owe.ari64 rfl rfl rfl (by omega) (by omega)) fun _ _ => ?_; refine wpQ.go 400 (by conv => lhs; cbv) ?_)
      | (refine wpQ.int rfl (Owe.conv64 rfl (by omega) (by omega)) fun _ _ => ?_; refine wpQ.go 400 (by conv => lhs; cbv) ?_)
      | (refine wpQ.str rfl (Owe.cat rfl rfl (by assumption)) fun _ _ => ?_; refine wpQ.go 400 (by conv => lhs; cbv) ?_)
      | (refine wpQ.exitC ?_; refine wpQ.go 400 (by conv => lhs; cbv) ?_)
      | (refine wpQ.retC ?_; refine wpQ.go 400 (by conv => lhs; cbv) ?_)
      | (refine wpQ.fin (by conv => lhs; cbv) ?_))
    · simp only [List.length_cons] at hm; omega
    all_goals (refine Frz.of_eq ?_; simp only [applP, hc]; simp_all; try rfl)
end
end Go.Proofs.YtahhaiomdjlckaaDoor
