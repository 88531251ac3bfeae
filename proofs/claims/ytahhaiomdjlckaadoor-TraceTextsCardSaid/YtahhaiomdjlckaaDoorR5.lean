/-
  The reference of trace: formed.
-/
import Derived.Test.YtahhaiomdjlckaaDoorR3
namespace Go.Proofs.YtahhaiomdjlckaaDoor
set_option linter.unusedVariables false
set_option linter.unusedSimpArgs false
open Go.RowKit

def qp28 : {q : QC × List QR // compF Tryd.progTables Tryd.f28 = some q} := ⟨_, by conv => lhs; cbv⟩
theorem qf28 : QFn Tryd.prog 28 qp28.1 Tryd.f28.ntmps := QFn.of Tryd.func28 qp28.2 rfl rfl (by kernel_rfl) Tryd.call28
/-- the last byte is a colon. -/
def colon (c : ByteArray) : Bool := decide (c.size ≠ 0) && (c.get! (c.size - 1) == 58)
def chop (c : ByteArray) : ByteArray := c.extract 0 (c.size - 1)
def formedP : List ByteArray → Ed × Bool
  | [] => (⟨0, 0, 0, 0, []⟩, false)
  | p :: rest =>
    if findW p wordsL 0 = 0 ∨ findW p wordsL 0 = 1 then (⟨findW p wordsL 0, 0, 0, 0, []⟩, decide (findW p wordsL 0 ≠ 0) && rest.length == 0)
    else match rest with
      | q :: r :: ps =>
        if appB (findW p wordsL 0) then (match ps with
          | c :: d :: ds => if (num q).2 && (occ r).2 then (if colon c then (⟨findW p wordsL 0, (num q).1, (occ r).1, (num (chop c)).1, (d :: ds).map fun s => (num s).1⟩, (num (chop c)).2 && (d :: ds).all fun s => (num s).2) else (⟨findW p wordsL 0, (num q).1, (occ r).1, 0, []⟩, false)) else (⟨findW p wordsL 0, (num q).1, (occ r).1, 0, []⟩, false)
          | _ => (⟨findW p wordsL 0, 0, 0, 0, []⟩, false))
        else if ps.length == 0 then (⟨findW p wordsL 0, (num q).1, (occ r).1, 0, []⟩, (num q).2 && (occ r).2) else (⟨findW p wordsL 0, 0, 0, 0, []⟩, false)
      | _ => (⟨findW p wordsL 0, 0, 0, 0, []⟩, false)
section
variable {p q r c d : ByteArray} {rest ps ds : List ByteArray} {kk : Int}
theorem formedP_01 (hk : findW p wordsL 0 = kk) (h : kk = 0 ∨ kk = 1) : formedP (p :: rest) = (⟨kk, 0, 0, 0, []⟩, decide (kk ≠ 0) && rest.length == 0) := by
  simp only [formedP, hk]; rw [if_pos h]
theorem formedP_0 (hk : findW p wordsL 0 = kk) (h : ¬ (kk = 0 ∨ kk = 1)) : formedP [p] = (⟨kk, 0, 0, 0, []⟩, false) := by
  simp only [formedP, hk]; rw [if_neg h]
theorem formedP_1 (hk : findW p wordsL 0 = kk) (h : ¬ (kk = 0 ∨ kk = 1)) : formedP [p, q] = (⟨kk, 0, 0, 0, []⟩, false) := by
  simp only [formedP, hk]; rw [if_neg h]
theorem formedP_n (hk : findW p wordsL 0 = kk) (h : ¬ (kk = 0 ∨ kk = 1)) (ha : appB kk = false) (hl : ps.length ≠ 0) : formedP (p :: q :: r :: ps) = (⟨kk, 0, 0, 0, []⟩, false) := by
  simp only [formedP, hk]; rw [if_neg h, ha]; simp [hl]
theorem formedP_3 (hk : findW p wordsL 0 = kk) (h : ¬ (kk = 0 ∨ kk = 1)) (ha : appB kk = false) : formedP [p, q, r] = (⟨kk, (num q).1, (occ r).1, 0, []⟩, (num q).2 && (occ r).2) := by
  simp only [formedP, hk]; rw [if_neg h, ha]; simp
theorem formedP_a (hk : findW p wordsL 0 = kk) (h : ¬ (kk = 0 ∨ kk = 1)) (ha : appB kk = true) (hl : ps.length < 2) : formedP (p :: q :: r :: ps) = (⟨kk, 0, 0, 0, []⟩, false) := by
  simp only [formedP, hk]; rw [if_neg h, ha]
  rcases ps with _ | ⟨c, _ | ⟨d, ds⟩⟩
  · rfl
  · rfl
  · simp at hl; omega
theorem formedP_5 (hk : findW p wordsL 0 = kk) (h : ¬ (kk = 0 ∨ kk = 1)) (ha : appB kk = true) : formedP (p :: q :: r :: c :: d :: ds) =
    if (num q).2 && (occ r).2 then (if colon c then (⟨kk, (num q).1, (occ r).1, (num (chop c)).1, (d :: ds).map fun s => (num s).1⟩, (num (chop c)).2 && (d :: ds).all fun s => (num s).2) else (⟨kk, (num q).1, (occ r).1, 0, []⟩, false)) else (⟨kk, (num q).1, (occ r).1, 0, []⟩, false) := by
  simp only [formedP, hk]; rw [if_neg h, ha]; rfl
end
theorem frz_evC {ρ : Hd} {S : Store} {a b c d : Int} {y : AV} {l : List Int} (h : Frz S y (lst ρ irow false l)) : Frz S (.agg [iv a, iv b, iv c, iv d, y]) (evH ρ ⟨a, b, c, d, l⟩) := by
  refine .agg rfl fun i x z hx hz => ?_
  match i with
  | 0 => simp [evR] at hx hz; subst hx hz; exact .refl _
  | 1 => simp [evR] at hx hz; subst hx hz; exact .refl _
  | 2 => simp [evR] at hx hz; subst hx hz; exact .refl _
  | 3 => simp [evR] at hx hz; subst hx hz; exact .refl _
  | 4 => simp [evR] at hx hz; subst hx hz; exact h
  | n + 5 => simp at hx
section
variable {w0 : World} {ρ : Hd}
set_option maxRecDepth 100000
theorem appl5 (e : Ed) : PCal Tryd.prog w0 25 [evH ρ e] (.v (.bool (appB e.kd))) := appliesR_h e
theorem wk_ev0 {a b c d : Int} : Wk (.agg [iv a, iv b, iv c, iv d, .sl true []]) (evH ρ ⟨a, b, c, d, []⟩) := wk_ev Wk.nil
theorem formed_0 {p : ByteArray} {kk : Int} {b : Bool} (hkk : findW p wordsL 0 = kk) (hA : appB kk = b) (hkd : PCal Tryd.prog w0 39 [strA p] (.v (.int .i64 kk))) (hapk : ∀ (id oc rl : Int) (ids : List Int), PCal Tryd.prog w0 25 [evH ρ ⟨kk, id, oc, rl, ids⟩] (.v (.bool b))) : PCal Tryd.prog w0 28 [lst ρ srow false ([p])] (.tup [evH ρ (formedP ([p])).1, .v (.bool (formedP ([p])).2)]) := by
  cases b
  all_goals
    skip
    refine qf28.pcal (by simp [Tryd.ntmps28]) ((tb_pure (fun e => evH_pure e) _)) ?_
    refine wpQ.go 400 (by conv => lhs; cbv) ?_
    repeat' (first
      | (refine wpQ.op rfl (Owe.ind rfl rfl (lst_idx (k := 0) rfl rfl) (lst_all fun _ => rfl)) ?_; refine wpQ.go 400 (by conv => lhs; cbv) ?_)
      | (refine wpQ.op rfl (Owe.pcall rfl hkd ⟨.v, trivial⟩) ?_; refine wpQ.go 400 (by conv => lhs; cbv) ?_)
      | (refine wpQ.op rfl (Owe.pcallW rfl (hapk _ _ _ []) ⟨evH_pure _, trivial⟩ ⟨wk_ev0, trivial⟩) ?_; refine wpQ.go 400 (by conv => lhs; cbv) ?_)
      | (refine wpQ.bif rfl (Owe.bit rfl) (fun hb => ?_) (fun hb => ?_) <;> (try simp only [decide_eq_true_eq, decide_eq_false_iff_not, beq_iff_eq, beq_eq_false_iff_ne, bne_iff_ne, bne_eq_false_iff_eq, Bool.not_eq_true, Bool.not_eq_false, Bool.not_eq_true', Bool.not_eq_false', ne_eq] at hb) <;> refine wpQ.go 400 (by conv => lhs; cbv) ?_)
      | (refine wpQ.int rfl (Owe.len rfl) fun m hm => ?_; (try rw [lst_len] at hm); refine wpQ.go 400 (by conv => lhs; cbv) ?_)
      | (refine wpQ.int rfl (Owe.ari64 rfl rfl rfl (by omega) (by omega)) fun _ _ => ?_; refine wpQ.go 400 (by conv => lhs; cbv) ?_)
      | (refine wpQ.int rfl (Owe.conv64 rfl (by omega) (by omega)) fun _ _ => ?_; refine wpQ.go 400 (by conv => lhs; cbv) ?_)
      | (refine wpQ.str rfl (Owe.cat rfl rfl (by assumption)) fun _ _ => ?_; refine wpQ.go 400 (by conv => lhs; cbv) ?_)
      | (refine wpQ.exitC ?_; refine wpQ.go 400 (by conv => lhs; cbv) ?_)
      | (refine wpQ.retC ?_; refine wpQ.go 400 (by conv => lhs; cbv) ?_)
      | (refine wpQ.fin (by conv => lhs; cbv) ?_))
    all_goals first
      | (exfalso; simp only [List.length_cons, List.length_nil] at hm; omega)
      | (exfalso; omega)
      | skip
    all_goals try (rw [formedP_01 hkk (by omega), show decide (kk ≠ 0) = false by simp; omega]; exact frz_tup2 frz_ev0 (.refl _))
    all_goals try (rw [formedP_01 hkk (by omega), show decide (kk ≠ 0) = true by simp; omega]; exact frz_tup2 frz_ev0 (Frz.of_eq (by first | rfl | simp)))
    all_goals (rw [formedP_0 hkk (by omega)]; exact frz_tup2 frz_ev0 (.refl _))
theorem formed_1 {q : ByteArray} {p : ByteArray} {kk : Int} {b : Bool} (hkk : findW p wordsL 0 = kk) (hA : appB kk = b) (hkd : PCal Tryd.prog w0 39 [strA p] (.v (.int .i64 kk))) (hapk : ∀ (id oc rl : Int) (ids : List Int), PCal Tryd.prog w0 25 [evH ρ ⟨kk, id, oc, rl, ids⟩] (.v (.bool b))) : PCal Tryd.prog w0 28 [lst ρ srow false ([p, q])] (.tup [evH ρ (formedP ([p, q])).1, .v (.bool (formedP ([p, q])).2)]) := by
  cases b
  all_goals
    skip
    refine qf28.pcal (by simp [Tryd.ntmps28]) ((tb_pure (fun e => evH_pure e) _)) ?_
    refine wpQ.go 400 (by conv => lhs; cbv) ?_
    repeat' (first
      | (refine wpQ.op rfl (Owe.ind rfl rfl (lst_idx (k := 0) rfl rfl) (lst_all fun _ => rfl)) ?_; refine wpQ.go 400 (by conv => lhs; cbv) ?_)
      | (refine wpQ.op rfl (Owe.pcall rfl hkd ⟨.v, trivial⟩) ?_; refine wpQ.go 400 (by conv => lhs; cbv) ?_)
      | (refine wpQ.op rfl (Owe.pcallW rfl (hapk _ _ _ []) ⟨evH_pure _, trivial⟩ ⟨wk_ev0, trivial⟩) ?_; refine wpQ.go 400 (by conv => lhs; cbv) ?_)
      | (refine wpQ.bif rfl (Owe.bit rfl) (fun hb => ?_) (fun hb => ?_) <;> (try simp only [decide_eq_true_eq, decide_eq_false_iff_not, beq_iff_eq, beq_eq_false_iff_ne, bne_iff_ne, bne_eq_false_iff_eq, Bool.not_eq_true, Bool.not_eq_false, Bool.not_eq_true', Bool.not_eq_false', ne_eq] at hb) <;> refine wpQ.go 400 (by conv => lhs; cbv) ?_)
      | (refine wpQ.int rfl (Owe.len rfl) fun m hm => ?_; (try rw [lst_len] at hm); refine wpQ.go 400 (by conv => lhs; cbv) ?_)
      | (refine wpQ.int rfl (Owe.ari64 rfl rfl rfl (by omega) (by omega)) fun _ _ => ?_; refine wpQ.go 400 (by conv => lhs; cbv) ?_)
      | (refine wpQ.int rfl (Owe.conv64 rfl (by omega) (by omega)) fun _ _ => ?_; refine wpQ.go 400 (by conv => lhs; cbv) ?_)
      | (refine wpQ.str rfl (Owe.cat rfl rfl (by assumption)) fun _ _ => ?_; refine wpQ.go 400 (by conv => lhs; cbv) ?_)
      | (refine wpQ.exitC ?_; refine wpQ.go 400 (by conv => lhs; cbv) ?_)
      | (refine wpQ.retC ?_; refine wpQ.go 400 (by conv => lhs; cbv) ?_)
      | (refine wpQ.fin (by conv => lhs; cbv) ?_))
    all_goals first
      | (exfalso; simp only [List.length_cons, List.length_nil] at hm; omega)
      | (exfalso; omega)
      | skip
    all_goals try (rw [formedP_01 hkk (by omega), show decide (kk ≠ 0) = false by simp; omega]; exact frz_tup2 frz_ev0 (.refl _))
    all_goals try (rw [formedP_01 hkk (by omega), show decide (kk ≠ 0) = true by simp; omega]; exact frz_tup2 frz_ev0 (Frz.of_eq (by first | rfl | simp)))
    all_goals (rw [formedP_1 hkk (by omega)]; exact frz_tup2 frz_ev0 (.refl _))
theorem occ_yes {r : ByteArray} (h : r.toList = ByteArray.toList ⟨#[45, 49]⟩) : occ r = (-1, true) := by
  unfold occ; rw [if_pos (by rw [h]; exact beq_self_eq_true _)]
theorem occ_no {r : ByteArray} (h : ¬ r.toList = ByteArray.toList ⟨#[45, 49]⟩) : occ r = num r := by
  unfold occ; rw [if_neg (by simpa using h)]
theorem formed_f {q r : ByteArray} {ps : List ByteArray} (hq : q.size ≤ 1000000) (hr : r.size ≤ 1000000) {p : ByteArray} {kk : Int} (hkk : findW p wordsL 0 = kk) (hA : appB kk = false) (hkd : PCal Tryd.prog w0 39 [strA p] (.v (.int .i64 kk))) (hapk : ∀ (id oc rl : Int) (ids : List Int), PCal Tryd.prog w0 25 [evH ρ ⟨kk, id, oc, rl, ids⟩] (.v (.bool false))) : PCal Tryd.prog w0 28 [lst ρ srow false (p :: q :: r :: ps)] (.tup [evH ρ (formedP (p :: q :: r :: ps)).1, .v (.bool (formedP (p :: q :: r :: ps)).2)]) := by
  have hnq := numberR_h (w0 := w0) q hq
  have hnr := numberR_h (w0 := w0) r hr
  refine qf28.pcal (by simp [Tryd.ntmps28]) ((tb_pure (fun e => evH_pure e) _)) ?_
  refine wpQ.go 400 (by conv => lhs; cbv) ?_
  repeat' (first
    | (refine wpQ.op rfl (Owe.ind rfl rfl (lst_idx (k := 0) rfl rfl) (lst_all fun _ => rfl)) ?_; refine wpQ.go 400 (by conv => lhs; cbv) ?_)
    | (refine wpQ.op rfl (Owe.pcall rfl hkd ⟨.v, trivial⟩) ?_; refine wpQ.go 400 (by conv => lhs; cbv) ?_)
    | (refine wpQ.op rfl (Owe.pcallW rfl (hapk _ _ _ []) ⟨evH_pure _, trivial⟩ ⟨wk_ev0, trivial⟩) ?_; refine wpQ.go 400 (by conv => lhs; cbv) ?_)
    | (refine wpQ.op rfl (Owe.ind rfl rfl (lst_idx (k := 1) rfl rfl) (lst_all fun _ => rfl)) ?_; refine wpQ.go 400 (by conv => lhs; cbv) ?_)
    | (refine wpQ.op rfl (Owe.ind rfl rfl (lst_idx (k := 2) rfl rfl) (lst_all fun _ => rfl)) ?_; refine wpQ.go 400 (by conv => lhs; cbv) ?_)
    | (refine wpQ.tb iv rfl (Owe.pcall rfl hnq ⟨.v, trivial⟩) (fun vq hvq => ?_) (fun vq hvq => ?_) <;> refine wpQ.go 400 (by conv => lhs; cbv) ?_)
    | (refine wpQ.tb iv rfl (Owe.pcall rfl hnr ⟨.v, trivial⟩) (fun vr hvr => ?_) (fun vr hvr => ?_) <;> refine wpQ.go 400 (by conv => lhs; cbv) ?_)
    | (refine wpQ.bif rfl (Owe.bit rfl) (fun hb => ?_) (fun hb => ?_) <;> (try simp only [decide_eq_true_eq, decide_eq_false_iff_not, beq_iff_eq, beq_eq_false_iff_ne, bne_iff_ne, bne_eq_false_iff_eq, Bool.not_eq_true, Bool.not_eq_false, Bool.not_eq_true', Bool.not_eq_false', ne_eq] at hb) <;> refine wpQ.go 400 (by conv => lhs; cbv) ?_)
    | (refine wpQ.int rfl (Owe.len rfl) fun m hm => ?_; (try rw [lst_len] at hm); refine wpQ.go 400 (by conv => lhs; cbv) ?_)
    | (refine wpQ.int rfl (Owe.ari64 rfl rfl rfl (by omega) (by omega)) fun _ _ => ?_; refine wpQ.go 400 (by conv => lhs; cbv) ?_)
    | (refine wpQ.int rfl (Owe.conv64 rfl (by omega) (by omega)) fun _ _ => ?_; refine wpQ.go 400 (by conv => lhs; cbv) ?_)
    | (refine wpQ.str rfl (Owe.cat rfl rfl (by assumption)) fun _ _ => ?_; refine wpQ.go 400 (by conv => lhs; cbv) ?_)
    | (refine wpQ.exitC ?_; refine wpQ.go 400 (by conv => lhs; cbv) ?_)
    | (refine wpQ.retC ?_; refine wpQ.go 400 (by conv => lhs; cbv) ?_)
    | (refine wpQ.fin (by conv => lhs; cbv) ?_))
  all_goals first
    | (exfalso; simp only [List.length_cons, List.length_nil] at hm; omega)
    | (exfalso; omega)
    | skip
  all_goals try (rw [formedP_01 hkk (by omega), show decide (kk ≠ 0) = false by simp; omega]; exact frz_tup2 frz_ev0 (.refl _))
  all_goals try (rw [formedP_01 hkk (by omega), show decide (kk ≠ 0) = true by simp; omega]; exact frz_tup2 frz_ev0 (Frz.of_eq (by first | rfl | simp)))
  · rw [formedP_n hkk (by omega) hA (by simp only [List.length_cons] at hm; omega)]; exact frz_tup2 frz_ev0 (.refl _)
  all_goals
    have hps : ps = [] := List.eq_nil_of_length_eq_zero (by simp only [List.length_cons] at hm; omega)
    subst hps
    rw [formedP_3 hkk (by omega) hA]
    rw [hvq]
    first
      | (rw [occ_yes (by assumption)]; exact frz_tup2 frz_ev0 (.refl _))
      | (rw [occ_no (by assumption), hvr]; exact frz_tup2 frz_ev0 (.refl _))
      | (rcases Classical.em (r.toList = ByteArray.toList ⟨#[45, 49]⟩) with h | h
         · rw [occ_yes h]; exact frz_tup2 frz_ev0 (.refl _)
         · rw [occ_no h]; first | (rw [hvr]; exact frz_tup2 frz_ev0 (.refl _)) | (rw [show (false && (num r).2) = false from rfl]; exact frz_tup2 frz_ev0 (.refl _)))
      | skip
theorem formed_t3 {q r : ByteArray} {p : ByteArray} {kk : Int} (hkk : findW p wordsL 0 = kk) (hA : appB kk = true) (hkd : PCal Tryd.prog w0 39 [strA p] (.v (.int .i64 kk))) (hapk : ∀ (id oc rl : Int) (ids : List Int), PCal Tryd.prog w0 25 [evH ρ ⟨kk, id, oc, rl, ids⟩] (.v (.bool true))) : PCal Tryd.prog w0 28 [lst ρ srow false ([p, q, r])] (.tup [evH ρ (formedP ([p, q, r])).1, .v (.bool (formedP ([p, q, r])).2)]) := by
  refine qf28.pcal (by simp [Tryd.ntmps28]) ((tb_pure (fun e => evH_pure e) _)) ?_
  refine wpQ.go 400 (by conv => lhs; cbv) ?_
  repeat' (first
    | (refine wpQ.op rfl (Owe.ind rfl rfl (lst_idx (k := 0) rfl rfl) (lst_all fun _ => rfl)) ?_; refine wpQ.go 400 (by conv => lhs; cbv) ?_)
    | (refine wpQ.op rfl (Owe.pcall rfl hkd ⟨.v, trivial⟩) ?_; refine wpQ.go 400 (by conv => lhs; cbv) ?_)
    | (refine wpQ.op rfl (Owe.pcallW rfl (hapk _ _ _ []) ⟨evH_pure _, trivial⟩ ⟨wk_ev0, trivial⟩) ?_; refine wpQ.go 400 (by conv => lhs; cbv) ?_)
    | (refine wpQ.bif rfl (Owe.bit rfl) (fun hb => ?_) (fun hb => ?_) <;> (try simp only [decide_eq_true_eq, decide_eq_false_iff_not, beq_iff_eq, beq_eq_false_iff_ne, bne_iff_ne, bne_eq_false_iff_eq, Bool.not_eq_true, Bool.not_eq_false, Bool.not_eq_true', Bool.not_eq_false', ne_eq] at hb) <;> refine wpQ.go 400 (by conv => lhs; cbv) ?_)
    | (refine wpQ.int rfl (Owe.len rfl) fun m hm => ?_; (try rw [lst_len] at hm); refine wpQ.go 400 (by conv => lhs; cbv) ?_)
    | (refine wpQ.int rfl (Owe.ari64 rfl rfl rfl (by omega) (by omega)) fun _ _ => ?_; refine wpQ.go 400 (by conv => lhs; cbv) ?_)
    | (refine wpQ.int rfl (Owe.conv64 rfl (by omega) (by omega)) fun _ _ => ?_; refine wpQ.go 400 (by conv => lhs; cbv) ?_)
    | (refine wpQ.str rfl (Owe.cat rfl rfl (by assumption)) fun _ _ => ?_; refine wpQ.go 400 (by conv => lhs; cbv) ?_)
    | (refine wpQ.exitC ?_; refine wpQ.go 400 (by conv => lhs; cbv) ?_)
    | (refine wpQ.retC ?_; refine wpQ.go 400 (by conv => lhs; cbv) ?_)
    | (refine wpQ.fin (by conv => lhs; cbv) ?_))
  all_goals first
    | (exfalso; simp only [List.length_cons, List.length_nil] at hm; omega)
    | (exfalso; omega)
    | skip
  all_goals try (rw [formedP_01 hkk (by omega), show decide (kk ≠ 0) = false by simp; omega]; exact frz_tup2 frz_ev0 (.refl _))
  all_goals try (rw [formedP_01 hkk (by omega), show decide (kk ≠ 0) = true by simp; omega]; exact frz_tup2 frz_ev0 (Frz.of_eq (by first | rfl | simp)))
  all_goals (rw [formedP_a (ps := []) hkk (by omega) hA (by decide)]; exact frz_tup2 frz_ev0 (.refl _))
theorem formed_t4 {q r c : ByteArray} {p : ByteArray} {kk : Int} (hkk : findW p wordsL 0 = kk) (hA : appB kk = true) (hkd : PCal Tryd.prog w0 39 [strA p] (.v (.int .i64 kk))) (hapk : ∀ (id oc rl : Int) (ids : List Int), PCal Tryd.prog w0 25 [evH ρ ⟨kk, id, oc, rl, ids⟩] (.v (.bool true))) : PCal Tryd.prog w0 28 [lst ρ srow false ([p, q, r, c])] (.tup [evH ρ (formedP ([p, q, r, c])).1, .v (.bool (formedP ([p, q, r, c])).2)]) := by
  refine qf28.pcal (by simp [Tryd.ntmps28]) ((tb_pure (fun e => evH_pure e) _)) ?_
  refine wpQ.go 400 (by conv => lhs; cbv) ?_
  repeat' (first
    | (refine wpQ.op rfl (Owe.ind rfl rfl (lst_idx (k := 0) rfl rfl) (lst_all fun _ => rfl)) ?_; refine wpQ.go 400 (by conv => lhs; cbv) ?_)
    | (refine wpQ.op rfl (Owe.pcall rfl hkd ⟨.v, trivial⟩) ?_; refine wpQ.go 400 (by conv => lhs; cbv) ?_)
    | (refine wpQ.op rfl (Owe.pcallW rfl (hapk _ _ _ []) ⟨evH_pure _, trivial⟩ ⟨wk_ev0, trivial⟩) ?_; refine wpQ.go 400 (by conv => lhs; cbv) ?_)
    | (refine wpQ.bif rfl (Owe.bit rfl) (fun hb => ?_) (fun hb => ?_) <;> (try simp only [decide_eq_true_eq, decide_eq_false_iff_not, beq_iff_eq, beq_eq_false_iff_ne, bne_iff_ne, bne_eq_false_iff_eq, Bool.not_eq_true, Bool.not_eq_false, Bool.not_eq_true', Bool.not_eq_false', ne_eq] at hb) <;> refine wpQ.go 400 (by conv => lhs; cbv) ?_)
    | (refine wpQ.int rfl (Owe.len rfl) fun m hm => ?_; (try rw [lst_len] at hm); refine wpQ.go 400 (by conv => lhs; cbv) ?_)
    | (refine wpQ.int rfl (Owe.ari64 rfl rfl rfl (by omega) (by omega)) fun _ _ => ?_; refine wpQ.go 400 (by conv => lhs; cbv) ?_)
    | (refine wpQ.int rfl (Owe.conv64 rfl (by omega) (by omega)) fun _ _ => ?_; refine wpQ.go 400 (by conv => lhs; cbv) ?_)
    | (refine wpQ.str rfl (Owe.cat rfl rfl (by assumption)) fun _ _ => ?_; refine wpQ.go 400 (by conv => lhs; cbv) ?_)
    | (refine wpQ.exitC ?_; refine wpQ.go 400 (by conv => lhs; cbv) ?_)
    | (refine wpQ.retC ?_; refine wpQ.go 400 (by conv => lhs; cbv) ?_)
    | (refine wpQ.fin (by conv => lhs; cbv) ?_))
  all_goals first
    | (exfalso; simp only [List.length_cons, List.length_nil] at hm; omega)
    | (exfalso; omega)
    | skip
  all_goals try (rw [formedP_01 hkk (by omega), show decide (kk ≠ 0) = false by simp; omega]; exact frz_tup2 frz_ev0 (.refl _))
  all_goals try (rw [formedP_01 hkk (by omega), show decide (kk ≠ 0) = true by simp; omega]; exact frz_tup2 frz_ev0 (Frz.of_eq (by first | rfl | simp)))
  all_goals (rw [formedP_a (ps := [c]) hkk (by omega) hA (by simp)]; exact frz_tup2 frz_ev0 (.refl _))
theorem chop_size (c : ByteArray) : (chop c).size ≤ c.size := by unfold chop; rw [ByteArray.size_extract]; omega
theorem idx_last {c : ByteArray} (h : c.size ≠ 0) {j : Int} (hj : j = (c.size : Int) - 1) : idx c.data.toList j = some (c.get! (c.size - 1)) := by
  have hsz := size_toL c
  have hg := get_drop c (c.size - 1) (by omega)
  have hlt' : c.size - 1 < c.data.toList.length := by omega
  have : c.data.toList[c.size - 1]? = some (c.get! (c.size - 1)) := by
    rw [List.getElem?_eq_getElem hlt']
    have := List.drop_eq_getElem_cons hlt'
    rw [hg] at this
    injection this with this _
    rw [this]
  have hj' : j = ((c.size - 1 : Nat) : Int) := by omega
  subst hj'
  exact idx_nat this
theorem formed_5a {q r c d : ByteArray} {ds : List ByteArray} (hq : q.size ≤ 1000000) (hr : r.size ≤ 1000000) {vq : Int} (hvq : num q = (vq, false)) {p : ByteArray} {kk : Int} (hkk : findW p wordsL 0 = kk) (hA : appB kk = true) (hk01 : ¬ (kk = 0 ∨ kk = 1)) (hkd : PCal Tryd.prog w0 39 [strA p] (.v (.int .i64 kk))) (hapk : ∀ (id oc rl : Int) (ids : List Int), PCal Tryd.prog w0 25 [evH ρ ⟨kk, id, oc, rl, ids⟩] (.v (.bool true))) : PCal Tryd.prog w0 28 [lst ρ srow false (p :: q :: r :: c :: d :: ds)] (.tup [evH ρ (formedP (p :: q :: r :: c :: d :: ds)).1, .v (.bool (formedP (p :: q :: r :: c :: d :: ds)).2)]) := by
  have hnq := numberR_h (w0 := w0) q hq
  have hnr := numberR_h (w0 := w0) r hr
  rw [hvq] at hnq
  have hL : (p :: q :: r :: c :: d :: ds).length = ds.length + 5 := rfl
  refine qf28.pcal (by simp [Tryd.ntmps28]) ((tb_pure (fun e => evH_pure e) _)) ?_
  refine wpQ.go 400 (by conv => lhs; cbv) ?_
  repeat' (first
    | (exfalso; omega)
    | (refine wpQ.op rfl (Owe.ind rfl rfl (lst_idx (k := 0) rfl rfl) (lst_all fun _ => rfl)) ?_; refine wpQ.go 400 (by conv => lhs; cbv) ?_)
    | (refine wpQ.op rfl (Owe.pcall rfl hkd ⟨.v, trivial⟩) ?_; refine wpQ.go 400 (by conv => lhs; cbv) ?_)
    | (refine wpQ.op rfl (Owe.pcallW rfl (hapk _ _ _ []) ⟨evH_pure _, trivial⟩ ⟨wk_ev0, trivial⟩) ?_; refine wpQ.go 400 (by conv => lhs; cbv) ?_)
    | (refine wpQ.op rfl (Owe.ind rfl rfl (lst_idx (k := 1) rfl rfl) (lst_all fun _ => rfl)) ?_; refine wpQ.go 400 (by conv => lhs; cbv) ?_)
    | (refine wpQ.op rfl (Owe.ind rfl rfl (lst_idx (k := 2) rfl rfl) (lst_all fun _ => rfl)) ?_; refine wpQ.go 400 (by conv => lhs; cbv) ?_)
    | (refine wpQ.op rfl (Owe.pcall rfl hnq ⟨.v, trivial⟩) ?_; refine wpQ.go 400 (by conv => lhs; cbv) ?_)
    | (refine wpQ.tb iv rfl (Owe.pcall rfl hnr ⟨.v, trivial⟩) (fun vr hvr => ?_) (fun vr hvr => ?_) <;> refine wpQ.go 400 (by conv => lhs; cbv) ?_)
    | (refine wpQ.bif rfl (Owe.bit rfl) (fun hb => ?_) (fun hb => ?_) <;> (try simp only [decide_eq_true_eq, decide_eq_false_iff_not, beq_iff_eq, beq_eq_false_iff_ne, bne_iff_ne, bne_eq_false_iff_eq, Bool.not_eq_true, Bool.not_eq_false, Bool.not_eq_true', Bool.not_eq_false', ne_eq] at hb) <;> refine wpQ.go 400 (by conv => lhs; cbv) ?_)
    | (refine wpQ.int rfl (Owe.len rfl) fun m hm => ?_; (try rw [lst_len] at hm); refine wpQ.go 400 (by conv => lhs; cbv) ?_)
    | (refine wpQ.int rfl (Owe.ari64 rfl rfl rfl (by omega) (by omega)) fun _ _ => ?_; refine wpQ.go 400 (by conv => lhs; cbv) ?_)
    | (refine wpQ.int rfl (Owe.conv64 rfl (by omega) (by omega)) fun _ _ => ?_; refine wpQ.go 400 (by conv => lhs; cbv) ?_)
    | (refine wpQ.str rfl (Owe.cat rfl rfl (by assumption)) fun _ _ => ?_; refine wpQ.go 400 (by conv => lhs; cbv) ?_)
    | (refine wpQ.exitC ?_; refine wpQ.go 400 (by conv => lhs; cbv) ?_)
    | (refine wpQ.retC ?_; refine wpQ.go 400 (by conv => lhs; cbv) ?_)
    | (refine wpQ.fin (by conv => lhs; cbv) ?_))
  all_goals (rw [formedP_5 hkk (by omega) hA, hvq, Bool.false_and, if_neg (by simp)])
  all_goals first
      | (rw [occ_yes (by assumption)]; exact frz_tup2 frz_ev0 (.refl _))
      | (rw [occ_no (by assumption), hvr]; exact frz_tup2 frz_ev0 (.refl _))
theorem formed_5b {q r c d : ByteArray} {ds : List ByteArray} (hq : q.size ≤ 1000000) (hr : r.size ≤ 1000000) {vq vr : Int} (hvq : num q = (vq, true)) (hrn : ¬ r.toList = ByteArray.toList ⟨#[45, 49]⟩) (hvr : num r = (vr, false)) {p : ByteArray} {kk : Int} (hkk : findW p wordsL 0 = kk) (hA : appB kk = true) (hk01 : ¬ (kk = 0 ∨ kk = 1)) (hkd : PCal Tryd.prog w0 39 [strA p] (.v (.int .i64 kk))) (hapk : ∀ (id oc rl : Int) (ids : List Int), PCal Tryd.prog w0 25 [evH ρ ⟨kk, id, oc, rl, ids⟩] (.v (.bool true))) : PCal Tryd.prog w0 28 [lst ρ srow false (p :: q :: r :: c :: d :: ds)] (.tup [evH ρ (formedP (p :: q :: r :: c :: d :: ds)).1, .v (.bool (formedP (p :: q :: r :: c :: d :: ds)).2)]) := by
  have hnq := numberR_h (w0 := w0) q hq
  have hnr := numberR_h (w0 := w0) r hr
  rw [hvq] at hnq
  rw [hvr] at hnr
  have hL : (p :: q :: r :: c :: d :: ds).length = ds.length + 5 := rfl
  refine qf28.pcal (by simp [Tryd.ntmps28]) ((tb_pure (fun e => evH_pure e) _)) ?_
  refine wpQ.go 400 (by conv => lhs; cbv) ?_
  repeat' (first
    | (exfalso; omega)
    | (refine wpQ.op rfl (Owe.ind rfl rfl (lst_idx (k := 0) rfl rfl) (lst_all fun _ => rfl)) ?_; refine wpQ.go 400 (by conv => lhs; cbv) ?_)
    | (refine wpQ.op rfl (Owe.pcall rfl hkd ⟨.v, trivial⟩) ?_; refine wpQ.go 400 (by conv => lhs; cbv) ?_)
    | (refine wpQ.op rfl (Owe.pcallW rfl (hapk _ _ _ []) ⟨evH_pure _, trivial⟩ ⟨wk_ev0, trivial⟩) ?_; refine wpQ.go 400 (by conv => lhs; cbv) ?_)
    | (refine wpQ.op rfl (Owe.ind rfl rfl (lst_idx (k := 1) rfl rfl) (lst_all fun _ => rfl)) ?_; refine wpQ.go 400 (by conv => lhs; cbv) ?_)
    | (refine wpQ.op rfl (Owe.ind rfl rfl (lst_idx (k := 2) rfl rfl) (lst_all fun _ => rfl)) ?_; refine wpQ.go 400 (by conv => lhs; cbv) ?_)
    | (refine wpQ.op rfl (Owe.pcall rfl hnq ⟨.v, trivial⟩) ?_; refine wpQ.go 400 (by conv => lhs; cbv) ?_)
    | (refine wpQ.op rfl (Owe.pcall rfl hnr ⟨.v, trivial⟩) ?_; refine wpQ.go 400 (by conv => lhs; cbv) ?_)
    | (exact absurd (by assumption) hrn)
    | (refine wpQ.bif rfl (Owe.bit rfl) (fun hb => ?_) (fun hb => ?_) <;> (try simp only [decide_eq_true_eq, decide_eq_false_iff_not, beq_iff_eq, beq_eq_false_iff_ne, bne_iff_ne, bne_eq_false_iff_eq, Bool.not_eq_true, Bool.not_eq_false, Bool.not_eq_true', Bool.not_eq_false', ne_eq] at hb) <;> refine wpQ.go 400 (by conv => lhs; cbv) ?_)
    | (refine wpQ.int rfl (Owe.len rfl) fun m hm => ?_; (try rw [lst_len] at hm); refine wpQ.go 400 (by conv => lhs; cbv) ?_)
    | (refine wpQ.int rfl (Owe.ari64 rfl rfl rfl (by omega) (by omega)) fun _ _ => ?_; refine wpQ.go 400 (by conv => lhs; cbv) ?_)
    | (refine wpQ.int rfl (Owe.conv64 rfl (by omega) (by omega)) fun _ _ => ?_; refine wpQ.go 400 (by conv => lhs; cbv) ?_)
    | (refine wpQ.str rfl (Owe.cat rfl rfl (by assumption)) fun _ _ => ?_; refine wpQ.go 400 (by conv => lhs; cbv) ?_)
    | (refine wpQ.exitC ?_; refine wpQ.go 400 (by conv => lhs; cbv) ?_)
    | (refine wpQ.retC ?_; refine wpQ.go 400 (by conv => lhs; cbv) ?_)
    | (refine wpQ.fin (by conv => lhs; cbv) ?_))
  all_goals (rw [formedP_5 hkk (by omega) hA, hvq, occ_no hrn, hvr, Bool.and_false, if_neg (by simp)])
  all_goals exact frz_tup2 frz_ev0 (.refl _)
theorem ba_eq {a b : ByteArray} (h : a.toList = b.toList) : a = b := by
  rw [toL_eq, toL_eq] at h
  exact ByteArray.ext (Array.ext' h)
theorem formed_5cm {q r c d : ByteArray} {ds : List ByteArray} (hq : q.size ≤ 1000000) (hc : c.size ≤ 1000000) (hr : r.size ≤ 1000000) {vq : Int} (hvq : num q = (vq, true)) (hrm : r.toList = ByteArray.toList ⟨#[45, 49]⟩) (hcc : colon c = false) {p : ByteArray} {kk : Int} (hkk : findW p wordsL 0 = kk) (hA : appB kk = true) (hk01 : ¬ (kk = 0 ∨ kk = 1)) (hkd : PCal Tryd.prog w0 39 [strA p] (.v (.int .i64 kk))) (hapk : ∀ (id oc rl : Int) (ids : List Int), PCal Tryd.prog w0 25 [evH ρ ⟨kk, id, oc, rl, ids⟩] (.v (.bool true))) : PCal Tryd.prog w0 28 [lst ρ srow false (p :: q :: r :: c :: d :: ds)] (.tup [evH ρ (formedP (p :: q :: r :: c :: d :: ds)).1, .v (.bool (formedP (p :: q :: r :: c :: d :: ds)).2)]) := by
  have hnq := numberR_h (w0 := w0) q hq
  rw [hvq] at hnq
  have hvr : num r = (0, false) := by
    rw [ba_eq hrm]; cbv
  have hnr := numberR_h (w0 := w0) r hr
  rw [hvr] at hnr
  have hoc : occ r = (-1, true) := occ_yes hrm
  have hcol : colon c = (decide (c.size ≠ 0) && (c.get! (c.size - 1) == 58)) := rfl
  have hix := @idx_last c
  obtain ⟨b, hb8⟩ : ∃ b, c.get! (c.size - 1) = b := ⟨_, rfl⟩
  rw [hb8, hcc] at hcol
  rw [hb8] at hix
  have hcol : c.size = 0 ∨ b.toNat ≠ 58 := by
    rcases Classical.em (c.size = 0) with h | h
    · exact .inl h
    · refine .inr fun e => ?_
      rw [show b = 58 from UInt8.toNat_inj.1 e] at hcol
      simp [h] at hcol
  have hcc0 := hcc
  clear hb8 hcc
  have hL : (p :: q :: r :: c :: d :: ds).length = ds.length + 5 := rfl
  refine qf28.pcal (by simp [Tryd.ntmps28]) ((tb_pure (fun e => evH_pure e) _)) ?_
  refine wpQ.go 400 (by conv => lhs; cbv) ?_
  repeat' (first
    | (exfalso; omega)
    | (refine wpQ.op rfl (Owe.ind rfl rfl (lst_idx (k := 0) rfl rfl) (lst_all fun _ => rfl)) ?_; refine wpQ.go 400 (by conv => lhs; cbv) ?_)
    | (refine wpQ.op rfl (Owe.pcall rfl hkd ⟨.v, trivial⟩) ?_; refine wpQ.go 400 (by conv => lhs; cbv) ?_)
    | (refine wpQ.op rfl (Owe.pcallW rfl (hapk _ _ _ []) ⟨evH_pure _, trivial⟩ ⟨wk_ev0, trivial⟩) ?_; refine wpQ.go 400 (by conv => lhs; cbv) ?_)
    | (refine wpQ.op rfl (Owe.ind rfl rfl (lst_idx (k := 1) rfl rfl) (lst_all fun _ => rfl)) ?_; refine wpQ.go 400 (by conv => lhs; cbv) ?_)
    | (refine wpQ.op rfl (Owe.ind rfl rfl (lst_idx (k := 2) rfl rfl) (lst_all fun _ => rfl)) ?_; refine wpQ.go 400 (by conv => lhs; cbv) ?_)
    | (refine wpQ.op rfl (Owe.pcall rfl hnq ⟨.v, trivial⟩) ?_; refine wpQ.go 400 (by conv => lhs; cbv) ?_)
    | (refine wpQ.op rfl (Owe.pcall rfl hnr ⟨.v, trivial⟩) ?_; refine wpQ.go 400 (by conv => lhs; cbv) ?_)
    | (exact absurd hrm (by assumption))
    | (refine wpQ.int rfl (Owe.indS rfl rfl (hix (by omega) (by omega))) fun _ _ => ?_; refine wpQ.go 400 (by conv => lhs; cbv) ?_)
    | (refine wpQ.op rfl (Owe.ind rfl rfl (lst_idx (k := 3) rfl rfl) (lst_all fun _ => rfl)) ?_; refine wpQ.go 400 (by conv => lhs; cbv) ?_)
    | (refine wpQ.bif rfl (Owe.bit rfl) (fun hb => ?_) (fun hb => ?_) <;> (try simp only [decide_eq_true_eq, decide_eq_false_iff_not, beq_iff_eq, beq_eq_false_iff_ne, bne_iff_ne, bne_eq_false_iff_eq, Bool.not_eq_true, Bool.not_eq_false, Bool.not_eq_true', Bool.not_eq_false', ne_eq] at hb) <;> refine wpQ.go 400 (by conv => lhs; cbv) ?_)
    | (refine wpQ.int rfl (Owe.len rfl) fun m hm => ?_; (try rw [lst_len] at hm); refine wpQ.go 400 (by conv => lhs; cbv) ?_)
    | (refine wpQ.int rfl (Owe.ari64 rfl rfl rfl (by omega) (by omega)) fun _ _ => ?_; refine wpQ.go 400 (by conv => lhs; cbv) ?_)
    | (refine wpQ.int rfl (Owe.conv64 rfl (by omega) (by omega)) fun _ _ => ?_; refine wpQ.go 400 (by conv => lhs; cbv) ?_)
    | (refine wpQ.str rfl (Owe.cat rfl rfl (by assumption)) fun _ _ => ?_; refine wpQ.go 400 (by conv => lhs; cbv) ?_)
    | (refine wpQ.exitC ?_; refine wpQ.go 400 (by conv => lhs; cbv) ?_)
    | (refine wpQ.retC ?_; refine wpQ.go 400 (by conv => lhs; cbv) ?_)
    | (refine wpQ.fin (by conv => lhs; cbv) ?_))
  all_goals (rw [formedP_5 hkk (by omega) hA, hvq, hoc, if_pos (by rfl), if_neg (by rw [hcc0]; simp)])
  all_goals exact frz_tup2 frz_ev0 (.refl _)
theorem formed_5cn {q r c d : ByteArray} {ds : List ByteArray} (hq : q.size ≤ 1000000) (hc : c.size ≤ 1000000) (hr : r.size ≤ 1000000) {vq vr : Int} (hvq : num q = (vq, true)) (hrn : ¬ r.toList = ByteArray.toList ⟨#[45, 49]⟩) (hvr : num r = (vr, true)) (hcc : colon c = false) {p : ByteArray} {kk : Int} (hkk : findW p wordsL 0 = kk) (hA : appB kk = true) (hk01 : ¬ (kk = 0 ∨ kk = 1)) (hkd : PCal Tryd.prog w0 39 [strA p] (.v (.int .i64 kk))) (hapk : ∀ (id oc rl : Int) (ids : List Int), PCal Tryd.prog w0 25 [evH ρ ⟨kk, id, oc, rl, ids⟩] (.v (.bool true))) : PCal Tryd.prog w0 28 [lst ρ srow false (p :: q :: r :: c :: d :: ds)] (.tup [evH ρ (formedP (p :: q :: r :: c :: d :: ds)).1, .v (.bool (formedP (p :: q :: r :: c :: d :: ds)).2)]) := by
  have hnq := numberR_h (w0 := w0) q hq
  rw [hvq] at hnq
  have hnr := numberR_h (w0 := w0) r hr
  rw [hvr] at hnr
  have hoc : occ r = (vr, true) := (occ_no hrn).trans hvr
  have hcol : colon c = (decide (c.size ≠ 0) && (c.get! (c.size - 1) == 58)) := rfl
  have hix := @idx_last c
  obtain ⟨b, hb8⟩ : ∃ b, c.get! (c.size - 1) = b := ⟨_, rfl⟩
  rw [hb8, hcc] at hcol
  rw [hb8] at hix
  have hcol : c.size = 0 ∨ b.toNat ≠ 58 := by
    rcases Classical.em (c.size = 0) with h | h
    · exact .inl h
    · refine .inr fun e => ?_
      rw [show b = 58 from UInt8.toNat_inj.1 e] at hcol
      simp [h] at hcol
  have hcc0 := hcc
  clear hb8 hcc
  have hL : (p :: q :: r :: c :: d :: ds).length = ds.length + 5 := rfl
  refine qf28.pcal (by simp [Tryd.ntmps28]) ((tb_pure (fun e => evH_pure e) _)) ?_
  refine wpQ.go 400 (by conv => lhs; cbv) ?_
  repeat' (first
    | (exfalso; omega)
    | (refine wpQ.op rfl (Owe.ind rfl rfl (lst_idx (k := 0) rfl rfl) (lst_all fun _ => rfl)) ?_; refine wpQ.go 400 (by conv => lhs; cbv) ?_)
    | (refine wpQ.op rfl (Owe.pcall rfl hkd ⟨.v, trivial⟩) ?_; refine wpQ.go 400 (by conv => lhs; cbv) ?_)
    | (refine wpQ.op rfl (Owe.pcallW rfl (hapk _ _ _ []) ⟨evH_pure _, trivial⟩ ⟨wk_ev0, trivial⟩) ?_; refine wpQ.go 400 (by conv => lhs; cbv) ?_)
    | (refine wpQ.op rfl (Owe.ind rfl rfl (lst_idx (k := 1) rfl rfl) (lst_all fun _ => rfl)) ?_; refine wpQ.go 400 (by conv => lhs; cbv) ?_)
    | (refine wpQ.op rfl (Owe.ind rfl rfl (lst_idx (k := 2) rfl rfl) (lst_all fun _ => rfl)) ?_; refine wpQ.go 400 (by conv => lhs; cbv) ?_)
    | (refine wpQ.op rfl (Owe.pcall rfl hnq ⟨.v, trivial⟩) ?_; refine wpQ.go 400 (by conv => lhs; cbv) ?_)
    | (refine wpQ.op rfl (Owe.pcall rfl hnr ⟨.v, trivial⟩) ?_; refine wpQ.go 400 (by conv => lhs; cbv) ?_)
    | (exact absurd (by assumption) hrn)
    | (refine wpQ.int rfl (Owe.indS rfl rfl (hix (by omega) (by omega))) fun _ _ => ?_; refine wpQ.go 400 (by conv => lhs; cbv) ?_)
    | (refine wpQ.op rfl (Owe.ind rfl rfl (lst_idx (k := 3) rfl rfl) (lst_all fun _ => rfl)) ?_; refine wpQ.go 400 (by conv => lhs; cbv) ?_)
    | (refine wpQ.bif rfl (Owe.bit rfl) (fun hb => ?_) (fun hb => ?_) <;> (try simp only [decide_eq_true_eq, decide_eq_false_iff_not, beq_iff_eq, beq_eq_false_iff_ne, bne_iff_ne, bne_eq_false_iff_eq, Bool.not_eq_true, Bool.not_eq_false, Bool.not_eq_true', Bool.not_eq_false', ne_eq] at hb) <;> refine wpQ.go 400 (by conv => lhs; cbv) ?_)
    | (refine wpQ.int rfl (Owe.len rfl) fun m hm => ?_; (try rw [lst_len] at hm); refine wpQ.go 400 (by conv => lhs; cbv) ?_)
    | (refine wpQ.int rfl (Owe.ari64 rfl rfl rfl (by omega) (by omega)) fun _ _ => ?_; refine wpQ.go 400 (by conv => lhs; cbv) ?_)
    | (refine wpQ.int rfl (Owe.conv64 rfl (by omega) (by omega)) fun _ _ => ?_; refine wpQ.go 400 (by conv => lhs; cbv) ?_)
    | (refine wpQ.str rfl (Owe.cat rfl rfl (by assumption)) fun _ _ => ?_; refine wpQ.go 400 (by conv => lhs; cbv) ?_)
    | (refine wpQ.exitC ?_; refine wpQ.go 400 (by conv => lhs; cbv) ?_)
    | (refine wpQ.retC ?_; refine wpQ.go 400 (by conv => lhs; cbv) ?_)
    | (refine wpQ.fin (by conv => lhs; cbv) ?_))
  all_goals (rw [formedP_5 hkk (by omega) hA, hvq, hoc, if_pos (by rfl), if_neg (by rw [hcc0]; simp)])
  all_goals exact frz_tup2 frz_ev0 (.refl _)
end
end Go.Proofs.YtahhaiomdjlckaaDoor
