/-
  trace: read, Parse: what they return.
-/
import Derived.Test.YtahhaiomdjlckaaDoorC2
namespace Go.Proofs.YtahhaiomdjlckaaDoor
set_option linter.unusedVariables false
set_option linter.unusedSimpArgs false
open Go.RowKit

/-- the kind of a word. -/
def kf (w : ByteArray) : Nat → Int
  | 0 => 0
  | j + 1 => if (wordB (j + 1)).toList == w.toList then j + 1 else kf w j
def readP : List ByteArray → Ed × Bool
  | [] => (⟨0, 0, 0, 0, []⟩, false)
  | p :: rest =>
    if kf p 7 = 0 ∨ kf p 7 = 1 then (⟨kf p 7, 0, 0, 0, []⟩, decide (kf p 7 = 1) && rest.length == 0)
    else match rest with
      | q :: r :: ps => if (num q).2 && (occ r).2 then (if appB (kf p 7) then applP ⟨kf p 7, (num q).1, (occ r).1, 0, []⟩ ps else (⟨kf p 7, (num q).1, (occ r).1, 0, []⟩, ps.length == 0)) else (⟨kf p 7, (num q).1, (occ r).1, 0, []⟩, false)
      | _ => (⟨kf p 7, 0, 0, 0, []⟩, false)
def sp : ByteArray := ⟨#[32]⟩
def partsB (s : ByteArray) : List ByteArray := Lib.splitB sp 0 (Lib.countB s sp) s
section
variable {w0 : World} {ρ : Hd}
set_option maxRecDepth 100000
theorem frz_ev0 {S : Store} {a b c d : Int} : Frz S (.agg [iv a, iv b, iv c, iv d, .sl true []]) (evH ρ ⟨a, b, c, d, []⟩) := by
  refine .agg rfl fun i x y hx hy => ?_
  match i with
  | 0 => simp [evR] at hx hy; subst hx hy; exact .refl _
  | 1 => simp [evR] at hx hy; subst hx hy; exact .refl _
  | 2 => simp [evR] at hx hy; subst hx hy; exact .refl _
  | 3 => simp [evR] at hx hy; subst hx hy; exact .refl _
  | 4 => simp [evR] at hx hy; subst hx hy; exact Frz.accN rfl
  | n + 5 => simp at hx
theorem kob5 {B : Nat} {a b c d : Int} : KOb B (.arr 5 [[iv a, iv b, iv c, iv d, .sl true []]] 0 true) := by
  intro row hr x hx
  obtain rfl := List.mem_singleton.1 hr
  simp only [List.mem_cons, List.not_mem_nil, or_false] at hx
  rcases hx with rfl | rfl | rfl | rfl | rfl
  all_goals first | exact .v | exact klt_nil
theorem word_s (k : Int) : PCal Tryd.prog w0 19 [iv k] (strA (wordB k)) := word_p k
theorem read_h (hE : Env w0) (s : ByteArray) (hs : s.size ≤ 1000000) (hl : (partsB s).length ≤ 1000000) (hI : ∀ p ∈ partsB s, p.size ≤ 1000000) (hne : partsB s ≠ []) :
    PCal Tryd.prog w0 26 [strA s] (.tup [evH ρ (readP (partsB s)).1, .v (.bool (readP (partsB s)).2)]) := by
  refine qf26.pcal (by simp [Tryd.ntmps26]) ((tb_pure (fun e => evH_pure e) _)) ?_
  refine wpQ.go 400 (by conv => lhs; cbv) ?_
  refine wpQ.gen (lst ρ srow false) rfl (Owe.pcall rfl (split_h hE s sp (by omega) (by decide)) ⟨.v, .v, trivial⟩) fun L hL => ?_
  have hL : partsB s = L := hL.symm
  rw [hL] at hl hI hne ⊢
  obtain ⟨p, rest, rfl⟩ : ∃ p rest, L = p :: rest := by
    cases L with
    | nil => exact absurd rfl hne
    | cons p rest => exact ⟨p, rest, rfl⟩
  refine wpQ.go 400 (by conv => lhs; cbv) ?_
  refine wpQ.loopC (σ := Int × Int) 2 2 [] (fun t => [(2, .pt 0 5 0 0), (4, lst ρ srow false (p :: rest)), (5, .pt 1 5 0 0), (6, .v (.int .i64 t.1))]) []
    (fun t => [(0, .arr 5 [[iv 0, iv 0, iv 0, iv 0, .sl true []]] 0 true), (1, .arr 5 [[iv t.2, iv 0, iv 0, iv 0, .sl true []]] 0 true)])
    (fun t => ∃ j : Nat, t.1 = j + 1 ∧ j ≤ 7 ∧ t.2 = kf p j) (fun t => 8 - t.1.toNat) (1, 0) ⟨0, rfl, by simp, rfl⟩ rfl
    ⟨⟨.old rfl (.pt (by decide)), .old rfl (strs_pure _).klt, .old rfl (.pt (by decide)), .old rfl .v, trivial⟩, rfl, ⟨⟨_, rfl, .same kob5⟩, ⟨_, rfl, .same kob5⟩, trivial⟩, rfl, rfl, rfl⟩ ?_
  rintro ⟨i, ek⟩ ⟨j, hi, hj, hk⟩
  simp only at hi hk
  refine wpQ.go 400 (by conv => lhs; cbv) ?_
  repeat' (first
    | (refine wpQ.str rfl (Owe.pcall rfl (word_s _) ⟨.v, trivial⟩) fun _ _ => ?_; refine wpQ.go 400 (by conv => lhs; cbv) ?_)
    | (refine wpQ.op rfl (Owe.ind rfl rfl (lst_idx (k := 0) rfl rfl) (lst_all fun _ => rfl)) ?_; refine wpQ.go 400 (by conv => lhs; cbv) ?_)
    | (refine wpQ.exitC ?_)
    | (refine wpQ.bif rfl (Owe.bit rfl) (fun hb => ?_) (fun hb => ?_) <;> (try simp only [decide_eq_true_eq, decide_eq_false_iff_not, beq_iff_eq, beq_eq_false_iff_ne, bne_iff_ne, bne_eq_false_iff_eq, Bool.not_eq_true, Bool.not_eq_false, Bool.not_eq_true', Bool.not_eq_false', ne_eq] at hb) <;> refine wpQ.go 400 (by conv => lhs; cbv) ?_)
    | (refine wpQ.int rfl (Owe.len rfl) fun m hm => ?_; (try rw [lst_len] at hm); refine wpQ.go 400 (by conv => lhs; cbv) ?_)
    | (refine wpQ.int rfl (Owe.ari64 rfl rfl rfl (by omega) (by omega)) fun _ _ => ?_; refine wpQ.go 400 (by conv => lhs; cbv) ?_)
    | (refine wpQ.int rfl (Owe.conv64 rfl (by omega) (by omega)) fun _ _ => ?_; refine wpQ.go 400 (by conv => lhs; cbv) ?_)
    | (refine wpQ.str rfl (Owe.cat rfl rfl (by assumption)) fun _ _ => ?_; refine wpQ.go 400 (by conv => lhs; cbv) ?_)
    | (refine wpQ.exitC ?_; refine wpQ.go 400 (by conv => lhs; cbv) ?_)
    | (refine wpQ.retC ?_; refine wpQ.go 400 (by conv => lhs; cbv) ?_)
    | (refine wpQ.fin (by conv => lhs; cbv) ?_))
  · refine wpQ.nextC (σ := Int × Int) (_, _) [] ⟨j + 1, by simp only; omega, by omega, ?_⟩ (by simp only; omega) ⟨⟨.old rfl (.pt (by decide)), .old rfl (strs_pure _).klt, .old rfl (.pt (by decide)), .old rfl .v, trivial⟩, rfl, ⟨⟨_, rfl, .same kob5⟩, ⟨_, rfl, .same kob5⟩, trivial⟩, rfl, rfl, rfl⟩
    simp_all [kf]
  · refine wpQ.nextC (σ := Int × Int) (_, _) [] ⟨j + 1, by simp only; omega, by omega, ?_⟩ (by simp only; omega) ⟨⟨.old rfl (.pt (by decide)), .old rfl (strs_pure _).klt, .old rfl (.pt (by decide)), .old rfl .v, trivial⟩, rfl, ⟨⟨_, rfl, .same kob5⟩, ⟨_, rfl, .same kob5⟩, trivial⟩, rfl, rfl, rfl⟩
    subst_vars
    simp_all [kf]
  · have hj7 : j = 7 := by omega
    subst hj7
    rcases rest with _ | ⟨q, _ | ⟨r, ps⟩⟩
    · refine wpQ.go 400 (by conv => lhs; cbv) ?_
      repeat' (first
        | (refine wpQ.bif rfl (Owe.bit rfl) (fun hb => ?_) (fun hb => ?_) <;> (try simp only [decide_eq_true_eq, decide_eq_false_iff_not, beq_iff_eq, beq_eq_false_iff_ne, bne_iff_ne, bne_eq_false_iff_eq, Bool.not_eq_true, Bool.not_eq_false, Bool.not_eq_true', Bool.not_eq_false', ne_eq] at hb) <;> refine wpQ.go 400 (by conv => lhs; cbv) ?_)
        | (refine wpQ.int rfl (Owe.len rfl) fun m hm => ?_; (try rw [lst_len] at hm); refine wpQ.go 400 (by conv => lhs; cbv) ?_)
        | (refine wpQ.int rfl (Owe.ari64 rfl rfl rfl (by omega) (by omega)) fun _ _ => ?_; refine wpQ.go 400 (by conv => lhs; cbv) ?_)
        | (refine wpQ.int rfl (Owe.conv64 rfl (by omega) (by omega)) fun _ _ => ?_; refine wpQ.go 400 (by conv => lhs; cbv) ?_)
        | (refine wpQ.str rfl (Owe.cat rfl rfl (by assumption)) fun _ _ => ?_; refine wpQ.go 400 (by conv => lhs; cbv) ?_)
        | (refine wpQ.exitC ?_; refine wpQ.go 400 (by conv => lhs; cbv) ?_)
        | (refine wpQ.retC ?_; refine wpQ.go 400 (by conv => lhs; cbv) ?_)
        | (refine wpQ.fin (by conv => lhs; cbv) ?_))
      all_goals first
        | (exfalso; simp only [List.length_cons, List.length_nil] at hm; omega)
        | (exfalso; omega)
        | (subst_vars; simp_all [readP]; done)
        | (subst_vars; simp_all [readP]; exact frz_tup2 frz_ev0 (.refl _))
        | skip
    · refine wpQ.go 400 (by conv => lhs; cbv) ?_
      repeat' (first
        | (refine wpQ.bif rfl (Owe.bit rfl) (fun hb => ?_) (fun hb => ?_) <;> (try simp only [decide_eq_true_eq, decide_eq_false_iff_not, beq_iff_eq, beq_eq_false_iff_ne, bne_iff_ne, bne_eq_false_iff_eq, Bool.not_eq_true, Bool.not_eq_false, Bool.not_eq_true', Bool.not_eq_false', ne_eq] at hb) <;> refine wpQ.go 400 (by conv => lhs; cbv) ?_)
        | (refine wpQ.int rfl (Owe.len rfl) fun m hm => ?_; (try rw [lst_len] at hm); refine wpQ.go 400 (by conv => lhs; cbv) ?_)
        | (refine wpQ.int rfl (Owe.ari64 rfl rfl rfl (by omega) (by omega)) fun _ _ => ?_; refine wpQ.go 400 (by conv => lhs; cbv) ?_)
        | (refine wpQ.int rfl (Owe.conv64 rfl (by omega) (by omega)) fun _ _ => ?_; refine wpQ.go 400 (by conv => lhs; cbv) ?_)
        | (refine wpQ.str rfl (Owe.cat rfl rfl (by assumption)) fun _ _ => ?_; refine wpQ.go 400 (by conv => lhs; cbv) ?_)
        | (refine wpQ.exitC ?_; refine wpQ.go 400 (by conv => lhs; cbv) ?_)
        | (refine wpQ.retC ?_; refine wpQ.go 400 (by conv => lhs; cbv) ?_)
        | (refine wpQ.fin (by conv => lhs; cbv) ?_))
      all_goals first
        | (exfalso; simp only [List.length_cons, List.length_nil] at hm; omega)
        | (exfalso; omega)
        | (subst_vars; simp_all [readP]; done)
        | (subst_vars; simp_all [readP]; exact frz_tup2 frz_ev0 (.refl _))
        | skip
    · refine wpQ.go 400 (by conv => lhs; cbv) ?_
      have hq := hI q (by simp)
      have hr := hI r (by simp)
      have hlp : ps.length ≤ 1000000 := by simp at hl; omega
      have hIp : ∀ s ∈ ps, s.size ≤ 1000000 := fun s hs => hI s (by simp [hs])
      repeat' (first
        | (refine wpQ.op rfl (Owe.ind rfl rfl (lst_idx (k := 1) rfl rfl) (lst_all fun _ => rfl)) ?_; refine wpQ.go 400 (by conv => lhs; cbv) ?_)
        | (refine wpQ.op rfl (Owe.ind rfl rfl (lst_idx (k := 2) rfl rfl) (lst_all fun _ => rfl)) ?_; refine wpQ.go 400 (by conv => lhs; cbv) ?_)
        | (refine wpQ.tb iv rfl (Owe.pcall rfl (number_t q (by omega)) ⟨.v, trivial⟩) (fun v hv => ?_) (fun v hv => ?_) <;> refine wpQ.go 400 (by conv => lhs; cbv) ?_)
        | (refine wpQ.tb iv rfl (Owe.pcall rfl (occ_h r (by omega)) ⟨.v, trivial⟩) (fun v hv => ?_) (fun v hv => ?_) <;> refine wpQ.go 400 (by conv => lhs; cbv) ?_)
        | (refine wpQ.bif rfl (Owe.pcall rfl (applies_p _) ⟨.v, trivial⟩) (fun _ => ?_) (fun _ => ?_) <;> refine wpQ.go 400 (by conv => lhs; cbv) ?_)
        | (refine wpQ.gen (lst ρ srow false) rfl (Owe.sliHR rfl rfl (fun _ => rfl) (by decide) (by simp; omega)) (fun l hll => ?_); refine wpQ.go 400 (by conv => lhs; cbv) ?_)
        | (refine wpQ.tb (evH ρ) rfl (Owe.pcallW rfl (appl_h (ρ := ρ) ⟨_, _, _, 0, []⟩ ps hlp hIp) ⟨evH_pure _, strs_pure _, trivial⟩ ⟨Wk.agg ⟨Wk.refl _, Wk.refl _, Wk.refl _, Wk.refl _, Wk.nil, trivial⟩, by (rename_i l hll; subst hll; exact Wk.refl _), trivial⟩) (fun v hv => ?_) (fun v hv => ?_) <;> refine wpQ.go 400 (by conv => lhs; cbv) ?_)
        | (refine wpQ.bif rfl (Owe.bit rfl) (fun hb => ?_) (fun hb => ?_) <;> (try simp only [decide_eq_true_eq, decide_eq_false_iff_not, beq_iff_eq, beq_eq_false_iff_ne, bne_iff_ne, bne_eq_false_iff_eq, Bool.not_eq_true, Bool.not_eq_false, Bool.not_eq_true', Bool.not_eq_false', ne_eq] at hb) <;> refine wpQ.go 400 (by conv => lhs; cbv) ?_)
        | (refine wpQ.int rfl (Owe.len rfl) fun m hm => ?_; (try rw [lst_len] at hm); refine wpQ.go 400 (by conv => lhs; cbv) ?_)
        | (refine wpQ.int rfl (Owe.ari64 rfl rfl rfl (by omega) (by omega)) fun _ _ => ?_; refine wpQ.go 400 (by conv => lhs; cbv) ?_)
        | (refine wpQ.int rfl (Owe.conv64 rfl (by omega) (by omega)) fun _ _ => ?_; refine wpQ.go 400 (by conv => lhs; cbv) ?_)
        | (refine wpQ.str rfl (Owe.cat rfl rfl (by assumption)) fun _ _ => ?_; refine wpQ.go 400 (by conv => lhs; cbv) ?_)
        | (refine wpQ.exitC ?_; refine wpQ.go 400 (by conv => lhs; cbv) ?_)
        | (refine wpQ.retC ?_; refine wpQ.go 400 (by conv => lhs; cbv) ?_)
        | (refine wpQ.fin (by conv => lhs; cbv) ?_))
      all_goals first
        | (exfalso; simp only [List.length_cons, List.length_nil] at hm; omega)
        | (exfalso; omega)
        | (subst_vars; simp_all [readP]; done)
        | (subst_vars; simp_all [readP]; exact frz_tup2 frz_ev0 (.refl _))
        | skip
      · rw [show readP (p :: q :: r :: ps) = (v, true) by subst hk; simp_all [readP]]; exact Frz.of_eq rfl
      · rw [show readP (p :: q :: r :: ps) = (v, false) by subst hk; simp_all [readP]]; exact Frz.of_eq rfl
      · have : ps = [] := List.eq_nil_of_length_eq_zero (by simp only [List.length_cons] at hm; omega)
        subst this
        rw [show readP (p :: q :: r :: []) = (⟨ek, _, _, 0, []⟩, true) by subst hk; simp_all [readP]; exact ⟨rfl, rfl⟩]
        exact frz_tup2 frz_ev0 (.refl _)
      · rw [show readP (p :: q :: r :: ps) = (⟨ek, _, _, 0, []⟩, false) by
          have : ps ≠ [] := fun e => by subst e; simp only [List.length_cons, List.length_nil] at hm; omega
          subst hk; simp_all [readP]; exact ⟨rfl, rfl⟩]
        exact frz_tup2 frz_ev0 (.refl _)
end
end Go.Proofs.YtahhaiomdjlckaaDoor
