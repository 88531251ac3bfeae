/-
  The reference of trace: words, kind, number, split: what they return.
-/
import Derived.Test.YtahhaiomdjlckaaDoorR1
import Derived.Test.YtahhaiomdjlckaaDoorP1
namespace Go.Proofs.YtahhaiomdjlckaaDoor
set_option linter.unusedVariables false
set_option linter.unusedSimpArgs false
open Go.RowKit

def wordsL : List ByteArray := [wordB 1, wordB 2, wordB 3, wordB 4, wordB 5, wordB 6, wordB 7]
def findW (s : ByteArray) : List ByteArray → Int → Int
  | [], _ => 0
  | w :: l, j => if w.toList == s.toList then j + 1 else findW s l (j + 1)
def qp29 : {q : QC × List QR // compF Tryd.progTables Tryd.f29 = some q} := ⟨_, by conv => lhs; cbv⟩
theorem qf29 : QFn Tryd.prog 29 qp29.1 Tryd.f29.ntmps := QFn.of Tryd.func29 qp29.2 rfl rfl (by kernel_rfl) Tryd.call29
section
variable {w0 : World} {ρ : Hd}
set_option maxRecDepth 100000
theorem words_h : PCal Tryd.prog w0 23 [] (lst ρ srow false wordsL) := by
  refine qf23.pcal (by simp [Tryd.ntmps23]) (strs_pure _) ?_
  refine wpQ.go 400 (by conv => lhs; cbv) ?_
  repeat' (first
    | (refine wpQ.bif rfl (Owe.bit rfl) (fun hb => ?_) (fun hb => ?_) <;> (try simp only [decide_eq_true_eq, decide_eq_false_iff_not, beq_iff_eq, beq_eq_false_iff_ne, bne_iff_ne, bne_eq_false_iff_eq, Bool.not_eq_true, Bool.not_eq_false, Bool.not_eq_true', Bool.not_eq_false', ne_eq] at hb) <;> refine wpQ.go 400 (by conv => lhs; cbv) ?_)
    | (refine wpQ.int rfl (Owe.len rfl) fun m hm => ?_; (try rw [lst_len] at hm); refine wpQ.go 400 (by conv => lhs; cbv) ?_)
    | (refine wpQ.int rfl (Owe.ari64 rfl rfl rfl (by omega) (by omega)) fun _ _ => ?_; refine wpQ.go 400 (by conv => lhs; cbv) ?_)
    | (refine wpQ.int rfl (Owe.conv64 rfl (by omega) (by omega)) fun _ _ => ?_; refine wpQ.go 400 (by conv => lhs; cbv) ?_)
    | (refine wpQ.str rfl (Owe.cat rfl rfl (by assumption)) fun _ _ => ?_; refine wpQ.go 400 (by conv => lhs; cbv) ?_)
    | (refine wpQ.exitC ?_; refine wpQ.go 400 (by conv => lhs; cbv) ?_)
    | (refine wpQ.retC ?_; refine wpQ.go 400 (by conv => lhs; cbv) ?_)
    | (refine wpQ.fin (by conv => lhs; cbv) ?_))
  rw [lst_eq]
  exact Frz.wk
theorem kind_h (s : ByteArray) : PCal Tryd.prog w0 39 [strA s] (.v (.int .i64 (findW s wordsL 0))) := by
  obtain ⟨ρ, _⟩ : ∃ ρ : Hd, True := ⟨Hd.plain, trivial⟩
  obtain ⟨W, hW⟩ : ∃ W, wordsL = W := ⟨_, rfl⟩
  have hlen : W.length = 7 := by rw [← hW]; rfl
  have hwd := words_h (w0 := w0) (ρ := ρ)
  rw [hW] at hwd
  rw [hW]
  refine qf39.pcal (by simp [Tryd.ntmps39]) (.v) ?_
  refine wpQ.go 400 (by conv => lhs; cbv) ?_
  repeat' (first
    | (refine wpQ.op rfl (Owe.pcall rfl hwd trivial) ?_; refine wpQ.go 400 (by conv => lhs; cbv) ?_)
    | (refine wpQ.bif rfl (Owe.bit rfl) (fun hb => ?_) (fun hb => ?_) <;> (try simp only [decide_eq_true_eq, decide_eq_false_iff_not, beq_iff_eq, beq_eq_false_iff_ne, bne_iff_ne, bne_eq_false_iff_eq, Bool.not_eq_true, Bool.not_eq_false, Bool.not_eq_true', Bool.not_eq_false', ne_eq] at hb) <;> refine wpQ.go 400 (by conv => lhs; cbv) ?_)
    | (refine wpQ.int rfl (Owe.len rfl) fun m hm => ?_; (try rw [lst_len] at hm); refine wpQ.go 400 (by conv => lhs; cbv) ?_)
    | (refine wpQ.int rfl (Owe.ari64 rfl rfl rfl (by omega) (by omega)) fun _ _ => ?_; refine wpQ.go 400 (by conv => lhs; cbv) ?_)
    | (refine wpQ.int rfl (Owe.conv64 rfl (by omega) (by omega)) fun _ _ => ?_; refine wpQ.go 400 (by conv => lhs; cbv) ?_)
    | (refine wpQ.str rfl (Owe.cat rfl rfl (by assumption)) fun _ _ => ?_; refine wpQ.go 400 (by conv => lhs; cbv) ?_)
    | (refine wpQ.exitC ?_; refine wpQ.go 400 (by conv => lhs; cbv) ?_)
    | (refine wpQ.retC ?_; refine wpQ.go 400 (by conv => lhs; cbv) ?_)
    | (refine wpQ.fin (by conv => lhs; cbv) ?_))
  refine wpQ.loopC (σ := Int) 0 0 [] (fun i => [(0, strA s), (3, lst ρ srow false W), (4, .v (.int .i64 i))]) [] (fun _ => [])
    (fun i => ∃ k : Nat, i = k ∧ k ≤ W.length ∧ findW s W 0 = findW s (W.drop k) k) (fun i => W.length - i.toNat) 0 ⟨0, rfl, by simp, by simp⟩ rfl
    ⟨⟨.old rfl .v, .old rfl ((strs_pure W).klt), .old rfl .v, trivial⟩, rfl, trivial, rfl, rfl, rfl⟩ ?_
  rintro i ⟨k, hi, hk, hp⟩
  refine wpQ.go 400 (by conv => lhs; cbv) ?_
  by_cases hlt : k < W.length
  · obtain ⟨x, hx, hx2⟩ := drop_at hlt
    rw [hx2, findW] at hp
    repeat' (first
      | (refine wpQ.op rfl (Owe.ind rfl rfl (lst_idx (l := W) hi hx) (lst_all fun _ => rfl)) ?_; refine wpQ.go 400 (by conv => lhs; cbv) ?_)
      | (refine wpQ.bif rfl (Owe.bit rfl) (fun hb => ?_) (fun hb => ?_) <;> (try simp only [decide_eq_true_eq, decide_eq_false_iff_not, beq_iff_eq, beq_eq_false_iff_ne, bne_iff_ne, bne_eq_false_iff_eq, Bool.not_eq_true, Bool.not_eq_false, Bool.not_eq_true', Bool.not_eq_false', ne_eq] at hb) <;> refine wpQ.go 400 (by conv => lhs; cbv) ?_)
      | (refine wpQ.int rfl (Owe.len rfl) fun m hm => ?_; (try rw [lst_len] at hm); refine wpQ.go 400 (by conv => lhs; cbv) ?_)
      | (refine wpQ.int rfl (Owe.ari64 rfl rfl rfl (by omega) (by omega)) fun _ _ => ?_; refine wpQ.go 400 (by conv => lhs; cbv) ?_)
      | (refine wpQ.int rfl (Owe.conv64 rfl (by omega) (by omega)) fun _ _ => ?_; refine wpQ.go 400 (by conv => lhs; cbv) ?_)
      | (refine wpQ.str rfl (Owe.cat rfl rfl (by assumption)) fun _ _ => ?_; refine wpQ.go 400 (by conv => lhs; cbv) ?_)
      | (refine wpQ.exitC ?_; refine wpQ.go 400 (by conv => lhs; cbv) ?_)
      | (refine wpQ.retC ?_; refine wpQ.go 400 (by conv => lhs; cbv) ?_)
      | (refine wpQ.fin (by conv => lhs; cbv) ?_))
    all_goals first
      | (exfalso; omega)
      | (rw [hp]; refine Frz.of_eq ?_; simp_all; omega)
      | (refine wpQ.nextC (σ := Int) _ [] ⟨k + 1, by omega, by omega, ?_⟩ (by omega) ⟨⟨.old rfl .v, .old rfl ((strs_pure W).klt), .old rfl .v, trivial⟩, rfl, trivial, rfl, rfl, rfl⟩; rw [hp]; simp_all; done)
  · skip
    repeat' (first
      | (refine wpQ.bif rfl (Owe.bit rfl) (fun hb => ?_) (fun hb => ?_) <;> (try simp only [decide_eq_true_eq, decide_eq_false_iff_not, beq_iff_eq, beq_eq_false_iff_ne, bne_iff_ne, bne_eq_false_iff_eq, Bool.not_eq_true, Bool.not_eq_false, Bool.not_eq_true', Bool.not_eq_false', ne_eq] at hb) <;> refine wpQ.go 400 (by conv => lhs; cbv) ?_)
      | (refine wpQ.int rfl (Owe.len rfl) fun m hm => ?_; (try rw [lst_len] at hm); refine wpQ.go 400 (by conv => lhs; cbv) ?_)
      | (refine wpQ.int rfl (Owe.ari64 rfl rfl rfl (by omega) (by omega)) fun _ _ => ?_; refine wpQ.go 400 (by conv => lhs; cbv) ?_)
      | (refine wpQ.int rfl (Owe.conv64 rfl (by omega) (by omega)) fun _ _ => ?_; refine wpQ.go 400 (by conv => lhs; cbv) ?_)
      | (refine wpQ.str rfl (Owe.cat rfl rfl (by assumption)) fun _ _ => ?_; refine wpQ.go 400 (by conv => lhs; cbv) ?_)
      | (refine wpQ.exitC ?_; refine wpQ.go 400 (by conv => lhs; cbv) ?_)
      | (refine wpQ.retC ?_; refine wpQ.go 400 (by conv => lhs; cbv) ?_)
      | (refine wpQ.fin (by conv => lhs; cbv) ?_))
    all_goals first
      | (exfalso; omega)
      | (rw [hp, List.drop_eq_nil_of_le (by omega)]; exact Frz.of_eq rfl)
theorem numberR_h (s : ByteArray) (hs : s.size ≤ 1000000) : PCal Tryd.prog w0 40 [strA s] (.tup [iv (num s).1, .v (.bool (num s).2)]) := by
  have hsz := size_toL s
  unfold num
  refine qf40.pcal (by simp [Tryd.ntmps40]) ((tb_pure (fun _ => .v) _)) ?_
  refine wpQ.go 400 (by conv => lhs; cbv) ?_
  rcases hl : s.data.toList with _ | ⟨c, _ | ⟨d, rest⟩⟩
  all_goals
    rw [hl] at hsz
    simp only [List.length_nil, List.length_cons] at hsz
    repeat' (first
      | (refine wpQ.int rfl (Owe.indS rfl rfl (idx_zero hl)) fun _ _ => ?_; refine wpQ.go 400 (by conv => lhs; cbv) ?_)
      | (refine wpQ.bif rfl (Owe.bit rfl) (fun hb => ?_) (fun hb => ?_) <;> (try simp only [decide_eq_true_eq, decide_eq_false_iff_not, beq_iff_eq, beq_eq_false_iff_ne, bne_iff_ne, bne_eq_false_iff_eq, Bool.not_eq_true, Bool.not_eq_false, Bool.not_eq_true', Bool.not_eq_false', ne_eq] at hb) <;> refine wpQ.go 400 (by conv => lhs; cbv) ?_)
      | (refine wpQ.int rfl (Owe.len rfl) fun m hm => ?_; (try rw [lst_len] at hm); refine wpQ.go 400 (by conv => lhs; cbv) ?_)
      | (refine wpQ.int rfl (Owe.ari64 rfl rfl rfl (by omega) (by omega)) fun _ _ => ?_; refine wpQ.go 400 (by conv => lhs; cbv) ?_)
      | (refine wpQ.int rfl (Owe.conv64 rfl (by omega) (by omega)) fun _ _ => ?_; refine wpQ.go 400 (by conv => lhs; cbv) ?_)
      | (refine wpQ.str rfl (Owe.cat rfl rfl (by assumption)) fun _ _ => ?_; refine wpQ.go 400 (by conv => lhs; cbv) ?_)
      | (refine wpQ.exitC ?_; refine wpQ.go 400 (by conv => lhs; cbv) ?_)
      | (refine wpQ.retC ?_; refine wpQ.go 400 (by conv => lhs; cbv) ?_)
      | (refine wpQ.fin (by conv => lhs; cbv) ?_))
  all_goals try (exfalso; omega)
  · exact Frz.of_eq rfl
  rotate_left 1
  · subst_vars
    rename_i hb
    have : c = 48 := by apply UInt8.toNat_inj.1; show c.toNat = 48; omega
    subst this
    exact Frz.of_eq rfl
  all_goals
    rw [← hl, numL_scan (by simp [hl]) (by intro c1 d1 r1 e; simp_all)]
    have hsz := size_toL s
    refine wpQ.loopC (σ := Int × Int) 0 0 [] (fun p => [(0, strA s), (4, .v (.int .i64 p.2)), (5, .v (.int .i64 p.1))]) [] (fun _ => [])
      (fun p => ∃ k : Nat, p.1 = k ∧ k ≤ s.size ∧ 0 ≤ p.2 ∧ p.2 ≤ 2147483649 ∧ scanB 0 s.data.toList = scanB p.2 (s.data.toList.drop k)) (fun p => s.size - p.1.toNat) (0, 0) ⟨0, rfl, by simp, by simp, by simp, by simp⟩ rfl
      ⟨⟨.old rfl .v, .old rfl .v, .old rfl .v, trivial⟩, rfl, trivial, rfl, rfl, rfl⟩ ?_
    rintro ⟨i, n⟩ ⟨k, hi, h1, h2, h3, h4⟩
    simp only at hi h2 h3 h4
    refine wpQ.go 400 (by conv => lhs; cbv) ?_
    by_cases hlt : k < s.size
    · have hg := get_drop s k hlt
      have hlt' : k < s.data.toList.length := by omega
      have hix : idx s.data.toList i = some (s.get! k) := by
        have : s.data.toList[k]? = some (s.get! k) := by
          rw [List.getElem?_eq_getElem hlt']
          have := List.drop_eq_getElem_cons hlt'
          rw [hg] at this
          injection this with this _
          rw [this]
        subst hi
        exact idx_nat this
      obtain ⟨b, hb8⟩ : ∃ b, s.get! k = b := ⟨_, rfl⟩
      rw [hb8] at hg hix
      rw [hg, scanB] at h4
      repeat' (first
        | (refine wpQ.int rfl (Owe.indS rfl rfl hix) fun _ _ => ?_; refine wpQ.go 400 (by conv => lhs; cbv) ?_)
        | (refine wpQ.int rfl (Owe.min rfl rfl) fun _ _ => ?_; refine wpQ.go 400 (by conv => lhs; cbv) ?_)
        | (refine wpQ.int rfl (Owe.ari rfl rfl rfl) fun _ hw => ?_; rw [wrap8 (by omega) (by omega)] at hw; refine wpQ.go 400 (by conv => lhs; cbv) ?_)
        | (refine wpQ.bif rfl (Owe.bit rfl) (fun hb => ?_) (fun hb => ?_) <;> (try simp only [decide_eq_true_eq, decide_eq_false_iff_not, beq_iff_eq, beq_eq_false_iff_ne, bne_iff_ne, bne_eq_false_iff_eq, Bool.not_eq_true, Bool.not_eq_false, Bool.not_eq_true', Bool.not_eq_false', ne_eq] at hb) <;> refine wpQ.go 400 (by conv => lhs; cbv) ?_)
        | (refine wpQ.int rfl (Owe.len rfl) fun m hm => ?_; (try rw [lst_len] at hm); refine wpQ.go 400 (by conv => lhs; cbv) ?_)
        | (refine wpQ.int rfl (Owe.ari64 rfl rfl rfl (by omega) (by omega)) fun _ _ => ?_; refine wpQ.go 400 (by conv => lhs; cbv) ?_)
        | (refine wpQ.int rfl (Owe.conv64 rfl (by omega) (by omega)) fun _ _ => ?_; refine wpQ.go 400 (by conv => lhs; cbv) ?_)
        | (refine wpQ.str rfl (Owe.cat rfl rfl (by assumption)) fun _ _ => ?_; refine wpQ.go 400 (by conv => lhs; cbv) ?_)
        | (refine wpQ.exitC ?_; refine wpQ.go 400 (by conv => lhs; cbv) ?_)
        | (refine wpQ.retC ?_; refine wpQ.go 400 (by conv => lhs; cbv) ?_)
        | (refine wpQ.fin (by conv => lhs; cbv) ?_))
      all_goals first
        | (exfalso; omega)
        | (rw [if_pos (by omega)] at h4; rw [h4]; exact Frz.of_eq rfl)
        | (rw [if_neg (by omega)] at h4; refine wpQ.nextC (σ := Int × Int) (_, _) [] ⟨k + 1, by simp only; omega, by omega, by simp only; omega, by simp only; omega, ?_⟩ (by simp only; omega) ⟨⟨.old rfl .v, .old rfl .v, .old rfl .v, trivial⟩, rfl, trivial, rfl, rfl, rfl⟩; rw [h4]; subst_vars; rfl)
    · skip
      repeat' (first
        | (refine wpQ.bif rfl (Owe.bit rfl) (fun hb => ?_) (fun hb => ?_) <;> (try simp only [decide_eq_true_eq, decide_eq_false_iff_not, beq_iff_eq, beq_eq_false_iff_ne, bne_iff_ne, bne_eq_false_iff_eq, Bool.not_eq_true, Bool.not_eq_false, Bool.not_eq_true', Bool.not_eq_false', ne_eq] at hb) <;> refine wpQ.go 400 (by conv => lhs; cbv) ?_)
        | (refine wpQ.int rfl (Owe.len rfl) fun m hm => ?_; (try rw [lst_len] at hm); refine wpQ.go 400 (by conv => lhs; cbv) ?_)
        | (refine wpQ.int rfl (Owe.ari64 rfl rfl rfl (by omega) (by omega)) fun _ _ => ?_; refine wpQ.go 400 (by conv => lhs; cbv) ?_)
        | (refine wpQ.int rfl (Owe.conv64 rfl (by omega) (by omega)) fun _ _ => ?_; refine wpQ.go 400 (by conv => lhs; cbv) ?_)
        | (refine wpQ.str rfl (Owe.cat rfl rfl (by assumption)) fun _ _ => ?_; refine wpQ.go 400 (by conv => lhs; cbv) ?_)
        | (refine wpQ.exitC ?_; refine wpQ.go 400 (by conv => lhs; cbv) ?_)
        | (refine wpQ.retC ?_; refine wpQ.go 400 (by conv => lhs; cbv) ?_)
        | (refine wpQ.fin (by conv => lhs; cbv) ?_))
      all_goals first
        | (exfalso; omega)
        | (rw [h4, List.drop_eq_nil_of_le (by omega)]; exact Frz.of_eq rfl)
end
end Go.Proofs.YtahhaiomdjlckaaDoor
