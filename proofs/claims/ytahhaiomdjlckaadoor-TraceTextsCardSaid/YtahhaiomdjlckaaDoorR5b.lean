/-
  The reference of trace: formed, the way with a rule.
-/
import Derived.Test.YtahhaiomdjlckaaDoorR5
namespace Go.Proofs.YtahhaiomdjlckaaDoor
set_option linter.unusedVariables false
set_option linter.unusedSimpArgs false
open Go.RowKit

section
variable {w0 : World} {ρ : Hd}
set_option maxRecDepth 100000
theorem get_of_add {l : List ByteArray} {a b c d : ByteArray} {k : Nat} : (a :: b :: c :: d :: l)[k + 4]? = l[k]? := rfl
theorem formed_5dnt {q r c d : ByteArray} {ds : List ByteArray} (hq : q.size ≤ 1000000) (hc : c.size ≤ 1000000) (hds : ∀ x ∈ d :: ds, x.size ≤ 1000000) (hlen : ds.length ≤ 1000000) (hr : r.size ≤ 1000000) {vq vr : Int} (hvq : num q = (vq, true)) (hrn : ¬ r.toList = ByteArray.toList ⟨#[45, 49]⟩) (hvr : num r = (vr, true)) (hcc : colon c = true) {vx : Int} (hvx : num (chop c) = (vx, true)) {p : ByteArray} {kk : Int} (hkk : findW p wordsL 0 = kk) (hA : appB kk = true) (hk01 : ¬ (kk = 0 ∨ kk = 1)) (hkd : PCal Tryd.prog w0 39 [strA p] (.v (.int .i64 kk))) (hapk : ∀ (id oc rl : Int) (ids : List Int), PCal Tryd.prog w0 25 [evH ρ ⟨kk, id, oc, rl, ids⟩] (.v (.bool true))) : PCal Tryd.prog w0 28 [lst ρ srow false (p :: q :: r :: c :: d :: ds)] (.tup [evH ρ (formedP (p :: q :: r :: c :: d :: ds)).1, .v (.bool (formedP (p :: q :: r :: c :: d :: ds)).2)]) := by
  have hnq := numberR_h (w0 := w0) q hq
  rw [hvq] at hnq
  have hnr := numberR_h (w0 := w0) r hr
  rw [hvr] at hnr
  have hoc : occ r = (vr, true) := (occ_no hrn).trans hvr
  rw [formedP_5 hkk hk01 hA, hvq, hoc, if_pos (by rfl), if_pos hcc, hvx]
  have hcol : colon c = (decide (c.size ≠ 0) && (c.get! (c.size - 1) == 58)) := rfl
  have hix := @idx_last c
  rw [hcc] at hcol
  have hc0 : c.size ≠ 0 := by
    rintro h; simp [h] at hcol
  have hc58 : c.get! (c.size - 1) = 58 := by
    simpa [hc0] using hcol.symm
  rw [hc58] at hix
  clear hcol
  have hch := chop_size c
  obtain ⟨cc, hcc1⟩ : ∃ x, chop c = x := ⟨_, rfl⟩
  rw [hcc1] at hvx hch
  have hnx := numberR_h (w0 := w0) cc (by omega)
  rw [hvx] at hnx
  have hL : (p :: q :: r :: c :: d :: ds).length = ds.length + 5 := rfl
  refine qf28.pcal (by simp [Tryd.ntmps28]) ((tb_pure (fun e => evH_pure e) _)) ?_
  refine wpQ.go 400 (by conv => lhs; cbv) ?_
  repeat' (first
    | (exfalso; omega)
    | (refine wpQ.op rfl (Owe.ind rfl rfl (lst_idx (k := 0) rfl rfl) (lst_all fun _ => rfl)) ?_; refine wpQ.go 400 (by conv => lhs; cbv) ?_)
    | (refine wpQ.op rfl (Owe.pcall rfl hkd ⟨.v, trivial⟩) ?_; refine wpQ.go 400 (by conv => lhs; cbv) ?_)
    | (refine wpQ.op rfl (Owe.pcallW rfl (hapk _ _ _ []) ⟨evH_pure _, trivial⟩ ⟨wk_ev0, trivial⟩) ?_; refine wpQ.go 400 (by conv => lhs; cbv) ?_)
    | (refine wpQ.op rfl (Owe.ind rfl rfl (lst_idx (k := 1) rfl rfl) (lst_all fun _ => rfl)) ?_; refine wpQ.go 400 (by conv => lhs; cbv) ?_)
    | (refine wpQ.op rfl (Owe.ind rfl rfl (lst_idx (k := 2) rfl rfl) (lst_all fun _ => rfl)) ?_; refine wpQ.go 400 (by conv => lhs; cbv) ?_)
    | (refine wpQ.op rfl (Owe.pcall rfl hnq ⟨.v, trivial⟩) ?_; refine wpQ.go 400 (by conv => lhs; cbv) ?_)
    | (refine wpQ.op rfl (Owe.pcall rfl hnr ⟨.v, trivial⟩) ?_; refine wpQ.go 400 (by conv => lhs; cbv) ?_)
    | (exact absurd (by assumption) hrn)
    | (exact absurd rfl (show ¬ Int.ofNat 58 = 58 from hb))
    | (refine wpQ.op rfl (Owe.indS rfl rfl (hix (by omega) (by omega))) ?_; refine wpQ.go 400 (by conv => lhs; cbv) ?_)
    | (refine wpQ.op rfl (Owe.ind rfl rfl (lst_idx (k := 3) rfl rfl) (lst_all fun _ => rfl)) ?_; refine wpQ.go 400 (by conv => lhs; cbv) ?_)
    | (refine wpQ.str rfl (Owe.sliS (l := 0) rfl rfl rfl (by omega) (by omega) (by omega)) fun x hx => ?_; obtain rfl : x = cc := (hx.trans (by unfold chop; congr 1; omega)).trans hcc1; refine wpQ.go 400 (by conv => lhs; cbv) ?_)
    | (refine wpQ.op rfl (Owe.pcall rfl hnx ⟨.v, trivial⟩) ?_; refine wpQ.go 400 (by conv => lhs; cbv) ?_)
    | (refine wpQ.bif rfl (Owe.bit rfl) (fun hb => ?_) (fun hb => ?_) <;> (try simp only [decide_eq_true_eq, decide_eq_false_iff_not, beq_iff_eq, beq_eq_false_iff_ne, bne_iff_ne, bne_eq_false_iff_eq, Bool.not_eq_true, Bool.not_eq_false, Bool.not_eq_true', Bool.not_eq_false', ne_eq] at hb) <;> refine wpQ.go 400 (by conv => lhs; cbv) ?_)
    | (refine wpQ.int rfl (Owe.len rfl) fun m hm => ?_; (try rw [lst_len] at hm); refine wpQ.go 400 (by conv => lhs; cbv) ?_)
    | (refine wpQ.int rfl (Owe.ari64 rfl rfl rfl (by omega) (by omega)) fun _ _ => ?_; refine wpQ.go 400 (by conv => lhs; cbv) ?_)
    | (refine wpQ.int rfl (Owe.conv64 rfl (by omega) (by omega)) fun _ _ => ?_; refine wpQ.go 400 (by conv => lhs; cbv) ?_)
    | (refine wpQ.str rfl (Owe.cat rfl rfl (by assumption)) fun _ _ => ?_; refine wpQ.go 400 (by conv => lhs; cbv) ?_)
    | (refine wpQ.exitC ?_; refine wpQ.go 400 (by conv => lhs; cbv) ?_)
    | (refine wpQ.retC ?_; refine wpQ.go 400 (by conv => lhs; cbv) ?_)
    | (refine wpQ.fin (by conv => lhs; cbv) ?_))
  obtain ⟨D, hD⟩ : ∃ D, d :: ds = D := ⟨_, rfl⟩
  have hDl : D.length = ds.length + 1 := by rw [← hD]; rfl
  rw [hD] at hds ⊢
  refine wpQ.loopC (σ := Int × Bool × Nat × List Int) 2 3 [] (fun t => [(0, lst ρ srow false (p :: q :: r :: c :: D)), (2, .pt 0 5 0 0), (4, .pt 1 5 0 0), (11, .v (.bool t.2.1)), (12, .v (.int .i64 t.1))]) []
    (fun t => (0, .arr 5 [[iv 0, iv 0, iv 0, iv 0, .sl true []]] 0 true) :: (1, .arr 5 [[iv kk, iv vq, iv vr, iv vx, accA 2 1 t.2.2.1]] 0 true) :: accO ρ irow 2 1 t.2.2.2 t.2.2.1)
    (fun t => t.2.2.1 = t.2.2.2.length ∧ ∃ k : Nat, t.1 = k + 4 ∧ k ≤ D.length ∧ t.2.2.1 = k ∧ t.2.2.2 = (D.take k).map (fun s => (num s).1) ∧ t.2.1 = (true && (D.take k).all fun s => (num s).2)) (fun t => D.length + 4 - t.1.toNat) (4, true, 0, [])
    ⟨rfl, 0, rfl, by simp, rfl, by simp, by simp⟩ rfl
    ⟨⟨.old rfl ((strs_pure _).klt), .old rfl (.pt (by decide)), .old rfl (.pt (by decide)), .old rfl .v, .old rfl .v, trivial⟩, rfl, ⟨⟨_, rfl, .same (kob5)⟩, ⟨⟨_, rfl, .same (kob5)⟩, trivial⟩⟩, rfl, rfl, rfl⟩ ?_
  rintro ⟨i, ok, n, acc⟩ ⟨hn, k, hi, hk, hnk, hacc, hok⟩
  simp only at hn hi hnk hacc hok
  have hL2 : (p :: q :: r :: c :: D).length = D.length + 4 := rfl
  by_cases hlt : k < D.length
  · obtain ⟨x, hx⟩ : ∃ x, D[k]? = some x := ⟨_, List.getElem?_eq_getElem hlt⟩
    have htk : D.take (k + 1) = D.take k ++ [x] := by
      rw [List.take_add_one, hx]; rfl
    have hnz := numberR_h (w0 := w0) x (hds x (List.mem_of_getElem? hx))
    obtain ⟨⟨vz, bz⟩, hz⟩ : ∃ z, num x = z := ⟨_, rfl⟩
    rw [hz] at hnz
    have hix2 : (p :: q :: r :: c :: D)[k + 4]? = some x := by rw [get_of_add]; exact hx
    cases n with
    | zero =>
      cases ok <;> cases bz
      all_goals
        refine wpQ.go 400 (by conv => lhs; cbv) ?_
        repeat' (first
          | (refine wpQ.op rfl (Owe.ind rfl rfl (lst_idx (k := k + 4) hi hix2) (lst_all fun _ => rfl)) ?_; refine wpQ.go 400 (by conv => lhs; cbv) ?_)
          | (refine wpQ.op rfl (Owe.pcall rfl hnz ⟨.v, trivial⟩) ?_; refine wpQ.go 400 (by conv => lhs; cbv) ?_)
          | (refine wpQ.appN ρ irow rfl rfl rfl rfl (by decide) fun acc' hacc' => ?_; refine wpQ.go 400 (by conv => lhs; cbv) ?_)
          | (exfalso; omega)
          | (refine wpQ.bif rfl (Owe.bit rfl) (fun hb => ?_) (fun hb => ?_) <;> (try simp only [decide_eq_true_eq, decide_eq_false_iff_not, beq_iff_eq, beq_eq_false_iff_ne, bne_iff_ne, bne_eq_false_iff_eq, Bool.not_eq_true, Bool.not_eq_false, Bool.not_eq_true', Bool.not_eq_false', ne_eq] at hb) <;> refine wpQ.go 400 (by conv => lhs; cbv) ?_)
          | (refine wpQ.int rfl (Owe.len rfl) fun m hm => ?_; (try rw [lst_len] at hm); refine wpQ.go 400 (by conv => lhs; cbv) ?_)
          | (refine wpQ.int rfl (Owe.ari64 rfl rfl rfl (by omega) (by omega)) fun _ _ => ?_; refine wpQ.go 400 (by conv => lhs; cbv) ?_)
          | (refine wpQ.int rfl (Owe.conv64 rfl (by omega) (by omega)) fun _ _ => ?_; refine wpQ.go 400 (by conv => lhs; cbv) ?_)
          | (refine wpQ.str rfl (Owe.cat rfl rfl (by assumption)) fun _ _ => ?_; refine wpQ.go 400 (by conv => lhs; cbv) ?_)
          | (refine wpQ.exitC ?_; refine wpQ.go 400 (by conv => lhs; cbv) ?_)
          | (refine wpQ.retC ?_; refine wpQ.go 400 (by conv => lhs; cbv) ?_)
          | (refine wpQ.fin (by conv => lhs; cbv) ?_))
        refine wpQ.nextC (σ := Int × Bool × Nat × List Int) (_, _, 1, _) [(2, 3)] ⟨by simp [hacc'], k + 1, by simp only; omega, by omega, by simp only; omega, ?_, ?_⟩ (by simp only; omega) ⟨⟨.old rfl ((strs_pure _).klt), .old rfl (.pt (by decide)), .old rfl (.pt (by decide)), .old rfl .v, .old rfl .v, trivial⟩, rfl, ⟨⟨_, rfl, .same (kob5)⟩, ⟨⟨_, rfl, .arr ⟨⟨.old .v, .old .v, .old .v, .old .v, .new rfl rfl, trivial⟩, trivial⟩⟩, ⟨⟨_, rfl, .same (kob_lst fun x _ => irow_p x)⟩, trivial⟩⟩⟩, rfl, rfl, rfl⟩
        · rw [htk, List.map_append, ← hacc, hacc', List.eq_nil_of_length_eq_zero hn.symm]; simp [hz]
        · rw [htk, List.all_append, ← Bool.and_assoc, ← hok]; simp [hz]
    | succ n =>
      cases ok <;> cases bz
      all_goals
        refine wpQ.go 400 (by conv => lhs; cbv) ?_
        repeat' (first
          | (refine wpQ.op rfl (Owe.ind rfl rfl (lst_idx (k := k + 4) hi hix2) (lst_all fun _ => rfl)) ?_; refine wpQ.go 400 (by conv => lhs; cbv) ?_)
          | (refine wpQ.op rfl (Owe.pcall rfl hnz ⟨.v, trivial⟩) ?_; refine wpQ.go 400 (by conv => lhs; cbv) ?_)
          | (refine wpQ.appC (ρ := ρ) (f := irow) (acc := acc) rfl rfl rfl hn rfl rfl rfl (by omega) fun acc' hacc' => ?_; refine wpQ.go 400 (by conv => lhs; cbv) ?_)
          | (exfalso; omega)
          | (refine wpQ.bif rfl (Owe.bit rfl) (fun hb => ?_) (fun hb => ?_) <;> (try simp only [decide_eq_true_eq, decide_eq_false_iff_not, beq_iff_eq, beq_eq_false_iff_ne, bne_iff_ne, bne_eq_false_iff_eq, Bool.not_eq_true, Bool.not_eq_false, Bool.not_eq_true', Bool.not_eq_false', ne_eq] at hb) <;> refine wpQ.go 400 (by conv => lhs; cbv) ?_)
          | (refine wpQ.int rfl (Owe.len rfl) fun m hm => ?_; (try rw [lst_len] at hm); refine wpQ.go 400 (by conv => lhs; cbv) ?_)
          | (refine wpQ.int rfl (Owe.ari64 rfl rfl rfl (by omega) (by omega)) fun _ _ => ?_; refine wpQ.go 400 (by conv => lhs; cbv) ?_)
          | (refine wpQ.int rfl (Owe.conv64 rfl (by omega) (by omega)) fun _ _ => ?_; refine wpQ.go 400 (by conv => lhs; cbv) ?_)
          | (refine wpQ.str rfl (Owe.cat rfl rfl (by assumption)) fun _ _ => ?_; refine wpQ.go 400 (by conv => lhs; cbv) ?_)
          | (refine wpQ.exitC ?_; refine wpQ.go 400 (by conv => lhs; cbv) ?_)
          | (refine wpQ.retC ?_; refine wpQ.go 400 (by conv => lhs; cbv) ?_)
          | (refine wpQ.fin (by conv => lhs; cbv) ?_))
        refine wpQ.nextC (σ := Int × Bool × Nat × List Int) (_, _, n + 2, _) [(2, 3)] ⟨by simp [hacc']; omega, k + 1, by simp only; omega, by omega, by simp only; omega, ?_, ?_⟩ (by simp only; omega) ⟨⟨.old rfl ((strs_pure _).klt), .old rfl (.pt (by decide)), .old rfl (.pt (by decide)), .old rfl .v, .old rfl .v, trivial⟩, rfl, ⟨⟨_, rfl, .same (kob5)⟩, ⟨⟨_, rfl, .arr ⟨⟨.old .v, .old .v, .old .v, .old .v, .new rfl rfl, trivial⟩, trivial⟩⟩, ⟨⟨_, rfl, .same (kob_lst fun x _ => irow_p x)⟩, trivial⟩⟩⟩, rfl, rfl, rfl⟩
        · rw [htk, List.map_append, ← hacc, hacc']; simp [hz]
        · rw [htk, List.all_append, ← Bool.and_assoc, ← hok]; simp [hz]
  · have hkD : k = D.length := by omega
    rw [hkD, List.take_length] at hacc hok
    cases n with
    | zero => exfalso; omega
    | succ n =>
      refine wpQ.go 400 (by conv => lhs; cbv) ?_
      repeat' (first
        | (exfalso; omega)
        | (refine wpQ.bif rfl (Owe.bit rfl) (fun hb => ?_) (fun hb => ?_) <;> (try simp only [decide_eq_true_eq, decide_eq_false_iff_not, beq_iff_eq, beq_eq_false_iff_ne, bne_iff_ne, bne_eq_false_iff_eq, Bool.not_eq_true, Bool.not_eq_false, Bool.not_eq_true', Bool.not_eq_false', ne_eq] at hb) <;> refine wpQ.go 400 (by conv => lhs; cbv) ?_)
        | (refine wpQ.int rfl (Owe.len rfl) fun m hm => ?_; (try rw [lst_len] at hm); refine wpQ.go 400 (by conv => lhs; cbv) ?_)
        | (refine wpQ.int rfl (Owe.ari64 rfl rfl rfl (by omega) (by omega)) fun _ _ => ?_; refine wpQ.go 400 (by conv => lhs; cbv) ?_)
        | (refine wpQ.int rfl (Owe.conv64 rfl (by omega) (by omega)) fun _ _ => ?_; refine wpQ.go 400 (by conv => lhs; cbv) ?_)
        | (refine wpQ.str rfl (Owe.cat rfl rfl (by assumption)) fun _ _ => ?_; refine wpQ.go 400 (by conv => lhs; cbv) ?_)
        | (refine wpQ.exitC ?_; refine wpQ.go 400 (by conv => lhs; cbv) ?_)
        | (refine wpQ.retC ?_; refine wpQ.go 400 (by conv => lhs; cbv) ?_)
        | (refine wpQ.fin (by conv => lhs; cbv) ?_))
      all_goals
        rw [← hacc, ← hok]
        exact frz_tup2 (frz_evC (Frz.accC rfl hn)) (.refl _)
theorem formed_5dnf {q r c d : ByteArray} {ds : List ByteArray} (hq : q.size ≤ 1000000) (hc : c.size ≤ 1000000) (hds : ∀ x ∈ d :: ds, x.size ≤ 1000000) (hlen : ds.length ≤ 1000000) (hr : r.size ≤ 1000000) {vq vr : Int} (hvq : num q = (vq, true)) (hrn : ¬ r.toList = ByteArray.toList ⟨#[45, 49]⟩) (hvr : num r = (vr, true)) (hcc : colon c = true) {vx : Int} (hvx : num (chop c) = (vx, false)) {p : ByteArray} {kk : Int} (hkk : findW p wordsL 0 = kk) (hA : appB kk = true) (hk01 : ¬ (kk = 0 ∨ kk = 1)) (hkd : PCal Tryd.prog w0 39 [strA p] (.v (.int .i64 kk))) (hapk : ∀ (id oc rl : Int) (ids : List Int), PCal Tryd.prog w0 25 [evH ρ ⟨kk, id, oc, rl, ids⟩] (.v (.bool true))) : PCal Tryd.prog w0 28 [lst ρ srow false (p :: q :: r :: c :: d :: ds)] (.tup [evH ρ (formedP (p :: q :: r :: c :: d :: ds)).1, .v (.bool (formedP (p :: q :: r :: c :: d :: ds)).2)]) := by
  have hnq := numberR_h (w0 := w0) q hq
  rw [hvq] at hnq
  have hnr := numberR_h (w0 := w0) r hr
  rw [hvr] at hnr
  have hoc : occ r = (vr, true) := (occ_no hrn).trans hvr
  rw [formedP_5 hkk hk01 hA, hvq, hoc, if_pos (by rfl), if_pos hcc, hvx]
  have hcol : colon c = (decide (c.size ≠ 0) && (c.get! (c.size - 1) == 58)) := rfl
  have hix := @idx_last c
  rw [hcc] at hcol
  have hc0 : c.size ≠ 0 := by
    rintro h; simp [h] at hcol
  have hc58 : c.get! (c.size - 1) = 58 := by
    simpa [hc0] using hcol.symm
  rw [hc58] at hix
  clear hcol
  have hch := chop_size c
  obtain ⟨cc, hcc1⟩ : ∃ x, chop c = x := ⟨_, rfl⟩
  rw [hcc1] at hvx hch
  have hnx := numberR_h (w0 := w0) cc (by omega)
  rw [hvx] at hnx
  have hL : (p :: q :: r :: c :: d :: ds).length = ds.length + 5 := rfl
  refine qf28.pcal (by simp [Tryd.ntmps28]) ((tb_pure (fun e => evH_pure e) _)) ?_
  refine wpQ.go 400 (by conv => lhs; cbv) ?_
  repeat' (first
    | (exfalso; omega)
    | (refine wpQ.op rfl (Owe.ind rfl rfl (lst_idx (k := 0) rfl rfl) (lst_all fun _ => rfl)) ?_; refine wpQ.go 400 (by conv => lhs; cbv) ?_)
    | (refine wpQ.op rfl (Owe.pcall rfl hkd ⟨.v, trivial⟩) ?_; refine wpQ.go 400 (by conv => lhs; cbv) ?_)
    | (refine wpQ.op rfl (Owe.pcallW rfl (hapk _ _ _ []) ⟨evH_pure _, trivial⟩ ⟨wk_ev0, trivial⟩) ?_; refine wpQ.go 400 (by conv => lhs; cbv) ?_)
    | (refine wpQ.op rfl (Owe.ind rfl rfl (lst_idx (k := 1) rfl rfl) (lst_all fun _ => rfl)) ?_; refine wpQ.go 400 (by conv => lhs; cbv) ?_)
    | (refine wpQ.op rfl (Owe.ind rfl rfl (lst_idx (k := 2) rfl rfl) (lst_all fun _ => rfl)) ?_; refine wpQ.go 400 (by conv => lhs; cbv) ?_)
    | (refine wpQ.op rfl (Owe.pcall rfl hnq ⟨.v, trivial⟩) ?_; refine wpQ.go 400 (by conv => lhs; cbv) ?_)
    | (refine wpQ.op rfl (Owe.pcall rfl hnr ⟨.v, trivial⟩) ?_; refine wpQ.go 400 (by conv => lhs; cbv) ?_)
    | (exact absurd (by assumption) hrn)
    | (exact absurd rfl (show ¬ Int.ofNat 58 = 58 from hb))
    | (refine wpQ.op rfl (Owe.indS rfl rfl (hix (by omega) (by omega))) ?_; refine wpQ.go 400 (by conv => lhs; cbv) ?_)
    | (refine wpQ.op rfl (Owe.ind rfl rfl (lst_idx (k := 3) rfl rfl) (lst_all fun _ => rfl)) ?_; refine wpQ.go 400 (by conv => lhs; cbv) ?_)
    | (refine wpQ.str rfl (Owe.sliS (l := 0) rfl rfl rfl (by omega) (by omega) (by omega)) fun x hx => ?_; obtain rfl : x = cc := (hx.trans (by unfold chop; congr 1; omega)).trans hcc1; refine wpQ.go 400 (by conv => lhs; cbv) ?_)
    | (refine wpQ.op rfl (Owe.pcall rfl hnx ⟨.v, trivial⟩) ?_; refine wpQ.go 400 (by conv => lhs; cbv) ?_)
    | (refine wpQ.bif rfl (Owe.bit rfl) (fun hb => ?_) (fun hb => ?_) <;> (try simp only [decide_eq_true_eq, decide_eq_false_iff_not, beq_iff_eq, beq_eq_false_iff_ne, bne_iff_ne, bne_eq_false_iff_eq, Bool.not_eq_true, Bool.not_eq_false, Bool.not_eq_true', Bool.not_eq_false', ne_eq] at hb) <;> refine wpQ.go 400 (by conv => lhs; cbv) ?_)
    | (refine wpQ.int rfl (Owe.len rfl) fun m hm => ?_; (try rw [lst_len] at hm); refine wpQ.go 400 (by conv => lhs; cbv) ?_)
    | (refine wpQ.int rfl (Owe.ari64 rfl rfl rfl (by omega) (by omega)) fun _ _ => ?_; refine wpQ.go 400 (by conv => lhs; cbv) ?_)
    | (refine wpQ.int rfl (Owe.conv64 rfl (by omega) (by omega)) fun _ _ => ?_; refine wpQ.go 400 (by conv => lhs; cbv) ?_)
    | (refine wpQ.str rfl (Owe.cat rfl rfl (by assumption)) fun _ _ => ?_; refine wpQ.go 400 (by conv => lhs; cbv) ?_)
    | (refine wpQ.exitC ?_; refine wpQ.go 400 (by conv => lhs; cbv) ?_)
    | (refine wpQ.retC ?_; refine wpQ.go 400 (by conv => lhs; cbv) ?_)
    | (refine wpQ.fin (by conv => lhs; cbv) ?_))
  obtain ⟨D, hD⟩ : ∃ D, d :: ds = D := ⟨_, rfl⟩
  have hDl : D.length = ds.length + 1 := by rw [← hD]; rfl
  rw [hD] at hds ⊢
  refine wpQ.loopC (σ := Int × Bool × Nat × List Int) 2 3 [] (fun t => [(0, lst ρ srow false (p :: q :: r :: c :: D)), (2, .pt 0 5 0 0), (4, .pt 1 5 0 0), (11, .v (.bool t.2.1)), (12, .v (.int .i64 t.1))]) []
    (fun t => (0, .arr 5 [[iv 0, iv 0, iv 0, iv 0, .sl true []]] 0 true) :: (1, .arr 5 [[iv kk, iv vq, iv vr, iv vx, accA 2 1 t.2.2.1]] 0 true) :: accO ρ irow 2 1 t.2.2.2 t.2.2.1)
    (fun t => t.2.2.1 = t.2.2.2.length ∧ ∃ k : Nat, t.1 = k + 4 ∧ k ≤ D.length ∧ t.2.2.1 = k ∧ t.2.2.2 = (D.take k).map (fun s => (num s).1) ∧ t.2.1 = (false && (D.take k).all fun s => (num s).2)) (fun t => D.length + 4 - t.1.toNat) (4, false, 0, [])
    ⟨rfl, 0, rfl, by simp, rfl, by simp, by simp⟩ rfl
    ⟨⟨.old rfl ((strs_pure _).klt), .old rfl (.pt (by decide)), .old rfl (.pt (by decide)), .old rfl .v, .old rfl .v, trivial⟩, rfl, ⟨⟨_, rfl, .same (kob5)⟩, ⟨⟨_, rfl, .same (kob5)⟩, trivial⟩⟩, rfl, rfl, rfl⟩ ?_
  rintro ⟨i, ok, n, acc⟩ ⟨hn, k, hi, hk, hnk, hacc, hok⟩
  simp only at hn hi hnk hacc hok
  have hL2 : (p :: q :: r :: c :: D).length = D.length + 4 := rfl
  by_cases hlt : k < D.length
  · obtain ⟨x, hx⟩ : ∃ x, D[k]? = some x := ⟨_, List.getElem?_eq_getElem hlt⟩
    have htk : D.take (k + 1) = D.take k ++ [x] := by
      rw [List.take_add_one, hx]; rfl
    have hnz := numberR_h (w0 := w0) x (hds x (List.mem_of_getElem? hx))
    obtain ⟨⟨vz, bz⟩, hz⟩ : ∃ z, num x = z := ⟨_, rfl⟩
    rw [hz] at hnz
    have hix2 : (p :: q :: r :: c :: D)[k + 4]? = some x := by rw [get_of_add]; exact hx
    cases n with
    | zero =>
      cases ok <;> cases bz
      all_goals
        refine wpQ.go 400 (by conv => lhs; cbv) ?_
        repeat' (first
          | (refine wpQ.op rfl (Owe.ind rfl rfl (lst_idx (k := k + 4) hi hix2) (lst_all fun _ => rfl)) ?_; refine wpQ.go 400 (by conv => lhs; cbv) ?_)
          | (refine wpQ.op rfl (Owe.pcall rfl hnz ⟨.v, trivial⟩) ?_; refine wpQ.go 400 (by conv => lhs; cbv) ?_)
          | (refine wpQ.appN ρ irow rfl rfl rfl rfl (by decide) fun acc' hacc' => ?_; refine wpQ.go 400 (by conv => lhs; cbv) ?_)
          | (exfalso; omega)
          | (refine wpQ.bif rfl (Owe.bit rfl) (fun hb => ?_) (fun hb => ?_) <;> (try simp only [decide_eq_true_eq, decide_eq_false_iff_not, beq_iff_eq, beq_eq_false_iff_ne, bne_iff_ne, bne_eq_false_iff_eq, Bool.not_eq_true, Bool.not_eq_false, Bool.not_eq_true', Bool.not_eq_false', ne_eq] at hb) <;> refine wpQ.go 400 (by conv => lhs; cbv) ?_)
          | (refine wpQ.int rfl (Owe.len rfl) fun m hm => ?_; (try rw [lst_len] at hm); refine wpQ.go 400 (by conv => lhs; cbv) ?_)
          | (refine wpQ.int rfl (Owe.ari64 rfl rfl rfl (by omega) (by omega)) fun _ _ => ?_; refine wpQ.go 400 (by conv => lhs; cbv) ?_)
          | (refine wpQ.int rfl (Owe.conv64 rfl (by omega) (by omega)) fun _ _ => ?_; refine wpQ.go 400 (by conv => lhs; cbv) ?_)
          | (refine wpQ.str rfl (Owe.cat rfl rfl (by assumption)) fun _ _ => ?_; refine wpQ.go 400 (by conv => lhs; cbv) ?_)
          | (refine wpQ.exitC ?_; refine wpQ.go 400 (by conv => lhs; cbv) ?_)
          | (refine wpQ.retC ?_; refine wpQ.go 400 (by conv => lhs; cbv) ?_)
          | (refine wpQ.fin (by conv => lhs; cbv) ?_))
        refine wpQ.nextC (σ := Int × Bool × Nat × List Int) (_, _, 1, _) [(2, 3)] ⟨by simp [hacc'], k + 1, by simp only; omega, by omega, by simp only; omega, ?_, ?_⟩ (by simp only; omega) ⟨⟨.old rfl ((strs_pure _).klt), .old rfl (.pt (by decide)), .old rfl (.pt (by decide)), .old rfl .v, .old rfl .v, trivial⟩, rfl, ⟨⟨_, rfl, .same (kob5)⟩, ⟨⟨_, rfl, .arr ⟨⟨.old .v, .old .v, .old .v, .old .v, .new rfl rfl, trivial⟩, trivial⟩⟩, ⟨⟨_, rfl, .same (kob_lst fun x _ => irow_p x)⟩, trivial⟩⟩⟩, rfl, rfl, rfl⟩
        · rw [htk, List.map_append, ← hacc, hacc', List.eq_nil_of_length_eq_zero hn.symm]; simp [hz]
        · rw [htk, List.all_append, ← Bool.and_assoc, ← hok]; simp [hz]
    | succ n =>
      cases ok <;> cases bz
      all_goals
        refine wpQ.go 400 (by conv => lhs; cbv) ?_
        repeat' (first
          | (refine wpQ.op rfl (Owe.ind rfl rfl (lst_idx (k := k + 4) hi hix2) (lst_all fun _ => rfl)) ?_; refine wpQ.go 400 (by conv => lhs; cbv) ?_)
          | (refine wpQ.op rfl (Owe.pcall rfl hnz ⟨.v, trivial⟩) ?_; refine wpQ.go 400 (by conv => lhs; cbv) ?_)
          | (refine wpQ.appC (ρ := ρ) (f := irow) (acc := acc) rfl rfl rfl hn rfl rfl rfl (by omega) fun acc' hacc' => ?_; refine wpQ.go 400 (by conv => lhs; cbv) ?_)
          | (exfalso; omega)
          | (refine wpQ.bif rfl (Owe.bit rfl) (fun hb => ?_) (fun hb => ?_) <;> (try simp only [decide_eq_true_eq, decide_eq_false_iff_not, beq_iff_eq, beq_eq_false_iff_ne, bne_iff_ne, bne_eq_false_iff_eq, Bool.not_eq_true, Bool.not_eq_false, Bool.not_eq_true', Bool.not_eq_false', ne_eq] at hb) <;> refine wpQ.go 400 (by conv => lhs; cbv) ?_)
          | (refine wpQ.int rfl (Owe.len rfl) fun m hm => ?_; (try rw [lst_len] at hm); refine wpQ.go 400 (by conv => lhs; cbv) ?_)
          | (refine wpQ.int rfl (Owe.ari64 rfl rfl rfl (by omega) (by omega)) fun _ _ => ?_; refine wpQ.go 400 (by conv => lhs; cbv) ?_)
          | (refine wpQ.int rfl (Owe.conv64 rfl (by omega) (by omega)) fun _ _ => ?_; refine wpQ.go 400 (by conv => lhs; cbv) ?_)
          | (refine wpQ.str rfl (Owe.cat rfl rfl (by assumption)) fun _ _ => ?_; refine wpQ.go 400 (by conv => lhs; cbv) ?_)
          | (refine wpQ.exitC ?_; refine wpQ.go 400 (by conv => lhs; cbv) ?_)
          | (refine wpQ.retC ?_; refine wpQ.go 400 (by conv => lhs; cbv) ?_)
          | (refine wpQ.fin (by conv => lhs; cbv) ?_))
        refine wpQ.nextC (σ := Int × Bool × Nat × List Int) (_, _, n + 2, _) [(2, 3)] ⟨by simp [hacc']; omega, k + 1, by simp only; omega, by omega, by simp only; omega, ?_, ?_⟩ (by simp only; omega) ⟨⟨.old rfl ((strs_pure _).klt), .old rfl (.pt (by decide)), .old rfl (.pt (by decide)), .old rfl .v, .old rfl .v, trivial⟩, rfl, ⟨⟨_, rfl, .same (kob5)⟩, ⟨⟨_, rfl, .arr ⟨⟨.old .v, .old .v, .old .v, .old .v, .new rfl rfl, trivial⟩, trivial⟩⟩, ⟨⟨_, rfl, .same (kob_lst fun x _ => irow_p x)⟩, trivial⟩⟩⟩, rfl, rfl, rfl⟩
        · rw [htk, List.map_append, ← hacc, hacc']; simp [hz]
        · rw [htk, List.all_append, ← Bool.and_assoc, ← hok]; simp [hz]
  · have hkD : k = D.length := by omega
    rw [hkD, List.take_length] at hacc hok
    cases n with
    | zero => exfalso; omega
    | succ n =>
      refine wpQ.go 400 (by conv => lhs; cbv) ?_
      repeat' (first
        | (exfalso; omega)
        | (refine wpQ.bif rfl (Owe.bit rfl) (fun hb => ?_) (fun hb => ?_) <;> (try simp only [decide_eq_true_eq, decide_eq_false_iff_not, beq_iff_eq, beq_eq_false_iff_ne, bne_iff_ne, bne_eq_false_iff_eq, Bool.not_eq_true, Bool.not_eq_false, Bool.not_eq_true', Bool.not_eq_false', ne_eq] at hb) <;> refine wpQ.go 400 (by conv => lhs; cbv) ?_)
        | (refine wpQ.int rfl (Owe.len rfl) fun m hm => ?_; (try rw [lst_len] at hm); refine wpQ.go 400 (by conv => lhs; cbv) ?_)
        | (refine wpQ.int rfl (Owe.ari64 rfl rfl rfl (by omega) (by omega)) fun _ _ => ?_; refine wpQ.go 400 (by conv => lhs; cbv) ?_)
        | (refine wpQ.int rfl (Owe.conv64 rfl (by omega) (by omega)) fun _ _ => ?_; refine wpQ.go 400 (by conv => lhs; cbv) ?_)
        | (refine wpQ.str rfl (Owe.cat rfl rfl (by assumption)) fun _ _ => ?_; refine wpQ.go 400 (by conv => lhs; cbv) ?_)
        | (refine wpQ.exitC ?_; refine wpQ.go 400 (by conv => lhs; cbv) ?_)
        | (refine wpQ.retC ?_; refine wpQ.go 400 (by conv => lhs; cbv) ?_)
        | (refine wpQ.fin (by conv => lhs; cbv) ?_))
      all_goals
        rw [← hacc, ← hok]
        exact frz_tup2 (frz_evC (Frz.accC rfl hn)) (.refl _)
theorem formed_5dmt {q r c d : ByteArray} {ds : List ByteArray} (hq : q.size ≤ 1000000) (hc : c.size ≤ 1000000) (hds : ∀ x ∈ d :: ds, x.size ≤ 1000000) (hlen : ds.length ≤ 1000000) (hr : r.size ≤ 1000000) {vq : Int} (hvq : num q = (vq, true)) (hrm : r.toList = ByteArray.toList ⟨#[45, 49]⟩) (hcc : colon c = true) {vx : Int} (hvx : num (chop c) = (vx, true)) {p : ByteArray} {kk : Int} (hkk : findW p wordsL 0 = kk) (hA : appB kk = true) (hk01 : ¬ (kk = 0 ∨ kk = 1)) (hkd : PCal Tryd.prog w0 39 [strA p] (.v (.int .i64 kk))) (hapk : ∀ (id oc rl : Int) (ids : List Int), PCal Tryd.prog w0 25 [evH ρ ⟨kk, id, oc, rl, ids⟩] (.v (.bool true))) : PCal Tryd.prog w0 28 [lst ρ srow false (p :: q :: r :: c :: d :: ds)] (.tup [evH ρ (formedP (p :: q :: r :: c :: d :: ds)).1, .v (.bool (formedP (p :: q :: r :: c :: d :: ds)).2)]) := by
  have hnq := numberR_h (w0 := w0) q hq
  rw [hvq] at hnq
  have hvr : num r = (0, false) := by
    rw [ba_eq hrm]; cbv
  have hnr := numberR_h (w0 := w0) r hr
  rw [hvr] at hnr
  have hoc : occ r = (-1, true) := occ_yes hrm
  rw [formedP_5 hkk hk01 hA, hvq, hoc, if_pos (by rfl), if_pos hcc, hvx]
  have hcol : colon c = (decide (c.size ≠ 0) && (c.get! (c.size - 1) == 58)) := rfl
  have hix := @idx_last c
  rw [hcc] at hcol
  have hc0 : c.size ≠ 0 := by
    rintro h; simp [h] at hcol
  have hc58 : c.get! (c.size - 1) = 58 := by
    simpa [hc0] using hcol.symm
  rw [hc58] at hix
  clear hcol
  have hch := chop_size c
  obtain ⟨cc, hcc1⟩ : ∃ x, chop c = x := ⟨_, rfl⟩
  rw [hcc1] at hvx hch
  have hnx := numberR_h (w0 := w0) cc (by omega)
  rw [hvx] at hnx
  have hL : (p :: q :: r :: c :: d :: ds).length = ds.length + 5 := rfl
  refine qf28.pcal (by simp [Tryd.ntmps28]) ((tb_pure (fun e => evH_pure e) _)) ?_
  refine wpQ.go 400 (by conv => lhs; cbv) ?_
  repeat' (first
    | (exfalso; omega)
    | (refine wpQ.op rfl (Owe.ind rfl rfl (lst_idx (k := 0) rfl rfl) (lst_all fun _ => rfl)) ?_; refine wpQ.go 400 (by conv => lhs; cbv) ?_)
    | (refine wpQ.op rfl (Owe.pcall rfl hkd ⟨.v, trivial⟩) ?_; refine wpQ.go 400 (by conv => lhs; cbv) ?_)
    | (refine wpQ.op rfl (Owe.pcallW rfl (hapk _ _ _ []) ⟨evH_pure _, trivial⟩ ⟨wk_ev0, trivial⟩) ?_; refine wpQ.go 400 (by conv => lhs; cbv) ?_)
    | (refine wpQ.op rfl (Owe.ind rfl rfl (lst_idx (k := 1) rfl rfl) (lst_all fun _ => rfl)) ?_; refine wpQ.go 400 (by conv => lhs; cbv) ?_)
    | (refine wpQ.op rfl (Owe.ind rfl rfl (lst_idx (k := 2) rfl rfl) (lst_all fun _ => rfl)) ?_; refine wpQ.go 400 (by conv => lhs; cbv) ?_)
    | (refine wpQ.op rfl (Owe.pcall rfl hnq ⟨.v, trivial⟩) ?_; refine wpQ.go 400 (by conv => lhs; cbv) ?_)
    | (refine wpQ.op rfl (Owe.pcall rfl hnr ⟨.v, trivial⟩) ?_; refine wpQ.go 400 (by conv => lhs; cbv) ?_)
    | (exact absurd hrm (by assumption))
    | (exact absurd rfl (show ¬ Int.ofNat 58 = 58 from hb))
    | (refine wpQ.op rfl (Owe.indS rfl rfl (hix (by omega) (by omega))) ?_; refine wpQ.go 400 (by conv => lhs; cbv) ?_)
    | (refine wpQ.op rfl (Owe.ind rfl rfl (lst_idx (k := 3) rfl rfl) (lst_all fun _ => rfl)) ?_; refine wpQ.go 400 (by conv => lhs; cbv) ?_)
    | (refine wpQ.str rfl (Owe.sliS (l := 0) rfl rfl rfl (by omega) (by omega) (by omega)) fun x hx => ?_; obtain rfl : x = cc := (hx.trans (by unfold chop; congr 1; omega)).trans hcc1; refine wpQ.go 400 (by conv => lhs; cbv) ?_)
    | (refine wpQ.op rfl (Owe.pcall rfl hnx ⟨.v, trivial⟩) ?_; refine wpQ.go 400 (by conv => lhs; cbv) ?_)
    | (refine wpQ.bif rfl (Owe.bit rfl) (fun hb => ?_) (fun hb => ?_) <;> (try simp only [decide_eq_true_eq, decide_eq_false_iff_not, beq_iff_eq, beq_eq_false_iff_ne, bne_iff_ne, bne_eq_false_iff_eq, Bool.not_eq_true, Bool.not_eq_false, Bool.not_eq_true', Bool.not_eq_false', ne_eq] at hb) <;> refine wpQ.go 400 (by conv => lhs; cbv) ?_)
    | (refine wpQ.int rfl (Owe.len rfl) fun m hm => ?_; (try rw [lst_len] at hm); refine wpQ.go 400 (by conv => lhs; cbv) ?_)
    | (refine wpQ.int rfl (Owe.ari64 rfl rfl rfl (by omega) (by omega)) fun _ _ => ?_; refine wpQ.go 400 (by conv => lhs; cbv) ?_)
    | (refine wpQ.int rfl (Owe.conv64 rfl (by omega) (by omega)) fun _ _ => ?_; refine wpQ.go 400 (by conv => lhs; cbv) ?_)
    | (refine wpQ.str rfl (Owe.cat rfl rfl (by assumption)) fun _ _ => ?_; refine wpQ.go 400 (by conv => lhs; cbv) ?_)
    | (refine wpQ.exitC ?_; refine wpQ.go 400 (by conv => lhs; cbv) ?_)
    | (refine wpQ.retC ?_; refine wpQ.go 400 (by conv => lhs; cbv) ?_)
    | (refine wpQ.fin (by conv => lhs; cbv) ?_))
  obtain ⟨D, hD⟩ : ∃ D, d :: ds = D := ⟨_, rfl⟩
  have hDl : D.length = ds.length + 1 := by rw [← hD]; rfl
  rw [hD] at hds ⊢
  refine wpQ.loopC (σ := Int × Bool × Nat × List Int) 2 3 [] (fun t => [(0, lst ρ srow false (p :: q :: r :: c :: D)), (2, .pt 0 5 0 0), (4, .pt 1 5 0 0), (11, .v (.bool t.2.1)), (12, .v (.int .i64 t.1))]) []
    (fun t => (0, .arr 5 [[iv 0, iv 0, iv 0, iv 0, .sl true []]] 0 true) :: (1, .arr 5 [[iv kk, iv vq, iv (-1), iv vx, accA 2 1 t.2.2.1]] 0 true) :: accO ρ irow 2 1 t.2.2.2 t.2.2.1)
    (fun t => t.2.2.1 = t.2.2.2.length ∧ ∃ k : Nat, t.1 = k + 4 ∧ k ≤ D.length ∧ t.2.2.1 = k ∧ t.2.2.2 = (D.take k).map (fun s => (num s).1) ∧ t.2.1 = (true && (D.take k).all fun s => (num s).2)) (fun t => D.length + 4 - t.1.toNat) (4, true, 0, [])
    ⟨rfl, 0, rfl, by simp, rfl, by simp, by simp⟩ rfl
    ⟨⟨.old rfl ((strs_pure _).klt), .old rfl (.pt (by decide)), .old rfl (.pt (by decide)), .old rfl .v, .old rfl .v, trivial⟩, rfl, ⟨⟨_, rfl, .same (kob5)⟩, ⟨⟨_, rfl, .same (kob5)⟩, trivial⟩⟩, rfl, rfl, rfl⟩ ?_
  rintro ⟨i, ok, n, acc⟩ ⟨hn, k, hi, hk, hnk, hacc, hok⟩
  simp only at hn hi hnk hacc hok
  have hL2 : (p :: q :: r :: c :: D).length = D.length + 4 := rfl
  by_cases hlt : k < D.length
  · obtain ⟨x, hx⟩ : ∃ x, D[k]? = some x := ⟨_, List.getElem?_eq_getElem hlt⟩
    have htk : D.take (k + 1) = D.take k ++ [x] := by
      rw [List.take_add_one, hx]; rfl
    have hnz := numberR_h (w0 := w0) x (hds x (List.mem_of_getElem? hx))
    obtain ⟨⟨vz, bz⟩, hz⟩ : ∃ z, num x = z := ⟨_, rfl⟩
    rw [hz] at hnz
    have hix2 : (p :: q :: r :: c :: D)[k + 4]? = some x := by rw [get_of_add]; exact hx
    cases n with
    | zero =>
      cases ok <;> cases bz
      all_goals
        refine wpQ.go 400 (by conv => lhs; cbv) ?_
        repeat' (first
          | (refine wpQ.op rfl (Owe.ind rfl rfl (lst_idx (k := k + 4) hi hix2) (lst_all fun _ => rfl)) ?_; refine wpQ.go 400 (by conv => lhs; cbv) ?_)
          | (refine wpQ.op rfl (Owe.pcall rfl hnz ⟨.v, trivial⟩) ?_; refine wpQ.go 400 (by conv => lhs; cbv) ?_)
          | (refine wpQ.appN ρ irow rfl rfl rfl rfl (by decide) fun acc' hacc' => ?_; refine wpQ.go 400 (by conv => lhs; cbv) ?_)
          | (exfalso; omega)
          | (refine wpQ.bif rfl (Owe.bit rfl) (fun hb => ?_) (fun hb => ?_) <;> (try simp only [decide_eq_true_eq, decide_eq_false_iff_not, beq_iff_eq, beq_eq_false_iff_ne, bne_iff_ne, bne_eq_false_iff_eq, Bool.not_eq_true, Bool.not_eq_false, Bool.not_eq_true', Bool.not_eq_false', ne_eq] at hb) <;> refine wpQ.go 400 (by conv => lhs; cbv) ?_)
          | (refine wpQ.int rfl (Owe.len rfl) fun m hm => ?_; (try rw [lst_len] at hm); refine wpQ.go 400 (by conv => lhs; cbv) ?_)
          | (refine wpQ.int rfl (Owe.ari64 rfl rfl rfl (by omega) (by omega)) fun _ _ => ?_; refine wpQ.go 400 (by conv => lhs; cbv) ?_)
          | (refine wpQ.int rfl (Owe.conv64 rfl (by omega) (by omega)) fun _ _ => ?_; refine wpQ.go 400 (by conv => lhs; cbv) ?_)
          | (refine wpQ.str rfl (Owe.cat rfl rfl (by assumption)) fun _ _ => ?_; refine wpQ.go 400 (by conv => lhs; cbv) ?_)
          | (refine wpQ.exitC ?_; refine wpQ.go 400 (by conv => lhs; cbv) ?_)
          | (refine wpQ.retC ?_; refine wpQ.go 400 (by conv => lhs; cbv) ?_)
          | (refine wpQ.fin (by conv => lhs; cbv) ?_))
        refine wpQ.nextC (σ := Int × Bool × Nat × List Int) (_, _, 1, _) [(2, 3)] ⟨by simp [hacc'], k + 1, by simp only; omega, by omega, by simp only; omega, ?_, ?_⟩ (by simp only; omega) ⟨⟨.old rfl ((strs_pure _).klt), .old rfl (.pt (by decide)), .old rfl (.pt (by decide)), .old rfl .v, .old rfl .v, trivial⟩, rfl, ⟨⟨_, rfl, .same (kob5)⟩, ⟨⟨_, rfl, .arr ⟨⟨.old .v, .old .v, .old .v, .old .v, .new rfl rfl, trivial⟩, trivial⟩⟩, ⟨⟨_, rfl, .same (kob_lst fun x _ => irow_p x)⟩, trivial⟩⟩⟩, rfl, rfl, rfl⟩
        · rw [htk, List.map_append, ← hacc, hacc', List.eq_nil_of_length_eq_zero hn.symm]; simp [hz]
        · rw [htk, List.all_append, ← Bool.and_assoc, ← hok]; simp [hz]
    | succ n =>
      cases ok <;> cases bz
      all_goals
        refine wpQ.go 400 (by conv => lhs; cbv) ?_
        repeat' (first
          | (refine wpQ.op rfl (Owe.ind rfl rfl (lst_idx (k := k + 4) hi hix2) (lst_all fun _ => rfl)) ?_; refine wpQ.go 400 (by conv => lhs; cbv) ?_)
          | (refine wpQ.op rfl (Owe.pcall rfl hnz ⟨.v, trivial⟩) ?_; refine wpQ.go 400 (by conv => lhs; cbv) ?_)
          | (refine wpQ.appC (ρ := ρ) (f := irow) (acc := acc) rfl rfl rfl hn rfl rfl rfl (by omega) fun acc' hacc' => ?_; refine wpQ.go 400 (by conv => lhs; cbv) ?_)
          | (exfalso; omega)
          | (refine wpQ.bif rfl (Owe.bit rfl) (fun hb => ?_) (fun hb => ?_) <;> (try simp only [decide_eq_true_eq, decide_eq_false_iff_not, beq_iff_eq, beq_eq_false_iff_ne, bne_iff_ne, bne_eq_false_iff_eq, Bool.not_eq_true, Bool.not_eq_false, Bool.not_eq_true', Bool.not_eq_false', ne_eq] at hb) <;> refine wpQ.go 400 (by conv => lhs; cbv) ?_)
          | (refine wpQ.int rfl (Owe.len rfl) fun m hm => ?_; (try rw [lst_len] at hm); refine wpQ.go 400 (by conv => lhs; cbv) ?_)
          | (refine wpQ.int rfl (Owe.ari64 rfl rfl rfl (by omega) (by omega)) fun _ _ => ?_; refine wpQ.go 400 (by conv => lhs; cbv) ?_)
          | (refine wpQ.int rfl (Owe.conv64 rfl (by omega) (by omega)) fun _ _ => ?_; refine wpQ.go 400 (by conv => lhs; cbv) ?_)
          | (refine wpQ.str rfl (Owe.cat rfl rfl (by assumption)) fun _ _ => ?_; refine wpQ.go 400 (by conv => lhs; cbv) ?_)
          | (refine wpQ.exitC ?_; refine wpQ.go 400 (by conv => lhs; cbv) ?_)
          | (refine wpQ.retC ?_; refine wpQ.go 400 (by conv => lhs; cbv) ?_)
          | (refine wpQ.fin (by conv => lhs; cbv) ?_))
        refine wpQ.nextC (σ := Int × Bool × Nat × List Int) (_, _, n + 2, _) [(2, 3)] ⟨by simp [hacc']; omega, k + 1, by simp only; omega, by omega, by simp only; omega, ?_, ?_⟩ (by simp only; omega) ⟨⟨.old rfl ((strs_pure _).klt), .old rfl (.pt (by decide)), .old rfl (.pt (by decide)), .old rfl .v, .old rfl .v, trivial⟩, rfl, ⟨⟨_, rfl, .same (kob5)⟩, ⟨⟨_, rfl, .arr ⟨⟨.old .v, .old .v, .old .v, .old .v, .new rfl rfl, trivial⟩, trivial⟩⟩, ⟨⟨_, rfl, .same (kob_lst fun x _ => irow_p x)⟩, trivial⟩⟩⟩, rfl, rfl, rfl⟩
        · rw [htk, List.map_append, ← hacc, hacc']; simp [hz]
        · rw [htk, List.all_append, ← Bool.and_assoc, ← hok]; simp [hz]
  · have hkD : k = D.length := by omega
    rw [hkD, List.take_length] at hacc hok
    cases n with
    | zero => exfalso; omega
    | succ n =>
      refine wpQ.go 400 (by conv => lhs; cbv) ?_
      repeat' (first
        | (exfalso; omega)
        | (refine wpQ.bif rfl (Owe.bit rfl) (fun hb => ?_) (fun hb => ?_) <;> (try simp only [decide_eq_true_eq, decide_eq_false_iff_not, beq_iff_eq, beq_eq_false_iff_ne, bne_iff_ne, bne_eq_false_iff_eq, Bool.not_eq_true, Bool.not_eq_false, Bool.not_eq_true', Bool.not_eq_false', ne_eq] at hb) <;> refine wpQ.go 400 (by conv => lhs; cbv) ?_)
        | (refine wpQ.int rfl (Owe.len rfl) fun m hm => ?_; (try rw [lst_len] at hm); refine wpQ.go 400 (by conv => lhs; cbv) ?_)
        | (refine wpQ.int rfl (Owe.ari64 rfl rfl rfl (by omega) (by omega)) fun _ _ => ?_; refine wpQ.go 400 (by conv => lhs; cbv) ?_)
        | (refine wpQ.int rfl (Owe.conv64 rfl (by omega) (by omega)) fun _ _ => ?_; refine wpQ.go 400 (by conv => lhs; cbv) ?_)
        | (refine wpQ.str rfl (Owe.cat rfl rfl (by assumption)) fun _ _ => ?_; refine wpQ.go 400 (by conv => lhs; cbv) ?_)
        | (refine wpQ.exitC ?_; refine wpQ.go 400 (by conv => lhs; cbv) ?_)
        | (refine wpQ.retC ?_; refine wpQ.go 400 (by conv => lhs; cbv) ?_)
        | (refine wpQ.fin (by conv => lhs; cbv) ?_))
      all_goals
        rw [← hacc, ← hok]
        exact frz_tup2 (frz_evC (Frz.accC rfl hn)) (.refl _)
theorem formed_5dmf {q r c d : ByteArray} {ds : List ByteArray} (hq : q.size ≤ 1000000) (hc : c.size ≤ 1000000) (hds : ∀ x ∈ d :: ds, x.size ≤ 1000000) (hlen : ds.length ≤ 1000000) (hr : r.size ≤ 1000000) {vq : Int} (hvq : num q = (vq, true)) (hrm : r.toList = ByteArray.toList ⟨#[45, 49]⟩) (hcc : colon c = true) {vx : Int} (hvx : num (chop c) = (vx, false)) {p : ByteArray} {kk : Int} (hkk : findW p wordsL 0 = kk) (hA : appB kk = true) (hk01 : ¬ (kk = 0 ∨ kk = 1)) (hkd : PCal Tryd.prog w0 39 [strA p] (.v (.int .i64 kk))) (hapk : ∀ (id oc rl : Int) (ids : List Int), PCal Tryd.prog w0 25 [evH ρ ⟨kk, id, oc, rl, ids⟩] (.v (.bool true))) : PCal Tryd.prog w0 28 [lst ρ srow false (p :: q :: r :: c :: d :: ds)] (.tup [evH ρ (formedP (p :: q :: r :: c :: d :: ds)).1, .v (.bool (formedP (p :: q :: r :: c :: d :: ds)).2)]) := by
  have hnq := numberR_h (w0 := w0) q hq
  rw [hvq] at hnq
  have hvr : num r = (0, false) := by
    rw [ba_eq hrm]; cbv
  have hnr := numberR_h (w0 := w0) r hr
  rw [hvr] at hnr
  have hoc : occ r = (-1, true) := occ_yes hrm
  rw [formedP_5 hkk hk01 hA, hvq, hoc, if_pos (by rfl), if_pos hcc, hvx]
  have hcol : colon c = (decide (c.size ≠ 0) && (c.get! (c.size - 1) == 58)) := rfl
  have hix := @idx_last c
  rw [hcc] at hcol
  have hc0 : c.size ≠ 0 := by
    rintro h; simp [h] at hcol
  have hc58 : c.get! (c.size - 1) = 58 := by
    simpa [hc0] using hcol.symm
  rw [hc58] at hix
  clear hcol
  have hch := chop_size c
  obtain ⟨cc, hcc1⟩ : ∃ x, chop c = x := ⟨_, rfl⟩
  rw [hcc1] at hvx hch
  have hnx := numberR_h (w0 := w0) cc (by omega)
  rw [hvx] at hnx
  have hL : (p :: q :: r :: c :: d :: ds).length = ds.length + 5 := rfl
  refine qf28.pcal (by simp [Tryd.ntmps28]) ((tb_pure (fun e => evH_pure e) _)) ?_
  refine wpQ.go 400 (by conv => lhs; cbv) ?_
  repeat' (first
    | (exfalso; omega)
    | (refine wpQ.op rfl (Owe.ind rfl rfl (lst_idx (k := 0) rfl rfl) (lst_all fun _ => rfl)) ?_; refine wpQ.go 400 (by conv => lhs; cbv) ?_)
    | (refine wpQ.op rfl (Owe.pcall rfl hkd ⟨.v, trivial⟩) ?_; refine wpQ.go 400 (by conv => lhs; cbv) ?_)
    | (refine wpQ.op rfl (Owe.pcallW rfl (hapk _ _ _ []) ⟨evH_pure _, trivial⟩ ⟨wk_ev0, trivial⟩) ?_; refine wpQ.go 400 (by conv => lhs; cbv) ?_)
    | (refine wpQ.op rfl (Owe.ind rfl rfl (lst_idx (k := 1) rfl rfl) (lst_all fun _ => rfl)) ?_; refine wpQ.go 400 (by conv => lhs; cbv) ?_)
    | (refine wpQ.op rfl (Owe.ind rfl rfl (lst_idx (k := 2) rfl rfl) (lst_all fun _ => rfl)) ?_; refine wpQ.go 400 (by conv => lhs; cbv) ?_)
    | (refine wpQ.op rfl (Owe.pcall rfl hnq ⟨.v, trivial⟩) ?_; refine wpQ.go 400 (by conv => lhs; cbv) ?_)
    | (refine wpQ.op rfl (Owe.pcall rfl hnr ⟨.v, trivial⟩) ?_; refine wpQ.go 400 (by conv => lhs; cbv) ?_)
    | (exact absurd hrm (by assumption))
    | (exact absurd rfl (show ¬ Int.ofNat 58 = 58 from hb))
    | (refine wpQ.op rfl (Owe.indS rfl rfl (hix (by omega) (by omega))) ?_; refine wpQ.go 400 (by conv => lhs; cbv) ?_)
    | (refine wpQ.op rfl (Owe.ind rfl rfl (lst_idx (k := 3) rfl rfl) (lst_all fun _ => rfl)) ?_; refine wpQ.go 400 (by conv => lhs; cbv) ?_)
    | (refine wpQ.str rfl (Owe.sliS (l := 0) rfl rfl rfl (by omega) (by omega) (by omega)) fun x hx => ?_; obtain rfl : x = cc := (hx.trans (by unfold chop; congr 1; omega)).trans hcc1; refine wpQ.go 400 (by conv => lhs; cbv) ?_)
    | (refine wpQ.op rfl (Owe.pcall rfl hnx ⟨.v, trivial⟩) ?_; refine wpQ.go 400 (by conv => lhs; cbv) ?_)
    | (refine wpQ.bif rfl (Owe.bit rfl) (fun hb => ?_) (fun hb => ?_) <;> (try simp only [decide_eq_true_eq, decide_eq_false_iff_not, beq_iff_eq, beq_eq_false_iff_ne, bne_iff_ne, bne_eq_false_iff_eq, Bool.not_eq_true, Bool.not_eq_false, Bool.not_eq_true', Bool.not_eq_false', ne_eq] at hb) <;> refine wpQ.go 400 (by conv => lhs; cbv) ?_)
    | (refine wpQ.int rfl (Owe.len rfl) fun m hm => ?_; (try rw [lst_len] at hm); refine wpQ.go 400 (by conv => lhs; cbv) ?_)
    | (refine wpQ.int rfl (Owe.ari64 rfl rfl rfl (by omega) (by omega)) fun _ _ => ?_; refine wpQ.go 400 (by conv => lhs; cbv) ?_)
    | (refine wpQ.int rfl (Owe.conv64 rfl (by omega) (by omega)) fun _ _ => ?_; refine wpQ.go 400 (by conv => lhs; cbv) ?_)
    | (refine wpQ.str rfl (Owe.cat rfl rfl (by assumption)) fun _ _ => ?_; refine wpQ.go 400 (by conv => lhs; cbv) ?_)
    | (refine wpQ.exitC ?_; refine wpQ.go 400 (by conv => lhs; cbv) ?_)
    | (refine wpQ.retC ?_; refine wpQ.go 400 (by conv => lhs; cbv) ?_)
    | (refine wpQ.fin (by conv => lhs; cbv) ?_))
  obtain ⟨D, hD⟩ : ∃ D, d :: ds = D := ⟨_, rfl⟩
  have hDl : D.length = ds.length + 1 := by rw [← hD]; rfl
  rw [hD] at hds ⊢
  refine wpQ.loopC (σ := Int × Bool × Nat × List Int) 2 3 [] (fun t => [(0, lst ρ srow false (p :: q :: r :: c :: D)), (2, .pt 0 5 0 0), (4, .pt 1 5 0 0), (11, .v (.bool t.2.1)), (12, .v (.int .i64 t.1))]) []
    (fun t => (0, .arr 5 [[iv 0, iv 0, iv 0, iv 0, .sl true []]] 0 true) :: (1, .arr 5 [[iv kk, iv vq, iv (-1), iv vx, accA 2 1 t.2.2.1]] 0 true) :: accO ρ irow 2 1 t.2.2.2 t.2.2.1)
    (fun t => t.2.2.1 = t.2.2.2.length ∧ ∃ k : Nat, t.1 = k + 4 ∧ k ≤ D.length ∧ t.2.2.1 = k ∧ t.2.2.2 = (D.take k).map (fun s => (num s).1) ∧ t.2.1 = (false && (D.take k).all fun s => (num s).2)) (fun t => D.length + 4 - t.1.toNat) (4, false, 0, [])
    ⟨rfl, 0, rfl, by simp, rfl, by simp, by simp⟩ rfl
    ⟨⟨.old rfl ((strs_pure _).klt), .old rfl (.pt (by decide)), .old rfl (.pt (by decide)), .old rfl .v, .old rfl .v, trivial⟩, rfl, ⟨⟨_, rfl, .same (kob5)⟩, ⟨⟨_, rfl, .same (kob5)⟩, trivial⟩⟩, rfl, rfl, rfl⟩ ?_
  rintro ⟨i, ok, n, acc⟩ ⟨hn, k, hi, hk, hnk, hacc, hok⟩
  simp only at hn hi hnk hacc hok
  have hL2 : (p :: q :: r :: c :: D).length = D.length + 4 := rfl
  by_cases hlt : k < D.length
  · obtain ⟨x, hx⟩ : ∃ x, D[k]? = some x := ⟨_, List.getElem?_eq_getElem hlt⟩
    have htk : D.take (k + 1) = D.take k ++ [x] := by
      rw [List.take_add_one, hx]; rfl
    have hnz := numberR_h (w0 := w0) x (hds x (List.mem_of_getElem? hx))
    obtain ⟨⟨vz, bz⟩, hz⟩ : ∃ z, num x = z := ⟨_, rfl⟩
    rw [hz] at hnz
    have hix2 : (p :: q :: r :: c :: D)[k + 4]? = some x := by rw [get_of_add]; exact hx
    cases n with
    | zero =>
      cases ok <;> cases bz
      all_goals
        refine wpQ.go 400 (by conv => lhs; cbv) ?_
        repeat' (first
          | (refine wpQ.op rfl (Owe.ind rfl rfl (lst_idx (k := k + 4) hi hix2) (lst_all fun _ => rfl)) ?_; refine wpQ.go 400 (by conv => lhs; cbv) ?_)
          | (refine wpQ.op rfl (Owe.pcall rfl hnz ⟨.v, trivial⟩) ?_; refine wpQ.go 400 (by conv => lhs; cbv) ?_)
          | (refine wpQ.appN ρ irow rfl rfl rfl rfl (by decide) fun acc' hacc' => ?_; refine wpQ.go 400 (by conv => lhs; cbv) ?_)
          | (exfalso; omega)
          | (refine wpQ.bif rfl (Owe.bit rfl) (fun hb => ?_) (fun hb => ?_) <;> (try simp only [decide_eq_true_eq, decide_eq_false_iff_not, beq_iff_eq, beq_eq_false_iff_ne, bne_iff_ne, bne_eq_false_iff_eq, Bool.not_eq_true, Bool.not_eq_false, Bool.not_eq_true', Bool.not_eq_false', ne_eq] at hb) <;> refine wpQ.go 400 (by conv => lhs; cbv) ?_)
          | (refine wpQ.int rfl (Owe.len rfl) fun m hm => ?_; (try rw [lst_len] at hm); refine wpQ.go 400 (by conv => lhs; cbv) ?_)
          | (refine wpQ.int rfl (Owe.ari64 rfl rfl rfl (by omega) (by omega)) fun _ _ => ?_; refine wpQ.go 400 (by conv => lhs; cbv) ?_)
          | (refine wpQ.int rfl (Owe.conv64 rfl (by omega) (by omega)) fun _ _ => ?_; refine wpQ.go 400 (by conv => lhs; cbv) ?_)
          | (refine wpQ.str rfl (Owe.cat rfl rfl (by assumption)) fun _ _ => ?_; refine wpQ.go 400 (by conv => lhs; cbv) ?_)
          | (refine wpQ.exitC ?_; refine wpQ.go 400 (by conv => lhs; cbv) ?_)
          | (refine wpQ.retC ?_; refine wpQ.go 400 (by conv => lhs; cbv) ?_)
          | (refine wpQ.fin (by conv => lhs; cbv) ?_))
        refine wpQ.nextC (σ := Int × Bool × Nat × List Int) (_, _, 1, _) [(2, 3)] ⟨by simp [hacc'], k + 1, by simp only; omega, by omega, by simp only; omega, ?_, ?_⟩ (by simp only; omega) ⟨⟨.old rfl ((strs_pure _).klt), .old rfl (.pt (by decide)), .old rfl (.pt (by decide)), .old rfl .v, .old rfl .v, trivial⟩, rfl, ⟨⟨_, rfl, .same (kob5)⟩, ⟨⟨_, rfl, .arr ⟨⟨.old .v, .old .v, .old .v, .old .v, .new rfl rfl, trivial⟩, trivial⟩⟩, ⟨⟨_, rfl, .same (kob_lst fun x _ => irow_p x)⟩, trivial⟩⟩⟩, rfl, rfl, rfl⟩
        · rw [htk, List.map_append, ← hacc, hacc', List.eq_nil_of_length_eq_zero hn.symm]; simp [hz]
        · rw [htk, List.all_append, ← Bool.and_assoc, ← hok]; simp [hz]
    | succ n =>
      cases ok <;> cases bz
      all_goals
        refine wpQ.go 400 (by conv => lhs; cbv) ?_
        repeat' (first
          | (refine wpQ.op rfl (Owe.ind rfl rfl (lst_idx (k := k + 4) hi hix2) (lst_all fun _ => rfl)) ?_; refine wpQ.go 400 (by conv => lhs; cbv) ?_)
          | (refine wpQ.op rfl (Owe.pcall rfl hnz ⟨.v, trivial⟩) ?_; refine wpQ.go 400 (by conv => lhs; cbv) ?_)
          | (refine wpQ.appC (ρ := ρ) (f := irow) (acc := acc) rfl rfl rfl hn rfl rfl rfl (by omega) fun acc' hacc' => ?_; refine wpQ.go 400 (by conv => lhs; cbv) ?_)
          | (exfalso; omega)
          | (refine wpQ.bif rfl (Owe.bit rfl) (fun hb => ?_) (fun hb => ?_) <;> (try simp only [decide_eq_true_eq, decide_eq_false_iff_not, beq_iff_eq, beq_eq_false_iff_ne, bne_iff_ne, bne_eq_false_iff_eq, Bool.not_eq_true, Bool.not_eq_false, Bool.not_eq_true', Bool.not_eq_false', ne_eq] at hb) <;> refine wpQ.go 400 (by conv => lhs; cbv) ?_)
          | (refine wpQ.int rfl (Owe.len rfl) fun m hm => ?_; (try rw [lst_len] at hm); refine wpQ.go 400 (by conv => lhs; cbv) ?_)
          | (refine wpQ.int rfl (Owe.ari64 rfl rfl rfl (by omega) (by omega)) fun _ _ => ?_; refine wpQ.go 400 (by conv => lhs; cbv) ?_)
          | (refine wpQ.int rfl (Owe.conv64 rfl (by omega) (by omega)) fun _ _ => ?_; refine wpQ.go 400 (by conv => lhs; cbv) ?_)
          | (refine wpQ.str rfl (Owe.cat rfl rfl (by assumption)) fun _ _ => ?_; refine wpQ.go 400 (by conv => lhs; cbv) ?_)
          | (refine wpQ.exitC ?_; refine wpQ.go 400 (by conv => lhs; cbv) ?_)
          | (refine wpQ.retC ?_; refine wpQ.go 400 (by conv => lhs; cbv) ?_)
          | (refine wpQ.fin (by conv => lhs; cbv) ?_))
        refine wpQ.nextC (σ := Int × Bool × Nat × List Int) (_, _, n + 2, _) [(2, 3)] ⟨by simp [hacc']; omega, k + 1, by simp only; omega, by omega, by simp only; omega, ?_, ?_⟩ (by simp only; omega) ⟨⟨.old rfl ((strs_pure _).klt), .old rfl (.pt (by decide)), .old rfl (.pt (by decide)), .old rfl .v, .old rfl .v, trivial⟩, rfl, ⟨⟨_, rfl, .same (kob5)⟩, ⟨⟨_, rfl, .arr ⟨⟨.old .v, .old .v, .old .v, .old .v, .new rfl rfl, trivial⟩, trivial⟩⟩, ⟨⟨_, rfl, .same (kob_lst fun x _ => irow_p x)⟩, trivial⟩⟩⟩, rfl, rfl, rfl⟩
        · rw [htk, List.map_append, ← hacc, hacc']; simp [hz]
        · rw [htk, List.all_append, ← Bool.and_assoc, ← hok]; simp [hz]
  · have hkD : k = D.length := by omega
    rw [hkD, List.take_length] at hacc hok
    cases n with
    | zero => exfalso; omega
    | succ n =>
      refine wpQ.go 400 (by conv => lhs; cbv) ?_
      repeat' (first
        | (exfalso; omega)
        | (refine wpQ.bif rfl (Owe.bit rfl) (fun hb => ?_) (fun hb => ?_) <;> (try simp only [decide_eq_true_eq, decide_eq_false_iff_not, beq_iff_eq, beq_eq_false_iff_ne, bne_iff_ne, bne_eq_false_iff_eq, Bool.not_eq_true, Bool.not_eq_false, Bool.not_eq_true', Bool.not_eq_false', ne_eq] at hb) <;> refine wpQ.go 400 (by conv => lhs; cbv) ?_)
        | (refine wpQ.int rfl (Owe.len rfl) fun m hm => ?_; (try rw [lst_len] at hm); refine wpQ.go 400 (by conv => lhs; cbv) ?_)
        | (refine wpQ.int rfl (Owe.ari64 rfl rfl rfl (by omega) (by omega)) fun _ _ => ?_; refine wpQ.go 400 (by conv => lhs; cbv) ?_)
        | (refine wpQ.int rfl (Owe.conv64 rfl (by omega) (by omega)) fun _ _ => ?_; refine wpQ.go 400 (by conv => lhs; cbv) ?_)
        | (refine wpQ.str rfl (Owe.cat rfl rfl (by assumption)) fun _ _ => ?_; refine wpQ.go 400 (by conv => lhs; cbv) ?_)
        | (refine wpQ.exitC ?_; refine wpQ.go 400 (by conv => lhs; cbv) ?_)
        | (refine wpQ.retC ?_; refine wpQ.go 400 (by conv => lhs; cbv) ?_)
        | (refine wpQ.fin (by conv => lhs; cbv) ?_))
      all_goals
        rw [← hacc, ← hok]
        exact frz_tup2 (frz_evC (Frz.accC rfl hn)) (.refl _)
end
end Go.Proofs.YtahhaiomdjlckaaDoor
