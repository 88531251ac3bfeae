/-
  The reference of trace: split.
-/
import Derived.Test.YtahhaiomdjlckaaDoorR2
namespace Go.Proofs.YtahhaiomdjlckaaDoor
set_option linter.unusedVariables false
set_option linter.unusedSimpArgs false
open Go.RowKit

theorem bL_inj {a b : ByteArray} (h : bL a = bL b) : a = b := by
  apply ByteArray.ext
  exact Array.toList_inj.1 h
theorem map_bL_inj : ∀ {l m : List ByteArray}, l.map bL = m.map bL → l = m
  | [], [], _ => rfl
  | a :: l, b :: m, h => by
    simp only [List.map_cons, List.cons.injEq] at h
    rw [bL_inj h.1, map_bL_inj h.2]
  | [], _ :: _, h => by simp at h
  | _ :: _, [], h => by simp at h
/-- what is still to be split at place k, the present part having begun at f. -/
def rest (s : ByteArray) (k f : Nat) : List (List UInt8) := if k ≤ s.size then spl (((bL s).take k).drop f) ((bL s).drop k) else []
theorem rest_end {s : ByteArray} {k f : Nat} (h : k = s.size) : rest s k f = [bL (s.extract f k)] := by
  have hz : (bL s).length = s.size := (size_toL s).symm
  rw [rest, if_pos (by omega), show (bL s).drop k = [] from List.drop_eq_nil_of_le (by omega), bL_extract]
  rfl
theorem rest_sp {s : ByteArray} {k f : Nat} (h : k < s.size) (hc : s.get! k = 32) : rest s k f = bL (s.extract f k) :: rest s (k + 1) (k + 1) := by
  have hz : (bL s).length = s.size := (size_toL s).symm
  rw [rest, if_pos (by omega), rest, if_pos (by omega), show (bL s).drop k = _ from get_drop s k h, spl, if_pos hc, bL_extract]
  congr 1
  rw [show ((bL s).take (k + 1)).drop (k + 1) = [] from List.drop_eq_nil_of_le (by simp; omega)]
  rfl
theorem rest_no {s : ByteArray} {k f : Nat} (h : k < s.size) (hf : f ≤ k) (hc : s.get! k ≠ 32) : rest s k f = rest s (k + 1) f := by
  have hz : (bL s).length = s.size := (size_toL s).symm
  rw [rest, if_pos (by omega), rest, if_pos (by omega), show (bL s).drop k = _ from get_drop s k h, spl, if_neg hc]
  congr 1
  have hlt : k < (bL s).length := by omega
  have h1 : (bL s)[k]? = some (s.get! k) := by
    rw [List.getElem?_eq_getElem hlt]
    have := List.drop_eq_getElem_cons hlt
    rw [show (bL s).drop k = _ from get_drop s k h] at this
    injection this with this _
    rw [this]
  rw [List.take_add_one, h1]
  simp only [Option.toList_some]
  rw [List.drop_append_of_le_length (by simp; omega)]
theorem rest_past {s : ByteArray} {k f : Nat} (h : s.size < k) : rest s k f = [] := by rw [rest, if_neg (by omega)]
section
variable {w0 : World} {ρ : Hd}
set_option maxRecDepth 100000
theorem splitR_h (s : ByteArray) (hs : s.size ≤ 1000000) : PCal Tryd.prog w0 29 [strA s] (lst ρ srow false (partsB s)) := by
  have hsz := size_toL s
  refine qf29.pcal (by simp [Tryd.ntmps29]) (strs_pure _) ?_
  refine wpQ.go 400 (by conv => lhs; cbv) ?_
  refine wpQ.loopC (σ := Int × Int × Nat × List ByteArray) 0 1 [] (fun t => [(0, strA s), (3, accA 0 1 t.2.2.1), (4, .v (.int .i64 t.2.1)), (5, .v (.int .i64 t.1))]) [] (fun t => accO ρ srow 0 1 t.2.2.2 t.2.2.1)
    (fun t => t.2.2.1 = t.2.2.2.length ∧ ∃ k f : Nat, t.1 = k ∧ t.2.1 = f ∧ k ≤ s.size + 1 ∧ f ≤ k ∧ t.2.2.1 ≤ k ∧ spl [] (bL s) = t.2.2.2.map bL ++ rest s k f) (fun t => s.size + 1 - t.1.toNat) (0, 0, 0, [])
    ⟨rfl, 0, 0, rfl, rfl, by simp, by simp, by simp, by simp [rest]⟩ rfl
    ⟨⟨.old rfl .v, .old rfl klt_nil, .old rfl .v, .old rfl .v, trivial⟩, rfl, trivial, rfl, rfl, rfl⟩ ?_
  rintro ⟨i, fr, n, acc⟩ ⟨hn, k, f, hi, hf, hk, hfk, hnk, hp⟩
  simp only at hn hi hf hp hnk
  by_cases hlt : k < s.size
  · have hlt' : k < s.data.toList.length := by omega
    have hix : idx s.data.toList i = some (s.get! k) := by
      have : s.data.toList[k]? = some (s.get! k) := by
        rw [List.getElem?_eq_getElem hlt']
        have := List.drop_eq_getElem_cons hlt'
        rw [get_drop s k hlt] at this
        injection this with this _
        rw [this]
      subst hi
      exact idx_nat this
    have r1 := @rest_sp s k f hlt
    have r2 := @rest_no s k f hlt hfk
    obtain ⟨b, hb8⟩ : ∃ b, s.get! k = b := ⟨_, rfl⟩
    rw [hb8] at hix r1 r2
    cases n with
    | zero =>
      have ha : acc = [] := List.eq_nil_of_length_eq_zero hn.symm
      refine wpQ.go 400 (by conv => lhs; cbv) ?_
      repeat' (first
        | (refine wpQ.int rfl (Owe.indS rfl rfl hix) fun _ _ => ?_; refine wpQ.go 400 (by conv => lhs; cbv) ?_)
        | (refine wpQ.str rfl (Owe.sliS rfl rfl rfl (by omega) (by omega) (by omega)) fun _ _ => ?_; refine wpQ.go 400 (by conv => lhs; cbv) ?_)
        | (refine wpQ.appN ρ srow rfl rfl rfl rfl (by decide) fun acc' hacc => ?_; refine wpQ.go 400 (by conv => lhs; cbv) ?_)
        | (refine wpQ.bif rfl (Owe.bit rfl) (fun hb => ?_) (fun hb => ?_) <;> (try simp only [decide_eq_true_eq, decide_eq_false_iff_not, beq_iff_eq, beq_eq_false_iff_ne, bne_iff_ne, bne_eq_false_iff_eq, Bool.not_eq_true, Bool.not_eq_false, Bool.not_eq_true', Bool.not_eq_false', ne_eq] at hb) <;> refine wpQ.go 400 (by conv => lhs; cbv) ?_)
        | (refine wpQ.int rfl (Owe.len rfl) fun m hm => ?_; (try rw [lst_len] at hm); refine wpQ.go 400 (by conv => lhs; cbv) ?_)
        | (refine wpQ.int rfl (Owe.ari64 rfl rfl rfl (by omega) (by omega)) fun _ _ => ?_; refine wpQ.go 400 (by conv => lhs; cbv) ?_)
        | (refine wpQ.int rfl (Owe.conv64 rfl (by omega) (by omega)) fun _ _ => ?_; refine wpQ.go 400 (by conv => lhs; cbv) ?_)
        | (refine wpQ.str rfl (Owe.cat rfl rfl (by assumption)) fun _ _ => ?_; refine wpQ.go 400 (by conv => lhs; cbv) ?_)
        | (refine wpQ.exitC ?_; refine wpQ.go 400 (by conv => lhs; cbv) ?_)
        | (refine wpQ.retC ?_; refine wpQ.go 400 (by conv => lhs; cbv) ?_)
        | (refine wpQ.fin (by conv => lhs; cbv) ?_))
      · omega
      · rename_i x hx i1 hi1 i2 hi2
        have hxx : x = s.extract f k := by rw [hx, hf, hi]; rfl
        have hb32 : b = 32 := by apply UInt8.toNat_inj.1; show b.toNat = 32; omega
        refine wpQ.nextC (σ := Int × Int × Nat × List ByteArray) (_, _, 1, _) [(0, 1)] ⟨by simp [hacc], k + 1, k + 1, by simp only; omega, by simp only; omega, by omega, by omega, by simp only; omega, ?_⟩ (by simp only; omega) ⟨⟨.old rfl .v, .new rfl rfl, .old rfl .v, .old rfl .v, trivial⟩, rfl, ⟨⟨_, rfl, .same (kob_lst fun x _ => srow_p x)⟩, trivial⟩, rfl, rfl, rfl⟩
        rw [hp, r1 hb32, ha, hacc, hxx]; rfl
      · have hb32 : b ≠ 32 := fun e => by subst e; have : ((32 : UInt8).toNat : Int) = 32 := rfl; omega
        refine wpQ.nextC (σ := Int × Int × Nat × List ByteArray) (_, fr, 0, acc) [] ⟨hn, k + 1, f, by simp only; omega, hf, by omega, by omega, by simp only; omega, ?_⟩ (by simp only; omega) ⟨⟨.old rfl .v, .old rfl klt_nil, .old rfl .v, .old rfl .v, trivial⟩, rfl, trivial, rfl, rfl, rfl⟩
        rw [hp, r2 hb32]
      · omega
    | succ n =>
      refine wpQ.go 400 (by conv => lhs; cbv) ?_
      repeat' (first
        | (refine wpQ.int rfl (Owe.indS rfl rfl hix) fun _ _ => ?_; refine wpQ.go 400 (by conv => lhs; cbv) ?_)
        | (refine wpQ.str rfl (Owe.sliS rfl rfl rfl (by omega) (by omega) (by omega)) fun _ _ => ?_; refine wpQ.go 400 (by conv => lhs; cbv) ?_)
        | (refine wpQ.appC (ρ := ρ) (f := srow) (acc := acc) rfl rfl rfl hn rfl rfl rfl (by omega) fun acc' hacc => ?_; refine wpQ.go 400 (by conv => lhs; cbv) ?_)
        | (refine wpQ.bif rfl (Owe.bit rfl) (fun hb => ?_) (fun hb => ?_) <;> (try simp only [decide_eq_true_eq, decide_eq_false_iff_not, beq_iff_eq, beq_eq_false_iff_ne, bne_iff_ne, bne_eq_false_iff_eq, Bool.not_eq_true, Bool.not_eq_false, Bool.not_eq_true', Bool.not_eq_false', ne_eq] at hb) <;> refine wpQ.go 400 (by conv => lhs; cbv) ?_)
        | (refine wpQ.int rfl (Owe.len rfl) fun m hm => ?_; (try rw [lst_len] at hm); refine wpQ.go 400 (by conv => lhs; cbv) ?_)
        | (refine wpQ.int rfl (Owe.ari64 rfl rfl rfl (by omega) (by omega)) fun _ _ => ?_; refine wpQ.go 400 (by conv => lhs; cbv) ?_)
        | (refine wpQ.int rfl (Owe.conv64 rfl (by omega) (by omega)) fun _ _ => ?_; refine wpQ.go 400 (by conv => lhs; cbv) ?_)
        | (refine wpQ.str rfl (Owe.cat rfl rfl (by assumption)) fun _ _ => ?_; refine wpQ.go 400 (by conv => lhs; cbv) ?_)
        | (refine wpQ.exitC ?_; refine wpQ.go 400 (by conv => lhs; cbv) ?_)
        | (refine wpQ.retC ?_; refine wpQ.go 400 (by conv => lhs; cbv) ?_)
        | (refine wpQ.fin (by conv => lhs; cbv) ?_))
      · omega
      · rename_i x hx i1 hi1 i2 hi2
        have hxx : x = s.extract f k := by rw [hx, hf, hi]; rfl
        have hb32 : b = 32 := by apply UInt8.toNat_inj.1; show b.toNat = 32; omega
        refine wpQ.nextC (σ := Int × Int × Nat × List ByteArray) (_, _, n + 2, _) [(0, 1)] ⟨by simp [hacc]; omega, k + 1, k + 1, by simp only; omega, by simp only; omega, by omega, by omega, by simp only; omega, ?_⟩ (by simp only; omega) ⟨⟨.old rfl .v, .new rfl rfl, .old rfl .v, .old rfl .v, trivial⟩, rfl, ⟨⟨_, rfl, .same (kob_lst fun x _ => srow_p x)⟩, trivial⟩, rfl, rfl, rfl⟩
        rw [hp, r1 hb32, hacc, hxx, List.map_append]; simp
      · have hb32 : b ≠ 32 := fun e => by subst e; have : ((32 : UInt8).toNat : Int) = 32 := rfl; omega
        refine wpQ.nextC (σ := Int × Int × Nat × List ByteArray) (_, fr, n + 1, acc) [] ⟨hn, k + 1, f, by simp only; omega, hf, by omega, by omega, by simp only; omega, ?_⟩ (by simp only; omega) ⟨⟨.old rfl .v, .new rfl rfl, .old rfl .v, .old rfl .v, trivial⟩, rfl, ⟨⟨_, rfl, .same (kob_lst fun x _ => srow_p x)⟩, trivial⟩, rfl, rfl, rfl⟩
        rw [hp, r2 hb32]
      · omega
  · by_cases he : k = s.size
    · have r1 := @rest_end s k f he
      have r2 := @rest_past s (k + 1) (k + 1) (by omega)
      cases n with
      | zero =>
        have ha : acc = [] := List.eq_nil_of_length_eq_zero hn.symm
        refine wpQ.go 400 (by conv => lhs; cbv) ?_
        repeat' (first
          | (refine wpQ.str rfl (Owe.sliS rfl rfl rfl (by omega) (by omega) (by omega)) fun _ _ => ?_; refine wpQ.go 400 (by conv => lhs; cbv) ?_)
          | (refine wpQ.appN ρ srow rfl rfl rfl rfl (by decide) fun acc' hacc => ?_; refine wpQ.go 400 (by conv => lhs; cbv) ?_)
          | (exfalso; omega)
          | (refine wpQ.bif rfl (Owe.bit rfl) (fun hb => ?_) (fun hb => ?_) <;> (try simp only [decide_eq_true_eq, decide_eq_false_iff_not, beq_iff_eq, beq_eq_false_iff_ne, bne_iff_ne, bne_eq_false_iff_eq, Bool.not_eq_true, Bool.not_eq_false, Bool.not_eq_true', Bool.not_eq_false', ne_eq] at hb) <;> refine wpQ.go 400 (by conv => lhs; cbv) ?_)
          | (refine wpQ.int rfl (Owe.len rfl) fun m hm => ?_; (try rw [lst_len] at hm); refine wpQ.go 400 (by conv => lhs; cbv) ?_)
          | (refine wpQ.int rfl (Owe.ari64 rfl rfl rfl (by omega) (by omega)) fun _ _ => ?_; refine wpQ.go 400 (by conv => lhs; cbv) ?_)
          | (refine wpQ.int rfl (Owe.conv64 rfl (by omega) (by omega)) fun _ _ => ?_; refine wpQ.go 400 (by conv => lhs; cbv) ?_)
          | (refine wpQ.str rfl (Owe.cat rfl rfl (by assumption)) fun _ _ => ?_; refine wpQ.go 400 (by conv => lhs; cbv) ?_)
          | (refine wpQ.exitC ?_; refine wpQ.go 400 (by conv => lhs; cbv) ?_)
          | (refine wpQ.retC ?_; refine wpQ.go 400 (by conv => lhs; cbv) ?_)
          | (refine wpQ.fin (by conv => lhs; cbv) ?_))
        rename_i x hx i1 hi1 i2 hi2
        have hxx : x = s.extract f k := by rw [hx, hf, hi]; rfl
        refine wpQ.nextC (σ := Int × Int × Nat × List ByteArray) (_, _, 1, _) [(0, 1)] ⟨by simp [hacc], k + 1, k + 1, by simp only; omega, by simp only; omega, by omega, by omega, by simp only; omega, ?_⟩ (by simp only; omega) ⟨⟨.old rfl .v, .new rfl rfl, .old rfl .v, .old rfl .v, trivial⟩, rfl, ⟨⟨_, rfl, .same (kob_lst fun x _ => srow_p x)⟩, trivial⟩, rfl, rfl, rfl⟩
        rw [hp, r1, r2, ha, hacc, hxx]; rfl
      | succ n =>
        refine wpQ.go 400 (by conv => lhs; cbv) ?_
        repeat' (first
          | (refine wpQ.str rfl (Owe.sliS rfl rfl rfl (by omega) (by omega) (by omega)) fun _ _ => ?_; refine wpQ.go 400 (by conv => lhs; cbv) ?_)
          | (refine wpQ.appC (ρ := ρ) (f := srow) (acc := acc) rfl rfl rfl hn rfl rfl rfl (by omega) fun acc' hacc => ?_; refine wpQ.go 400 (by conv => lhs; cbv) ?_)
          | (exfalso; omega)
          | (refine wpQ.bif rfl (Owe.bit rfl) (fun hb => ?_) (fun hb => ?_) <;> (try simp only [decide_eq_true_eq, decide_eq_false_iff_not, beq_iff_eq, beq_eq_false_iff_ne, bne_iff_ne, bne_eq_false_iff_eq, Bool.not_eq_true, Bool.not_eq_false, Bool.not_eq_true', Bool.not_eq_false', ne_eq] at hb) <;> refine wpQ.go 400 (by conv => lhs; cbv) ?_)
          | (refine wpQ.int rfl (Owe.len rfl) fun m hm => ?_; (try rw [lst_len] at hm); refine wpQ.go 400 (by conv => lhs; cbv) ?_)
          | (refine wpQ.int rfl (Owe.ari64 rfl rfl rfl (by omega) (by omega)) fun _ _ => ?_; refine wpQ.go 400 (by conv => lhs; cbv) ?_)
          | (refine wpQ.int rfl (Owe.conv64 rfl (by omega) (by omega)) fun _ _ => ?_; refine wpQ.go 400 (by conv => lhs; cbv) ?_)
          | (refine wpQ.str rfl (Owe.cat rfl rfl (by assumption)) fun _ _ => ?_; refine wpQ.go 400 (by conv => lhs; cbv) ?_)
          | (refine wpQ.exitC ?_; refine wpQ.go 400 (by conv => lhs; cbv) ?_)
          | (refine wpQ.retC ?_; refine wpQ.go 400 (by conv => lhs; cbv) ?_)
          | (refine wpQ.fin (by conv => lhs; cbv) ?_))
        rename_i x hx i1 hi1 i2 hi2
        have hxx : x = s.extract f k := by rw [hx, hf, hi]; rfl
        refine wpQ.nextC (σ := Int × Int × Nat × List ByteArray) (_, _, n + 2, _) [(0, 1)] ⟨by simp [hacc]; omega, k + 1, k + 1, by simp only; omega, by simp only; omega, by omega, by omega, by simp only; omega, ?_⟩ (by simp only; omega) ⟨⟨.old rfl .v, .new rfl rfl, .old rfl .v, .old rfl .v, trivial⟩, rfl, ⟨⟨_, rfl, .same (kob_lst fun x _ => srow_p x)⟩, trivial⟩, rfl, rfl, rfl⟩
        rw [hp, r1, r2, hacc, hxx, List.map_append]; simp
    · have hps : partsB s = acc := by
        apply map_bL_inj
        rw [partsB_spl, hp, rest_past (by omega), List.append_nil]
      rw [hps]
      cases n with
      | zero =>
        refine wpQ.go 400 (by conv => lhs; cbv) ?_
        repeat' (first
          | (exfalso; omega)
          | (refine wpQ.bif rfl (Owe.bit rfl) (fun hb => ?_) (fun hb => ?_) <;> (try simp only [decide_eq_true_eq, decide_eq_false_iff_not, beq_iff_eq, beq_eq_false_iff_ne, bne_iff_ne, bne_eq_false_iff_eq, Bool.not_eq_true, Bool.not_eq_false, Bool.not_eq_true', Bool.not_eq_false', ne_eq] at hb) <;> refine wpQ.go 400 (by conv => lhs; cbv) ?_)
          | (refine wpQ.int rfl (Owe.len rfl) fun m hm => ?_; (try rw [lst_len] at hm); refine wpQ.go 400 (by conv => lhs; cbv) ?_)
          | (refine wpQ.int rfl (Owe.ari64 rfl rfl rfl (by omega) (by omega)) fun _ _ => ?_; refine wpQ.go 400 (by conv => lhs; cbv) ?_)
          | (refine wpQ.int rfl (Owe.conv64 rfl (by omega) (by omega)) fun _ _ => ?_; refine wpQ.go 400 (by conv => lhs; cbv) ?_)
          | (refine wpQ.str rfl (Owe.cat rfl rfl (by assumption)) fun _ _ => ?_; refine wpQ.go 400 (by conv => lhs; cbv) ?_)
          | (refine wpQ.exitC ?_; refine wpQ.go 400 (by conv => lhs; cbv) ?_)
          | (refine wpQ.retC ?_; refine wpQ.go 400 (by conv => lhs; cbv) ?_)
          | (refine wpQ.fin (by conv => lhs; cbv) ?_))
        exact Frz.accN (List.eq_nil_of_length_eq_zero hn.symm)
      | succ n =>
        refine wpQ.go 400 (by conv => lhs; cbv) ?_
        repeat' (first
          | (exfalso; omega)
          | (refine wpQ.bif rfl (Owe.bit rfl) (fun hb => ?_) (fun hb => ?_) <;> (try simp only [decide_eq_true_eq, decide_eq_false_iff_not, beq_iff_eq, beq_eq_false_iff_ne, bne_iff_ne, bne_eq_false_iff_eq, Bool.not_eq_true, Bool.not_eq_false, Bool.not_eq_true', Bool.not_eq_false', ne_eq] at hb) <;> refine wpQ.go 400 (by conv => lhs; cbv) ?_)
          | (refine wpQ.int rfl (Owe.len rfl) fun m hm => ?_; (try rw [lst_len] at hm); refine wpQ.go 400 (by conv => lhs; cbv) ?_)
          | (refine wpQ.int rfl (Owe.ari64 rfl rfl rfl (by omega) (by omega)) fun _ _ => ?_; refine wpQ.go 400 (by conv => lhs; cbv) ?_)
          | (refine wpQ.int rfl (Owe.conv64 rfl (by omega) (by omega)) fun _ _ => ?_; refine wpQ.go 400 (by conv => lhs; cbv) ?_)
          | (refine wpQ.str rfl (Owe.cat rfl rfl (by assumption)) fun _ _ => ?_; refine wpQ.go 400 (by conv => lhs; cbv) ?_)
          | (refine wpQ.exitC ?_; refine wpQ.go 400 (by conv => lhs; cbv) ?_)
          | (refine wpQ.retC ?_; refine wpQ.go 400 (by conv => lhs; cbv) ?_)
          | (refine wpQ.fin (by conv => lhs; cbv) ?_))
        exact Frz.accC rfl hn
end
end Go.Proofs.YtahhaiomdjlckaaDoor
