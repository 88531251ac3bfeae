/-
  trace: Parse, Text: what they return.
-/
import Derived.Test.YtahhaiomdjlckaaDoorC3
import Derived.Lib.ItoaLen
namespace Go.Proofs.YtahhaiomdjlckaaDoor
set_option linter.unusedVariables false
set_option linter.unusedSimpArgs false
open Go.RowKit

def parseP (l : List ByteArray) : Ed × Int :=
  if (readP l).2 then (if (readP l).1.ids.length > 4 then (⟨0, 0, 0, 0, []⟩, 6) else if rangesB (readP l).1 then ((readP l).1, 0) else (⟨0, 0, 0, 0, []⟩, 5)) else (⟨0, 0, 0, 0, []⟩, 16)
def spI (n : Int) : ByteArray := sp ++ itoaB n
def idsB : List Int → ByteArray
  | [] => ⟨#[]⟩
  | n :: l => spI n ++ idsB l
def textB (x : Ed) : ByteArray :=
  if writtenB x then
    (if x.kd = 1 then wordB x.kd
     else if appB x.kd then (wordB x.kd ++ (((sp ++ itoaB x.id) ++ sp) ++ itoaB x.oc)) ++ ((sp ++ itoaB x.rl) ++ ⟨#[58]⟩) ++ idsB x.ids
     else wordB x.kd ++ (((sp ++ itoaB x.id) ++ sp) ++ itoaB x.oc))
  else ⟨#[]⟩
theorem ba_assoc (a b c : ByteArray) : a ++ b ++ c = a ++ (b ++ c) := ByteArray.append_assoc
theorem itoaB_size (n : Int) (h0 : -9223372036854775808 ≤ n) (h1 : n ≤ 9223372036854775807) : (itoaB n).size ≤ 21 := by
  have := Lib.itoa_length_le n h0 h1
  show ((Lib.itoa n).toArray).size ≤ 21
  simpa using this
theorem wordB_size (k : Int) : (wordB k).size ≤ 10 := by
  unfold wordB
  repeat' split
  all_goals decide
theorem idsB_size : ∀ (l : List Int), (∀ n ∈ l, -9223372036854775808 ≤ n ∧ n ≤ 9223372036854775807) → (idsB l).size ≤ 22 * l.length
  | [], _ => by decide
  | n :: l, h => by
    have h1 := itoaB_size n (h n (by simp)).1 (h n (by simp)).2
    have h2 := idsB_size l (fun m hm => h m (by simp [hm]))
    have h3 : sp.size = 1 := rfl
    simp only [idsB, spI, ByteArray.size_append, List.length_cons]
    omega
theorem nums_len (l : List ByteArray) : (nums l).1.length ≤ l.length := by
  unfold nums
  split <;> simp
theorem applP_ids (e : Ed) (ps : List ByteArray) : (applP e ps).1.ids.length ≤ max e.ids.length ps.length := by
  unfold applP
  split
  · rename_i p q r
    have := nums_len (q :: r)
    simp only [List.length_cons] at this ⊢
    omega
  · simp only; omega
theorem readP_ids (L : List ByteArray) : (readP L).1.ids.length ≤ L.length := by
  unfold readP
  split
  · simp
  · split
    · simp
    · split
      · split
        · split
          · rename_i q r ps _ _
            refine Nat.le_trans (applP_ids _ ps) ?_
            simp only [List.length_cons, List.length_nil]
            omega
          · simp
        · simp
      · simp
def qp7 : {q : QC × List QR // compF Tryd.progTables Tryd.f7 = some q} := ⟨_, by conv => lhs; cbv⟩
theorem qf7 : QFn Tryd.prog 7 qp7.1 Tryd.f7.ntmps := QFn.of Tryd.func7 qp7.2 rfl rfl (by kernel_rfl) Tryd.call7
section
variable {w0 : World} {ρ : Hd}
set_option maxRecDepth 100000
theorem ei_pure (p : Ed × Int) : Pure (.tup [evH ρ p.1, iv p.2]) := .tup (by
  intro a ha
  simp only [List.mem_cons, List.not_mem_nil, or_false] at ha
  rcases ha with rfl | rfl
  · exact evH_pure _
  · exact .v)
theorem parse_h (hE : Env w0) (s : ByteArray) (hs : s.size ≤ 1000000) (hl : (partsB s).length ≤ 1000000) (hI : ∀ p ∈ partsB s, p.size ≤ 1000000) (hne : partsB s ≠ []) :
    PCal Tryd.prog w0 9 [strA s] (.tup [evH ρ (parseP (partsB s)).1, iv (parseP (partsB s)).2]) := by
  have hrd := read_h (ρ := ρ) hE s hs hl hI hne
  obtain ⟨L, hL⟩ : ∃ L, partsB s = L := ⟨_, rfl⟩
  rw [hL] at hrd ⊢
  obtain ⟨R, hR⟩ : ∃ R, readP L = R := ⟨_, rfl⟩
  have hIl : R.1.ids.length ≤ 9223372036854775807 := by
    have := readP_ids L
    rw [hR] at this
    rw [hL] at hl
    omega
  refine qf9.pcal (by simp [Tryd.ntmps9]) (ei_pure _) ?_
  refine wpQ.go 400 (by conv => lhs; cbv) ?_
  rw [hR] at hrd
  repeat' (first
    | (refine wpQ.tb (evH ρ) rfl (Owe.pcall rfl hrd ⟨.v, trivial⟩) (fun v hv => ?_) (fun v hv => ?_) <;> (rw [hv] at hIl) <;> refine wpQ.go 400 (by conv => lhs; cbv) ?_)
    | (refine wpQ.bif rfl (Owe.pcall rfl (ranges_h (ρ := ρ) _ (by exact hIl)) ⟨evH_pure _, trivial⟩) (fun _ => ?_) (fun _ => ?_) <;> refine wpQ.go 400 (by conv => lhs; cbv) ?_)
    | (refine wpQ.bif rfl (Owe.bit rfl) (fun hb => ?_) (fun hb => ?_) <;> (try simp only [decide_eq_true_eq, decide_eq_false_iff_not, beq_iff_eq, beq_eq_false_iff_ne, bne_iff_ne, bne_eq_false_iff_eq, Bool.not_eq_true, Bool.not_eq_false, Bool.not_eq_true', Bool.not_eq_false', ne_eq] at hb) <;> refine wpQ.go 400 (by conv => lhs; cbv) ?_)
    | (refine wpQ.int rfl (Owe.len rfl) fun m hm => ?_; (try rw [lst_len] at hm); refine wpQ.go 400 (by conv => lhs; cbv) ?_)
    | (refine wpQ.int rfl (Owe.ari64 rfl rfl rfl (by omega) (by omega)) fun _ _ => ?_; refine wpQ.go 400 (by conv => lhs; cbv) ?_)
    | (refine wpQ.int rfl (Owe.conv64 rfl (by omega) (by omega)) fun _ _ => ?_; refine wpQ.go 400 (by conv => lhs; cbv) ?_)
    | (refine wpQ.str rfl (Owe.cat rfl rfl (by assumption)) fun _ _ => ?_; refine wpQ.go 400 (by conv => lhs; cbv) ?_)
    | (refine wpQ.exitC ?_; refine wpQ.go 400 (by conv => lhs; cbv) ?_)
    | (refine wpQ.retC ?_; refine wpQ.go 400 (by conv => lhs; cbv) ?_)
    | (refine wpQ.fin (by conv => lhs; cbv) ?_))
  · have hm : m = (v.ids.length : Int) := hm
    rw [show parseP L = (⟨0, 0, 0, 0, []⟩, 6) by simp [parseP, hR, hv]; omega]; exact frz_tup2 frz_ev0 (.refl _)
  · have hm : m = (v.ids.length : Int) := hm
    rename_i hr
    rw [show parseP L = (v, 0) by simp [parseP, hR, hv, hr]; omega]; exact Frz.of_eq rfl
  · have hm : m = (v.ids.length : Int) := hm
    rename_i hr
    rw [show parseP L = (⟨0, 0, 0, 0, []⟩, 5) by simp [parseP, hR, hv, hr]; omega]; exact frz_tup2 frz_ev0 (.refl _)
  · rw [show parseP L = (⟨0, 0, 0, 0, []⟩, 16) by simp [parseP, hR, hv]]; exact frz_tup2 frz_ev0 (.refl _)
theorem outB_not {lo n : Int} (h : outB lo n = false) : lo ≤ n ∧ n ≤ 2147483648 := by
  simp [outB] at h
  omega
theorem written_rng {x : Ed} (h : writtenB x = true) (hk : x.kd ≠ 1) : (1 ≤ x.id ∧ x.id ≤ 2147483648) ∧ (-1 ≤ x.oc ∧ x.oc ≤ 2147483648) ∧ (0 ≤ x.rl ∧ x.rl ≤ 2147483648) ∧ (∀ n ∈ x.ids, 1 ≤ n ∧ n ≤ 2147483648) ∧ x.ids.length ≤ 4 := by
  have hr : rangesB x = true := by
    unfold writtenB at h
    split at h
    · cases h
    · rename_i h1; simp at h1; exact h1.2
  have h4 : x.ids.length ≤ 4 := by
    unfold writtenB at h
    split at h
    · cases h
    · split at h
      · simp at h; omega
      · split at h
        · cases h
        · simp at h; simp [h.2]
  simp only [rangesB, Bool.or_eq_true, beq_iff_eq, hk, false_or, Bool.and_eq_true, Bool.not_eq_true', List.any_eq_false] at hr
  exact ⟨outB_not hr.1.1.1, outB_not hr.1.1.2, outB_not hr.1.2, fun n hn => outB_not (by simpa using hr.2 n hn), h4⟩
theorem itoa_s (hE : Env w0) {n : Int} (h0 : -9223372036854775808 ≤ n) (h1 : n ≤ 9223372036854775807) : PCal Tryd.prog w0 20 [iv n] (strA (itoaB n)) := itoa_h hE n h0 h1
theorem text_h (hE : Env w0) (x : Ed) (hl : x.ids.length ≤ 9223372036854775807) : PCal Tryd.prog w0 7 [evH ρ x] (strA (textB x)) := by
  have hW := written_h (w0 := w0) (ρ := ρ) x hl
  have hP := evH_pure (ρ := ρ) x
  have hR := @written_rng x
  obtain ⟨kd, id, oc, rl, ids⟩ := x
  have hws := wordB_size kd
  have z1 : ByteArray.size { data := { toList := [32] } } = 1 := rfl
  have z2 : ByteArray.size { data := { toList := [58] } } = 1 := rfl
  refine qf7.pcal (by simp [Tryd.ntmps7]) (.v) ?_
  refine wpQ.go 400 (by conv => lhs; cbv) ?_
  repeat' (first
    | (refine wpQ.bif rfl (Owe.pcall rfl hW ⟨hP, trivial⟩) (fun _ => ?_) (fun _ => ?_) <;> refine wpQ.go 400 (by conv => lhs; cbv) ?_)
    | (refine wpQ.str rfl (Owe.pcall rfl (word_s _) ⟨.v, trivial⟩) fun d hd => ?_; have hz : d.size ≤ 10 := (by rw [hd]; exact hws); refine wpQ.go 400 (by conv => lhs; cbv) ?_)
    | (refine wpQ.str rfl (Owe.pcall rfl (itoa_s hE (by have := hR (by assumption) (by assumption); simp only at this; omega) (by have := hR (by assumption) (by assumption); simp only at this; omega)) ⟨.v, trivial⟩) fun d hd => ?_; have hz : d.size ≤ 21 := (by rw [hd]; exact itoaB_size _ (by have := hR (by assumption) (by assumption); simp only at this; omega) (by have := hR (by assumption) (by assumption); simp only at this; omega)); refine wpQ.go 400 (by conv => lhs; cbv) ?_)
    | (refine wpQ.str rfl (Owe.cat rfl rfl (by omega)) fun d hd => ?_; have hz := congrArg ByteArray.size hd; rw [ByteArray.size_append] at hz; refine wpQ.go 400 (by conv => lhs; cbv) ?_)
    | (refine wpQ.bif rfl (Owe.pcall rfl (applies_p _) ⟨.v, trivial⟩) (fun _ => ?_) (fun _ => ?_) <;> refine wpQ.go 400 (by conv => lhs; cbv) ?_)
    | (refine wpQ.bif rfl (Owe.bit rfl) (fun hb => ?_) (fun hb => ?_) <;> (try simp only [decide_eq_true_eq, decide_eq_false_iff_not, beq_iff_eq, beq_eq_false_iff_ne, bne_iff_ne, bne_eq_false_iff_eq, Bool.not_eq_true, Bool.not_eq_false, Bool.not_eq_true', Bool.not_eq_false', ne_eq] at hb) <;> refine wpQ.go 400 (by conv => lhs; cbv) ?_)
    | (refine wpQ.int rfl (Owe.len rfl) fun m hm => ?_; (try rw [lst_len] at hm); refine wpQ.go 400 (by conv => lhs; cbv) ?_)
    | (refine wpQ.int rfl (Owe.ari64 rfl rfl rfl (by omega) (by omega)) fun _ _ => ?_; refine wpQ.go 400 (by conv => lhs; cbv) ?_)
    | (refine wpQ.int rfl (Owe.conv64 rfl (by omega) (by omega)) fun _ _ => ?_; refine wpQ.go 400 (by conv => lhs; cbv) ?_)
    | (refine wpQ.str rfl (Owe.cat rfl rfl (by assumption)) fun _ _ => ?_; refine wpQ.go 400 (by conv => lhs; cbv) ?_)
    | (refine wpQ.exitC ?_; refine wpQ.go 400 (by conv => lhs; cbv) ?_)
    | (refine wpQ.retC ?_; refine wpQ.go 400 (by conv => lhs; cbv) ?_)
    | (refine wpQ.fin (by conv => lhs; cbv) ?_))
  · rename_i hw
    refine Frz.of_eq ?_
    rw [textB, if_pos hw, if_pos hb, hd]
    rfl
  · rename_i hw d9 hd9 hz9 d8 hd8 hz8 d7 hd7 hz7 d6 hd6 hz6 d5 hd5 hz5 d4 hd4 hz4 d3 hd3 hz3 ha d2 hd2 hz2 d1 hd1 hz1 d0 hd0 hz0
    obtain ⟨_, _, _, hI, h4⟩ := hR hw hb
    simp only at hI h4
    have hT : textB ⟨kd, id, oc, rl, ids⟩ = d ++ idsB ids := by
      rw [textB, if_pos hw, if_neg hb, if_pos ha, hd, hd0, hd1, hd2, hd3, hd4, hd5, hd6, hd7, hd8, hd9]
      rfl
    have hsz : d.size ≤ 200 := by omega
    rw [hT]
    clear hT hd hz hd0 hz0 hd1 hz1 hd2 hz2 hd3 hz3 hd4 hz4 hd5 hz5 hd6 hz6 hd7 hz7 hd8 hz8 hd9 hz9
    refine wpQ.loopC (σ := Int × ByteArray) 1 1 [] (fun t => [(3, strA t.2), (40, lst ρ irow false ids), (41, .v (.int .i64 m)), (42, .v (.int .i64 t.1))]) [] (fun _ => [])
      (fun t => ∃ k : Nat, t.1 = k ∧ k ≤ ids.length ∧ t.2.size ≤ 200 + 22 * k ∧ d ++ idsB ids = t.2 ++ idsB (ids.drop k)) (fun t => ids.length - t.1.toNat) (0, d) ⟨0, rfl, by simp, by simpa using hsz, rfl⟩ rfl
      ⟨⟨.old rfl .v, .old rfl ((ints_pureH ids).klt), .old rfl .v, .old rfl .v, trivial⟩, rfl, trivial, rfl, rfl, rfl⟩ ?_
    rintro ⟨i, acc⟩ ⟨k, hi, hk, ha, hp⟩
    simp only at hi ha hp
    refine wpQ.go 400 (by conv => lhs; cbv) ?_
    by_cases hlt : k < ids.length
    · obtain ⟨y, hy, hy2⟩ := drop_at hlt
      have hyb := hI y (List.mem_of_getElem? hy)
      rw [hy2, idsB] at hp
      repeat' (first
        | (refine wpQ.op rfl (Owe.ind rfl rfl (lst_idx (l := ids) hi hy) (lst_all fun _ => rfl)) ?_; refine wpQ.go 400 (by conv => lhs; cbv) ?_)
        | (refine wpQ.str rfl (Owe.pcall rfl (itoa_s hE (by omega) (by omega)) ⟨.v, trivial⟩) fun d hd => ?_; have hz : d.size ≤ 21 := (by rw [hd]; exact itoaB_size _ (by omega) (by omega)); refine wpQ.go 400 (by conv => lhs; cbv) ?_)
        | (refine wpQ.str rfl (Owe.cat rfl rfl (by omega)) fun d hd => ?_; have hz := congrArg ByteArray.size hd; rw [ByteArray.size_append] at hz; refine wpQ.go 400 (by conv => lhs; cbv) ?_)
        | (refine wpQ.bif rfl (Owe.bit rfl) (fun hb => ?_) (fun hb => ?_) <;> (try simp only [decide_eq_true_eq, decide_eq_false_iff_not, beq_iff_eq, beq_eq_false_iff_ne, bne_iff_ne, bne_eq_false_iff_eq, Bool.not_eq_true, Bool.not_eq_false, Bool.not_eq_true', Bool.not_eq_false', ne_eq] at hb) <;> refine wpQ.go 400 (by conv => lhs; cbv) ?_)
        | (refine wpQ.int rfl (Owe.len rfl) fun m hm => ?_; (try rw [lst_len] at hm); refine wpQ.go 400 (by conv => lhs; cbv) ?_)
        | (refine wpQ.int rfl (Owe.ari64 rfl rfl rfl (by omega) (by omega)) fun _ _ => ?_; refine wpQ.go 400 (by conv => lhs; cbv) ?_)
        | (refine wpQ.int rfl (Owe.conv64 rfl (by omega) (by omega)) fun _ _ => ?_; refine wpQ.go 400 (by conv => lhs; cbv) ?_)
        | (refine wpQ.str rfl (Owe.cat rfl rfl (by assumption)) fun _ _ => ?_; refine wpQ.go 400 (by conv => lhs; cbv) ?_)
        | (refine wpQ.exitC ?_; refine wpQ.go 400 (by conv => lhs; cbv) ?_)
        | (refine wpQ.retC ?_; refine wpQ.go 400 (by conv => lhs; cbv) ?_)
        | (refine wpQ.fin (by conv => lhs; cbv) ?_))
      · rename_i e1 he1 hz1 e2 he2 hz2 i' hi'
        refine wpQ.nextC (σ := Int × ByteArray) (_, _) [] ⟨k + 1, by simp only; omega, by omega, by simp only; omega, ?_⟩ (by simp only; omega) ⟨⟨.old rfl .v, .old rfl ((ints_pureH ids).klt), .old rfl .v, .old rfl .v, trivial⟩, rfl, trivial, rfl, rfl, rfl⟩
        rw [hp, hd, he2, he1, ba_assoc]
        rfl
      · omega
    · skip
      repeat' (first
        | (refine wpQ.bif rfl (Owe.bit rfl) (fun hb => ?_) (fun hb => ?_) <;> (try simp only [decide_eq_true_eq, decide_eq_false_iff_not, beq_iff_eq, beq_eq_false_iff_ne, bne_iff_ne, bne_eq_false_iff_eq, Bool.not_eq_true, Bool.not_eq_false, Bool.not_eq_true', Bool.not_eq_false', ne_eq] at hb) <;> refine wpQ.go 400 (by conv => lhs; cbv) ?_)
        | (refine wpQ.int rfl (Owe.len rfl) fun m hm => ?_; (try rw [lst_len] at hm); refine wpQ.go 400 (by conv => lhs; cbv) ?_)
        | (refine wpQ.int rfl (Owe.ari64 rfl rfl rfl (by omega) (by omega)) fun _ _ => ?_; refine wpQ.go 400 (by conv => lhs; cbv) ?_)
        | (refine wpQ.int rfl (Owe.conv64 rfl (by omega) (by omega)) fun _ _ => ?_; refine wpQ.go 400 (by conv => lhs; cbv) ?_)
        | (refine wpQ.str rfl (Owe.cat rfl rfl (by assumption)) fun _ _ => ?_; refine wpQ.go 400 (by conv => lhs; cbv) ?_)
        | (refine wpQ.exitC ?_; refine wpQ.go 400 (by conv => lhs; cbv) ?_)
        | (refine wpQ.retC ?_; refine wpQ.go 400 (by conv => lhs; cbv) ?_)
        | (refine wpQ.fin (by conv => lhs; cbv) ?_))
      · omega
      · rw [hp, List.drop_eq_nil_of_le (by omega)]
        exact Frz.of_eq (by simp [idsB, strA]; exact ByteArray.append_empty.symm)
  · rename_i hw _ hd9 _ _ hd8 _ _ hd7 _ _ hd6 _ _ hd5 _ _ hd4 _ ha
    refine Frz.of_eq ?_
    rw [textB, if_pos hw, if_neg hb, if_neg (by rw [ha]; decide), hd, hd4, hd5, hd6, hd7, hd8, hd9]
    rfl
  · rename_i hw
    refine Frz.of_eq ?_
    rw [textB, if_neg (by rw [hw]; decide)]
    rfl
end
end Go.Proofs.YtahhaiomdjlckaaDoor
