/-
  Plainly: texts at spaces, numbers and their digits.
-/
import Derived.Test.YtahhaiomdjlckaaDoorX1
import Derived.Lib.IndexBytes
import Derived.Lib.IndexLaws
namespace Go.Proofs.YtahhaiomdjlckaaDoor
set_option linter.unusedVariables false
set_option linter.unusedSimpArgs false
open Go.RowKit

def bL (s : ByteArray) : List UInt8 := s.data.toList
def spl (cur : List UInt8) : List UInt8 → List (List UInt8)
  | [] => [cur]
  | c :: l => if c = 32 then cur :: spl [] l else spl (cur ++ [c]) l
theorem spl_no : ∀ {l cur : List UInt8}, 32 ∉ l → spl cur l = [cur ++ l]
  | [], cur, _ => by simp [spl]
  | c :: l, cur, h => by
    simp only [List.mem_cons, not_or] at h
    rw [spl, if_neg (Ne.symm h.1), spl_no h.2]
    simp
theorem spl_at : ∀ {p cur l : List UInt8}, 32 ∉ p → spl cur (p ++ 32 :: l) = (cur ++ p) :: spl [] l
  | [], cur, l, _ => by simp [spl]
  | c :: p, cur, l, h => by
    simp only [List.mem_cons, not_or] at h
    rw [List.cons_append, spl, if_neg (Ne.symm h.1), spl_at h.2]
    simp
theorem bL_extract (s : ByteArray) (a b : Nat) : bL (s.extract a b) = ((bL s).take b).drop a := by
  show (s.extract a b).data.toList = (s.data.toList.take b).drop a
  rw [ByteArray.data_extract, Array.toList_extract, List.extract_eq_take_drop, List.drop_take]
theorem index_sp (s : ByteArray) : Lib.indexB s sp = Lib.indexByte (bL s) 32 := Lib.one s sp rfl
theorem parts_spl : ∀ (k : Nat) (s : ByteArray), Lib.countB s sp = k → (Lib.splitB sp 0 k s).map bL = spl [] (bL s)
  | k, s, h => by
    rcases Lib.indexB_cases s sp with hm | ⟨i, hi, hle⟩
    · have hno : 32 ∉ bL s := by
        rw [index_sp] at hm
        intro hmem
        obtain ⟨j, hj⟩ := List.getElem?_of_mem hmem
        exact Lib.indexByte_none hm j hj
      rw [Lib.splitB_miss sp 0 k s hm, spl_no hno]
      rfl
    · have hs := Lib.countB_hit s sp i (by decide) hi
      obtain ⟨k', rfl⟩ : ∃ k', k = k' + 1 := ⟨k - 1, by omega⟩
      rw [Lib.splitB_hit sp 0 k' s i hi, List.map_cons]
      have ih := parts_spl k' (s.extract (i + sp.size) s.size) (by omega)
      rw [ih]
      rw [index_sp] at hi
      obtain ⟨h1, h2⟩ := Lib.indexByte_some hi
      have hlt : i < (bL s).length := (List.getElem?_eq_some_iff.1 h1).1
      have hdec : bL s = (bL s).take i ++ 32 :: (bL s).drop (i + 1) := by
        have h3 : (bL s)[i] = 32 := (List.getElem?_eq_some_iff.1 h1).2
        rw [← h3, ← List.drop_eq_getElem_cons hlt, List.take_append_drop]
      have hno : 32 ∉ (bL s).take i := by
        intro hmem
        obtain ⟨j, hj⟩ := List.getElem?_of_mem hmem
        rw [List.getElem?_take] at hj
        split at hj
        · exact h2 j (by assumption) hj
        · cases hj
      have e2 : bL (s.extract (i + sp.size) s.size) = (bL s).drop (i + 1) := by
        rw [bL_extract]
        show ((bL s).take s.data.size).drop (i + 1) = _
        rw [List.take_of_length_le (by simp [bL])]
      have e1 : bL (s.extract 0 (i + 0)) = (bL s).take i := by rw [bL_extract]; simp
      rw [e1, e2]
      conv => rhs; rw [hdec, spl_at hno]
      simp
theorem partsB_spl (s : ByteArray) : (partsB s).map bL = spl [] (bL s) := parts_spl _ s rfl
theorem partsB_ne (s : ByteArray) : partsB s ≠ [] := by
  intro h
  have := partsB_spl s
  rw [h] at this
  have hne : ∀ (l cur : List UInt8), spl cur l ≠ [] := by
    intro l
    induction l with
    | nil => intro cur; simp [spl]
    | cons c l ih =>
      intro cur
      rw [spl]
      split
      · simp
      · exact ih _
  exact hne _ _ this.symm
theorem spl_size : ∀ (l cur : List UInt8), (spl cur l).length ≤ l.length + 1 ∧ ∀ p ∈ spl cur l, p.length ≤ cur.length + l.length
  | [], cur => by simp [spl]
  | c :: l, cur => by
    rw [spl]
    split
    · obtain ⟨h1, h2⟩ := spl_size l []
      refine ⟨by simp only [List.length_cons]; omega, fun p hp => ?_⟩
      rcases List.mem_cons.1 hp with rfl | hp
      · omega
      · have := h2 p hp
        simp only [List.length_nil, List.length_cons] at this ⊢
        omega
    · obtain ⟨h1, h2⟩ := spl_size l (cur ++ [c])
      refine ⟨by simp only [List.length_cons]; omega, fun p hp => ?_⟩
      have := h2 p hp
      simp only [List.length_append, List.length_cons, List.length_nil] at this ⊢
      omega
theorem partsB_size (s : ByteArray) : (partsB s).length ≤ s.size + 1 ∧ ∀ p ∈ partsB s, p.size ≤ s.size := by
  obtain ⟨h1, h2⟩ := spl_size (bL s) []
  rw [← partsB_spl] at h1 h2
  have hz : (bL s).length = s.size := (size_toL s).symm
  refine ⟨by rw [List.length_map] at h1; omega, fun p hp => ?_⟩
  have := h2 (bL p) (List.mem_map.2 ⟨p, hp, rfl⟩)
  rw [← hz]
  have hp2 : (bL p).length = p.size := (size_toL p).symm
  simpa [hp2] using this
/- NUMBERS. -/
def dg (c : UInt8) : Prop := 48 ≤ c.toNat ∧ c.toNat ≤ 57
def dv : Int → List UInt8 → Int
  | n, [] => n
  | n, c :: l => dv (10 * n + ((c.toNat : Int) - 48)) l
theorem dv_append : ∀ (l m : List UInt8) (n : Int), dv n (l ++ m) = dv (dv n l) m
  | [], m, n => rfl
  | c :: l, m, n => by rw [List.cons_append, dv, dv, dv_append]
theorem dv_ge : ∀ (l : List UInt8) (n : Int), 0 ≤ n → (∀ c ∈ l, dg c) → n ≤ dv n l
  | [], n, h, _ => Int.le_refl n
  | c :: l, n, h, hd => by
    have h1 := hd c (by simp)
    have h2 := dv_ge l (10 * n + ((c.toNat : Int) - 48)) (by unfold dg at h1; omega) (fun x hx => hd x (by simp [hx]))
    rw [dv]
    unfold dg at h1
    omega
theorem scan_dv : ∀ (l : List UInt8) (n : Int), 0 ≤ n → (∀ c ∈ l, dg c) → scanB (min n 2147483649) l = (min (dv n l) 2147483649, true)
  | [], n, h, _ => rfl
  | c :: l, n, h, hd => by
    have h1 := hd c (by simp)
    unfold dg at h1
    rw [scanB, if_neg (by omega), dv]
    have h2 := scan_dv l (10 * n + ((c.toNat : Int) - 48)) (by omega) (fun x hx => hd x (by simp [hx]))
    rw [← h2]
    congr 1
    omega
theorem scan_dg : ∀ (l : List UInt8) (n m : Int), scanB n l = (m, true) → ∀ c ∈ l, dg c
  | [], n, m, _, c, hc => by cases hc
  | d :: l, n, m, h, c, hc => by
    rw [scanB] at h
    split at h
    · simp at h
    · rcases List.mem_cons.1 hc with rfl | hc
      · unfold dg; omega
      · exact scan_dg l _ _ h c hc
theorem dec_dg : ∀ (k u : Nat), u ≤ k → (∀ c ∈ Lib.decDigits u, dg c) ∧ dv 0 (Lib.decDigits u) = u ∧ ∃ c r, Lib.decDigits u = c :: r ∧ (r ≠ [] → c ≠ 48)
  | k, u, hk => by
    have ofn : ∀ d, d < 10 → (UInt8.ofNat (48 + d)).toNat = 48 + d := fun d hd => by
      simp only [UInt8.toNat_ofNat']; omega
    by_cases h : u < 10
    · rw [Lib.decDigits_one h]
      refine ⟨fun c hc => ?_, ?_, _, _, rfl, fun h => absurd rfl h⟩
      · obtain rfl := List.mem_singleton.1 hc
        unfold dg
        rw [ofn u h]; omega
      · simp only [dv]
        rw [ofn u h]; omega
    · rw [Lib.decDigits, dif_neg h]
      match k, hk with
      | 0, hk => omega
      | k + 1, hk =>
        obtain ⟨h1, h2, c, r, h3, h4⟩ := dec_dg k (u / 10) (by omega)
        refine ⟨fun c hc => ?_, ?_, ?_⟩
        · rcases List.mem_append.1 hc with hc | hc
          · exact h1 c hc
          · obtain rfl := List.mem_singleton.1 hc
            unfold dg
            rw [ofn (u % 10) (by omega)]; omega
        · rw [dv_append, h2]
          simp only [dv]
          rw [ofn (u % 10) (by omega)]; omega
        · refine ⟨c, r ++ [UInt8.ofNat (48 + u % 10)], by rw [h3]; rfl, fun _ e => ?_⟩
          by_cases hr : r = []
          · subst hr
            rw [h3, e] at h2
            simp only [dv] at h2
            have : ((48 : UInt8).toNat : Int) = 48 := rfl
            omega
          · exact h4 hr e
theorem numL_dec (u : Nat) (h : u ≤ 2147483648) : numL (Lib.decDigits u) = ((u : Int), true) := by
  obtain ⟨h1, h2, c, r, h3, h4⟩ := dec_dg u u (Nat.le_refl _)
  rw [numL_scan (by rw [h3]; simp) (fun c' d r' e => by
    rw [h3] at e
    injection e with e1 e2
    subst e1
    intro hc
    exact h4 (by rw [e2]; simp) (by apply UInt8.toNat_inj.1; show c.toNat = 48; omega))]
  have := scan_dv (Lib.decDigits u) 0 (by omega) h1
  rw [h2] at this
  rw [show min (0 : Int) 2147483649 = 0 by omega] at this
  rw [this]
  simp only [Prod.mk.injEq, and_true]
  omega
theorem dec_numL (l : List UInt8) (n : Int) (h : numL l = (n, true)) (hn : n ≤ 2147483648) : 0 ≤ n ∧ Lib.decDigits n.toNat = l := by
  unfold numL at h
  split at h
  · simp at h
  · simp at h
  · rename_i h0 h48
    have hd := scan_dg l 0 n h
    have h1 := scan_dv l 0 (by omega) hd
    rw [show min (0 : Int) 2147483649 = 0 by omega, h] at h1
    simp only [Prod.mk.injEq, and_true] at h1
    have hge := dv_ge l 0 (by omega) hd
    have hv : dv 0 l = n := by omega
    have key : ∀ (m : Nat) (l : List UInt8), l.length = m → l ≠ [] → (∀ c d r, l = c :: d :: r → c ≠ 48) → (∀ c ∈ l, dg c) → Lib.decDigits (dv 0 l).toNat = l := by
      intro m
      induction m with
      | zero => intro l hl hne; exact absurd (List.eq_nil_of_length_eq_zero hl) hne
      | succ m ih =>
        intro l hl hne hlead hd
        obtain ⟨p, c, rfl⟩ : ∃ p c, l = p ++ [c] := ⟨l.dropLast, l.getLast hne, (List.dropLast_concat_getLast hne).symm⟩
        have hc := hd c (by simp)
        unfold dg at hc
        have hdp : ∀ x ∈ p, dg x := fun x hx => hd x (by simp [hx])
        rw [dv_append]
        simp only [dv]
        by_cases hp : p = []
        · subst hp
          simp only [dv, List.nil_append]
          rw [show (10 * (0 : Int) + ((c.toNat : Int) - 48)).toNat = c.toNat - 48 by omega, Lib.decDigits_one (by omega)]
          rw [show 48 + (c.toNat - 48) = c.toNat by omega]
          simp
        · have hv1 : 1 ≤ dv 0 p := by
            cases p with
            | nil => exact absurd rfl hp
            | cons a q =>
              have ha : a ≠ 48 := by
                cases q with
                | nil => exact hlead a c [] rfl
                | cons b q => exact hlead a b (q ++ [c]) rfl
              have hda := hdp a (by simp)
              unfold dg at hda
              have : a.toNat ≠ 48 := fun e => ha (UInt8.toNat_inj.1 e)
              have hge := dv_ge q (10 * 0 + ((a.toNat : Int) - 48)) (by omega) (fun x hx => hdp x (by simp [hx]))
              rw [dv]
              omega
          have ih' := ih p (by simp at hl; omega) hp (fun a b r e => by
            subst e
            exact hlead a b (r ++ [c]) rfl) hdp
          rw [Lib.decDigits, dif_neg (by omega)]
          rw [show (10 * dv 0 p + ((c.toNat : Int) - 48)).toNat / 10 = (dv 0 p).toNat by omega, ih']
          rw [show 48 + (10 * dv 0 p + ((c.toNat : Int) - 48)).toNat % 10 = c.toNat by omega]
          simp
    have hk := key l.length l rfl (fun e => h0 e) (fun c d r e hc => h48 d r (by rw [e, hc])) hd
    rw [hv] at hk
    exact ⟨by omega, hk⟩
end Go.Proofs.YtahhaiomdjlckaaDoor
