/-
  Joining the texts of tokens by separators: the scan of the joined text gives the same kinds and texts.
-/
import Derived.Test.YtmahhaabhaigiaaDoorW11
namespace Go.Proofs.YtmahhaabhaigiaaDoor
open Go.RowKit

/-- a scan as a function on the rest of a text: kinds and texts. -/
def scanL : Nat → List UInt8 → Option (List (Int × List UInt8))
  | 0, _ => none
  | f + 1, l =>
    let u := l.drop (Tk.skipF false l)
    if (Tk.tokF u).err ≠ 0 then none
    else if (Tk.tokF u).kind = 0 then some [(0, [])]
    else (scanL f (u.drop (Tk.tokF u).len)).map (((Tk.tokF u).kind, u.take (Tk.tokF u).len) :: ·)
def NR.kt (r : NR) : Int × List UInt8 := (r.kd, r.tx.toList)

theorem tl_drop (s : ByteArray) (a k : Nat) : (tl s a).drop k = tl s (a + k) := by
  unfold tl; rw [List.drop_drop]
theorem ext_toList (s : ByteArray) (p n : Nat) : (s.extract p (p + n)).toList = (tl s p).take n := by
  rw [ByteArray.toList_eq]
  unfold tl
  simp [ByteArray.data_extract, List.take_drop]
/-- a scan in terms of the rest of the text. -/
theorem scanF_scanL (s : ByteArray) (h16 : s.size ≤ 16384) : ∀ (f a : Nat) (acc : List NR) (ks : List (Int × List UInt8)), a ≤ s.size → scanL f (tl s a) = some ks →
    ∃ l, scanF s f a acc = (acc ++ l, 0, 0) ∧ l.map NR.kt = ks
  | 0, a, acc, ks, _, h => by simp [scanL] at h
  | f + 1, a, acc, ks, ha, h => by
    have hq := Tk.skipF_le (tl s a) false
    rw [tl_len] at hq
    have hn : nextR s a = resR s (a + Tk.skipF false (tl s a)) (Tk.tokF (tl s (a + Tk.skipF false (tl s a)))) := by
      unfold nextR
      rw [if_neg (by omega), if_neg (by omega)]
      rfl
    simp only [scanL, tl_drop] at h
    generalize Tk.skipF false (tl s a) = q at *
    have hl := Tk.tokF_len (tl s (a + q))
    rw [tl_len] at hl
    by_cases he : (Tk.tokF (tl s (a + q))).err = 0
    · rw [if_neg (by simp [he])] at h
      have hr : nextR s a = ⟨(Tk.tokF (tl s (a + q))).kind, (a + q : Nat), s.extract (a + q) (a + q + (Tk.tokF (tl s (a + q))).len), ((a + q + (Tk.tokF (tl s (a + q))).len : Nat) : Int), 0⟩ := by
        rw [hn]; unfold resR; rw [if_pos he]
      have he' : (nextR s a).er = 0 := by rw [hr]
      by_cases hk : (Tk.tokF (tl s (a + q))).kind = 0
      · rw [if_pos hk] at h
        obtain rfl := Option.some.inj h
        refine ⟨[nextR s a], scanF_end he' (by rw [hr]; exact hk), ?_⟩
        have hz := tokF_zero _ he hk
        rw [hr]
        simp only [List.map_cons, List.map_nil, NR.kt, ext_toList, hk]
        rw [hz]; rfl
      · rw [if_neg hk] at h
        obtain ⟨ks', h1, rfl⟩ := Option.map_eq_some_iff.1 h
        obtain ⟨l, h2, h3⟩ := scanF_scanL s h16 f (a + q + (Tk.tokF (tl s (a + q))).len) (acc ++ [nextR s a]) ks' (by omega) h1
        refine ⟨nextR s a :: l, ?_, ?_⟩
        · rw [scanF_more he' (by rw [hr]; exact hk)]
          have : (nextR s a).nx = ((a + q + (Tk.tokF (tl s (a + q))).len : Nat) : Int) := by rw [hr]
          rw [this, h2]
          simp
        · simp only [List.map_cons, h3, List.cons.injEq, and_true]
          rw [hr]
          simp only [NR.kt, ext_toList]
    · rw [if_pos he] at h; cases h

/-- a token's kind and text, as a scan finds them. -/
def Good (k : Int) (x : List UInt8) : Prop := k ≠ 0 ∧ ∃ u, Tk.tokF u = ⟨k, x.length, 0⟩ ∧ u.take x.length = x

theorem run_stop (m : Int) (c : UInt8) (r : List UInt8) (hc : ¬ m ≤ Tk.cls c.toNat) : ∀ x : List UInt8, (∀ d ∈ x, m ≤ Tk.cls d.toNat) → Tk.runF m (x ++ c :: r) = x.length
  | [], _ => by simp [Tk.runF, hc]
  | d :: x, h => by
    simp only [List.cons_append, Tk.runF, List.length_cons]
    rw [if_pos (h d (by simp)), run_stop m c r hc x (fun e he => h e (by simp [he]))]
theorem run_take (m : Int) : ∀ u : List UInt8, ∀ d ∈ u.take (Tk.runF m u), m ≤ Tk.cls d.toNat
  | [], d, h => by simp at h
  | c :: r, d, h => by
    simp only [Tk.runF] at h
    split at h
    · rename_i hc
      rw [List.take_succ_cons] at h
      rcases List.mem_cons.1 h with rfl | h
      · exact hc
      · exact run_take m r d h
    · simp at h
theorem syms_blank : ∀ x ∈ Tk.syms, ∀ d ∈ x, Tk.cls d.toNat ≠ 1 := by
  intro x hx
  simp only [Tk.syms, List.mem_cons, List.not_mem_nil, or_false] at hx
  rcases hx with rfl | rfl | rfl | rfl | rfl | rfl | rfl | rfl | rfl | rfl | rfl | rfl | rfl | rfl | rfl | rfl | rfl | rfl | rfl | rfl | rfl | rfl | rfl <;> decide
theorem isPre_append : ∀ (x y : List UInt8), Tk.isPre x (x ++ y) = true
  | [], _ => by simp [Tk.isPre]
  | a :: x, y => by simp [Tk.isPre, isPre_append x y]
theorem isPre_over : ∀ {x t : List UInt8} {c : UInt8} {r : List UInt8}, Tk.isPre x (t ++ c :: r) = true → t.length < x.length → c ∈ x
  | [], _, _, _, _, h => by simp at h
  | a :: x, [], c, r, h, _ => by
    simp only [List.nil_append, Tk.isPre, Bool.and_eq_true, beq_iff_eq] at h
    simp [h.1]
  | a :: x, b :: t, c, r, h, hl => by
    simp only [List.cons_append, Tk.isPre, Bool.and_eq_true, beq_iff_eq] at h
    exact List.mem_cons_of_mem _ (isPre_over h.2 (by simpa using hl))
theorem sym_stop {t : List UInt8} (ht : t ∈ Tk.syms) {c : UInt8} (hc : Tk.cls c.toNat = 1) (r : List UInt8) : Tk.symF (t ++ c :: r) = t := by
  have hsort : Tk.syms.Pairwise fun a b => b.length ≤ a.length := by decide
  have hpre := isPre_append t (c :: r)
  cases hf : Tk.syms.find? (fun x => Tk.isPre x (t ++ c :: r)) with
  | none =>
    have := List.find?_eq_none.1 hf _ ht
    exact absurd hpre (by simpa using this)
  | some x =>
    have h1 := Tk.find_len hsort hf t ht hpre
    have hx : Tk.isPre x (t ++ c :: r) = true := by simpa using List.find?_some hf
    have hm := List.mem_of_find?_eq_some hf
    have h2 : ¬ t.length < x.length := fun hlt => syms_blank x hm c (isPre_over hx hlt) hc
    have : x = t := Tk.pre_eq hx hpre (by omega)
    show Tk.symIn Tk.syms _ = t
    rw [Tk.symIn, hf, this]; rfl

/-- a token before a blank is the same token. -/
theorem good_tok {k : Int} {x : List UInt8} (h : Good k x) {c : UInt8} (hc : Tk.cls c.toNat = 1) (r : List UInt8) : Tk.skipF false (x ++ c :: r) = 0 ∧ Tk.tokF (x ++ c :: r) = ⟨k, x.length, 0⟩ := by
  obtain ⟨hk, u, hu, hx⟩ := h
  cases u with
  | nil =>
    simp only [Tk.tokF, Tk.Tr.mk.injEq] at hu
    exact absurd hu.1.symm hk
  | cons d v =>
    have hpos := tokF_pos (d :: v) (by rw [hu]) (by rw [hu]; exact hk)
    rw [hu] at hpos
    obtain ⟨y, hy⟩ : ∃ y, x = d :: y := by
      cases x with
      | nil => simp at hpos
      | cons e y =>
        simp only [List.length_cons, List.take_succ_cons, List.cons.injEq] at hx
        exact ⟨y, by rw [hx.1]⟩
    have hskip : Tk.cls d.toNat ≠ 1 → d.toNat ≠ 35 → Tk.skipF false (x ++ c :: r) = 0 := by
      intro h1 h2
      rw [hy]; simp [Tk.skipF, h1, h2]
    unfold Tk.tokF at hu
    dsimp only at hu
    by_cases h1 : Tk.cls d.toNat = 2 ∨ Tk.cls d.toNat = 3
    · rw [if_pos h1] at hu
      by_cases h2 : 40 < Tk.runF 2 (d :: v)
      · rw [if_pos h2] at hu
        simp only [Tk.Tr.mk.injEq] at hu; omega
      · rw [if_neg h2] at hu
        simp only [Tk.Tr.mk.injEq] at hu
        have hall := run_take 2 (d :: v)
        rw [hu.2.1, hx] at hall
        have hrun := run_stop 2 c r (by omega) x hall
        have h35 : d.toNat ≠ 35 := by
          intro h; rw [h] at h1; revert h1; decide
        refine ⟨hskip (by omega) h35, ?_⟩
        rw [hy] at hrun ⊢
        simp only [List.cons_append] at hrun ⊢
        simp only [Tk.tokF]
        rw [if_pos h1, hrun, if_neg (by rw [← hy]; omega), hu.1]
    · rw [if_neg h1] at hu
      by_cases h4 : Tk.cls d.toNat = 4
      · rw [if_pos h4] at hu
        by_cases h2 : 2147483648 < Tk.valF 0 ((d :: v).take (Tk.runF 4 (d :: v)))
        · rw [if_pos h2] at hu
          simp only [Tk.Tr.mk.injEq] at hu; omega
        · rw [if_neg h2] at hu
          simp only [Tk.Tr.mk.injEq] at hu
          have hall := run_take 4 (d :: v)
          rw [hu.2.1, hx] at h2
          rw [hu.2.1, hx] at hall
          have hrun := run_stop 4 c r (by omega) x hall
          have h35 : d.toNat ≠ 35 := by
            intro h; rw [h] at h4; revert h4; decide
          refine ⟨hskip (by omega) h35, ?_⟩
          have htk : (x ++ c :: r).take x.length = x := by simp
          rw [hy] at hrun h2 htk ⊢
          simp only [List.cons_append] at hrun htk ⊢
          simp only [Tk.tokF]
          rw [if_neg h1, if_pos h4, hrun, htk, if_neg h2, hu.1]
      · rw [if_neg h4] at hu
        by_cases hz : Tk.symF (d :: v) = []
        · rw [if_pos hz] at hu
          simp only [Tk.Tr.mk.injEq] at hu; omega
        · rw [if_neg hz] at hu
          simp only [Tk.Tr.mk.injEq] at hu
          have hxs : x = Tk.symF (d :: v) := by rw [← hx, ← hu.2.1, (Tk.symF_take (d :: v)).2]
          have hm : x ∈ Tk.syms := by rw [hxs]; exact (Tk.symF_mem (d :: v)).resolve_left hz
          have hsym := sym_stop hm hc r
          have hne : Tk.symF (x ++ c :: r) ≠ [] := by rw [hsym, hy]; simp
          obtain ⟨g1, g2⟩ := tokF_sym _ hne
          rw [hsym] at g2
          exact ⟨g1, by rw [g2, hu.1]⟩

/-- a separator: white space and comments, which begin with white space. -/
def Sep (p : List UInt8) : Prop := (∀ r, Tk.skipF false (p ++ r) = p.length + Tk.skipF false r)
theorem Sep.drop {p : List UInt8} (h : Sep p) (r : List UInt8) : (p ++ r).drop (Tk.skipF false (p ++ r)) = r.drop (Tk.skipF false r) := by
  rw [h r, List.drop_append, List.drop_of_length_le (by omega)]
  simp
theorem skip_comment : ∀ (n : List UInt8), (∀ c ∈ n, c.toNat ≠ 10) → ∀ r, Tk.skipF true (n ++ 10 :: r) = n.length + 1 + Tk.skipF false r
  | [], _, r => by simp [Tk.skipF]; omega
  | c :: n, h, r => by
    have hc := h c (by simp)
    have ih := skip_comment n (fun d hd => h d (by simp [hd])) r
    simp only [List.cons_append, Tk.skipF, List.length_cons]
    rw [if_neg hc, ih]; omega
theorem sep_space : Sep [32] := by
  intro r
  have : Tk.cls 32 = 1 := by decide
  simp [Tk.skipF, this]; omega
theorem sep_note (n : List UInt8) (h : ∀ c ∈ n, c.toNat ≠ 10) : Sep ([35] ++ n ++ [10]) := by
  intro r
  have h1 : Tk.cls 35 ≠ 1 := by decide
  have h2 := skip_comment n h r
  simp only [List.append_assoc, List.cons_append, List.nil_append, Tk.skipF]
  rw [if_neg (by simpa using h1), if_pos (by decide), h2]
  simp; omega
theorem sep_tab (n : List UInt8) (h : ∀ c ∈ n, c.toNat ≠ 10) : Sep ([9, 35] ++ n ++ [10]) := by
  intro r
  have h1 : Tk.cls 9 = 1 := by decide
  have h2 := sep_note n h r
  simp only [List.append_assoc, List.cons_append, List.nil_append] at h2 ⊢
  rw [Tk.skipF, if_pos (by simpa using h1), h2]
  simp; omega

/-- a scan begins behind a separator. -/
theorem scanL_sep {p : List UInt8} (h : Sep p) (f : Nat) (r : List UInt8) : scanL f (p ++ r) = scanL f r := by
  cases f with
  | zero => rfl
  | succ f => simp only [scanL, h.drop r]
def joinL (p : List UInt8) (L : List (Int × List UInt8)) : List UInt8 := L.flatMap fun x => x.2 ++ p
/-- the scan of joined tokens. -/
theorem scanL_join {p : List UInt8} (hp : Sep p) {c : UInt8} {p' : List UInt8} (hc : p = c :: p') (hb : Tk.cls c.toNat = 1) : ∀ (L : List (Int × List UInt8)) (f : Nat) (r : List UInt8), (∀ x ∈ L, Good x.1 x.2) →
    scanL (f + L.length) (joinL p L ++ r) = (scanL f r).map (L ++ ·)
  | [], f, r, _ => by simp [joinL]
  | x :: L, f, r, h => by
    have hg := h x (by simp)
    have ih := scanL_join hp hc hb L f r (fun y hy => h y (by simp [hy]))
    have e : joinL p (x :: L) ++ r = x.2 ++ c :: (p' ++ (joinL p L ++ r)) := by simp [joinL, hc]
    obtain ⟨g1, g2⟩ := good_tok hg hb (p' ++ (joinL p L ++ r))
    rw [e, List.length_cons, ← Nat.add_assoc, scanL]
    simp only [g1, List.drop_zero, g2]
    rw [if_neg (by simp), if_neg hg.1]
    have e2 : (x.2 ++ c :: (p' ++ (joinL p L ++ r))).drop x.2.length = p ++ (joinL p L ++ r) := by simp [hc]
    have e3 : (x.2 ++ c :: (p' ++ (joinL p L ++ r))).take x.2.length = x.2 := by simp
    rw [e2, e3, scanL_sep hp, ih]
    simp [Option.map_map, Function.comp_def]
theorem joinL_append (p : List UInt8) (L M : List (Int × List UInt8)) : joinL p (L ++ M) = joinL p L ++ joinL p M := by simp [joinL]
theorem scanL_nil (f : Nat) : scanL (f + 1) [] = some [(0, [])] := by simp [scanL, Tk.tokF, Tk.skipF]

/-- the sum of the texts' lengths. -/
def sizes : List NR → Nat
  | [] => 0
  | r :: l => r.tx.size + sizes l
theorem chain_good {s : ByteArray} : ∀ {l : List NR} {a : Nat}, Chain s a l → a ≤ s.size → ∃ init last, l = init ++ [last] ∧ NR.kt last = (0, []) ∧ (∀ x ∈ init.map NR.kt, Good x.1 x.2) ∧ a + sizes init ≤ s.size ∧ init.length ≤ sizes init
  | [], a, h, _ => h.elim
  | r :: l, a, h, ha => by
    obtain ⟨hr, he, hrest⟩ := chain_cons h
    rw [hr] at he
    obtain ⟨kd, p, tx, hn, g1, g2, g3, g4, g5, g6, g7⟩ := token_facts he
    obtain ⟨_, _, _, p', hp', _, hte, hr'⟩ := nextR_ok he
    rw [hn] at hr
    subst hr
    rcases hrest with ⟨hz, rfl⟩ | ⟨hz, hch⟩
    · have hz : kd = 0 := hz
      refine ⟨[], _, rfl, ?_, by simp, by simp [sizes]; omega, by simp⟩
      have := g6.1 hz
      have ht : tx.toList = [] := by
        rw [ByteArray.toList_eq]
        apply List.eq_nil_of_length_eq_zero
        simpa using this
      simp [NR.kt, hz, ht]
    · have hz : kd ≠ 0 := hz
      obtain ⟨init, last, rfl, h1, h2, h3, h4⟩ := chain_good (a := p + tx.size) hch g2
      have hne : tx.size ≠ 0 := fun h => hz (g6.2 h)
      refine ⟨⟨kd, p, tx, ((p + tx.size : Nat) : Int), 0⟩ :: init, last, rfl, h1, ?_, by simp only [sizes]; omega, by simp only [sizes, List.length_cons]; omega⟩
      intro x hx
      simp only [List.map_cons, List.mem_cons] at hx
      rcases hx with rfl | hx
      · refine ⟨hz, tl s p', ?_, ?_⟩
        all_goals
          rw [hn] at hr'
          simp only [NR.mk.injEq] at hr'
          obtain ⟨e1, e2, e3, e4, _⟩ := hr'
          have hpp : p = p' := by omega
          have hl := Tk.tokF_len (tl s p')
          have hlen : (Tk.tokF (tl s p')).len = tx.size := by omega
          have htl : tx.toList.length = tx.size := by rw [ByteArray.toList_eq]; simp
        · rw [show (NR.kt ⟨kd, p, tx, ((p + tx.size : Nat) : Int), 0⟩).2.length = tx.size from htl]
          show Tk.tokF (tl s p') = ⟨kd, tx.size, 0⟩
          rw [← hlen, e1, ← hte]
        · show (tl s p').take tx.toList.length = tx.toList
          have e5 := congrArg ByteArray.toList e3
          rw [ext_toList, hlen] at e5
          rw [htl, e5]
      · exact h2 x hx
/-- the kinds and texts of the joined text's tokens. -/
theorem join_scan {l : List NR} {init : List NR} {last : NR} (h : l = init ++ [last]) (h1 : NR.kt last = (0, [])) (h2 : ∀ x ∈ init.map NR.kt, Good x.1 x.2)
    {p : List UInt8} (hp : Sep p) {c : UInt8} {p' : List UInt8} (hc : p = c :: p') (hb : Tk.cls c.toNat = 1) {pre : List UInt8} (hpre : ∀ f r, scanL f (pre ++ r) = scanL f r) (n f : Nat) (hf : (init.take n).length < f) :
    scanL f (pre ++ joinL p ((l.take n).map NR.kt)) = some (((init.take n).map NR.kt) ++ [(0, [])]) := by
  rw [hpre]
  have hgood : ∀ x ∈ (init.take n).map NR.kt, Good x.1 x.2 := fun x hx => by
    obtain ⟨y, hy, rfl⟩ := List.mem_map.1 hx
    exact h2 _ (List.mem_map.2 ⟨y, List.mem_of_mem_take hy, rfl⟩)
  obtain ⟨f0, hf0⟩ : ∃ f0, f = (f0 + 1) + ((init.take n).map NR.kt).length := ⟨f - (init.take n).length - 1, by rw [List.length_map]; omega⟩
  by_cases hn : n ≤ init.length
  · rw [h, List.take_append_of_le_length hn, ← List.append_nil (joinL p _), hf0, scanL_join hp hc hb _ _ _ hgood, scanL_nil]
    rfl
  · rw [h, List.take_of_length_le (by simp; omega), List.map_append, joinL_append]
    have e : init.take n = init := List.take_of_length_le (by omega)
    rw [e] at hf0 hgood ⊢
    rw [hf0, scanL_join hp hc hb _ _ _ hgood]
    have e2 : joinL p ([last].map NR.kt) = p ++ [] := by simp [joinL, h1]
    rw [e2, scanL_sep hp, scanL_nil]
    rfl
/-- from the rest of the text to the scan. -/
theorem scanR_of {s : ByteArray} (h16 : s.size ≤ 16384) {ks : List (Int × List UInt8)} (h : scanL (s.size + 1) s.data.toList = some ks) : ∃ l, scanR s = (l, 0, 0) ∧ l.map NR.kt = ks := by
  obtain ⟨l, h1, h2⟩ := scanF_scanL s h16 (s.size + 1) 0 [] ks (Nat.zero_le _) (by rw [show tl s 0 = s.data.toList from rfl]; exact h)
  exact ⟨l, by unfold scanR; simpa using h1, h2⟩
theorem join_len (p : List UInt8) : ∀ (l : List NR), (joinL p (l.map NR.kt)).length = sizes l + l.length * p.length
  | [] => by simp [joinL, sizes]
  | r :: l => by
    have h := join_len p l
    simp only [joinL] at h
    have htl : r.tx.toList.length = r.tx.size := by rw [ByteArray.toList_eq]; simp
    simp only [joinL, List.map_cons, List.flatMap_cons, List.length_append, h, sizes, List.length_cons, Nat.succ_mul, NR.kt, htl]
    omega
theorem sizes_append (l m : List NR) : sizes (l ++ m) = sizes l + sizes m := by
  induction l with
  | nil => simp [sizes]
  | cons r l ih => simp only [List.cons_append, sizes, ih]; omega
theorem sizes_take (l : List NR) (n : Nat) : sizes (l.take n) ≤ sizes l := by
  have := sizes_append (l.take n) (l.drop n)
  rw [List.take_append_drop] at this
  omega
end Go.Proofs.YtmahhaabhaigiaaDoor
