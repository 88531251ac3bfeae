/-
  Plain laws on tokens, without any program: what the lexer and its reference compute, as functions on lists of bytes.
-/
namespace Go.Proofs.YtmahhaabhaigiaaDoor.Tk

abbrev B := List UInt8

/-- the class of a byte: 1 blank, 2 lower, 3 upper, 4 digit, 0 other. -/
def cls (c : Nat) : Int :=
  if c = 32 ∨ c = 9 ∨ c = 13 ∨ c = 10 then 1 else
  if 97 ≤ c ∧ c ≤ 122 then 2 else
  if (65 ≤ c ∧ c ≤ 90) ∨ c = 95 then 3 else
  if 48 ≤ c ∧ c ≤ 57 then 4 else 0

theorem cls_blank {c : Nat} : cls c = 1 ↔ (c = 32 ∨ c = 9 ∨ c = 10 ∨ c = 13) := by
  unfold cls; repeat' split
  all_goals omega
theorem cls_lower {c : Nat} : cls c = 2 ↔ (97 ≤ c ∧ c ≤ 122) := by
  unfold cls; repeat' split
  all_goals omega
theorem cls_upper {c : Nat} : cls c = 3 ↔ ((65 ≤ c ∧ c ≤ 90) ∨ c = 95) := by
  unfold cls; repeat' split
  all_goals omega
theorem cls_digit {c : Nat} : cls c = 4 ↔ (48 ≤ c ∧ c ≤ 57) := by
  unfold cls; repeat' split
  all_goals omega
theorem cls_range (c : Nat) : 0 ≤ cls c ∧ cls c ≤ 4 := by
  unfold cls; repeat' split
  all_goals omega

/-- white space and comments: how many bytes; the flag says that we are inside a comment. -/
def skipF : Bool → B → Nat
  | _, [] => 0
  | false, c :: r => if cls c.toNat = 1 then skipF false r + 1 else if c.toNat = 35 then skipF true r + 1 else 0
  | true, c :: r => if c.toNat = 10 then skipF false r + 1 else skipF true r + 1

/-- the bytes of at least a class. -/
def runF (m : Int) : B → Nat
  | [] => 0
  | c :: r => if m ≤ cls c.toNat then runF m r + 1 else 0

def dig (c : UInt8) : Nat := (c.toNat + 208) % 256
def valF (acc : Nat) : B → Nat
  | [] => acc
  | c :: r => valF (min (acc * 10 + dig c) 2147483649) r

/-- the symbols, the longer ones first. -/
def syms : List B := [[61, 58, 61], [61, 92, 61], [60, 61, 62], [61, 61, 62], [61, 61], [92, 61], [61, 60], [62, 61], [64], [44], [46], [40], [41], [124], [47], [92], [43], [45], [42], [37], [61], [60], [62]]
def isPre : B → B → Bool
  | [], _ => true
  | _ :: _, [] => false
  | a :: x, b :: y => a == b && isPre x y
def symIn (L : List B) (l : B) : B := (L.find? (fun x => isPre x l)).getD []
def symF (l : B) : B := symIn syms l

/-- the token at the beginning of a text: its kind, its length, an error. -/
structure Tr where
  kind : Int
  len : Nat
  err : Int
def tokF (l : B) : Tr :=
  match l with
  | [] => ⟨0, 0, 0⟩
  | c :: _ =>
    if cls c.toNat = 2 ∨ cls c.toNat = 3 then
      (if 40 < runF 2 l then ⟨0, 0, 7⟩ else ⟨if cls c.toNat = 3 then 2 else 1, runF 2 l, 0⟩)
    else if cls c.toNat = 4 then
      (if 2147483648 < valF 0 (l.take (runF 4 l)) then ⟨0, 0, 5⟩ else ⟨3, runF 4 l, 0⟩)
    else if symF l = [] then ⟨0, 0, 16⟩ else ⟨4, (symF l).length, 0⟩

theorem skipF_le : ∀ (l : B) (b : Bool), skipF b l ≤ l.length
  | [], b => by cases b <;> simp [skipF]
  | c :: r, false => by
    have h0 := skipF_le r false
    have h1 := skipF_le r true
    simp only [skipF, List.length_cons]; repeat' split
    all_goals omega
  | c :: r, true => by
    have h0 := skipF_le r false
    have h1 := skipF_le r true
    simp only [skipF, List.length_cons]; repeat' split
    all_goals omega
theorem runF_le (m : Int) : ∀ l : B, runF m l ≤ l.length
  | [] => by simp [runF]
  | c :: r => by
    have h := runF_le m r
    simp only [runF, List.length_cons]; split <;> omega
theorem valF_le : ∀ (l : B) (a : Nat), a ≤ 2147483649 → valF a l ≤ 2147483649
  | [], a, h => h
  | c :: r, a, h => by simp only [valF]; exact valF_le r _ (by omega)
theorem valF_mono : ∀ (l : B) (a : Nat), a ≤ 2147483649 → a ≤ valF a l
  | [], a, _ => Nat.le_refl _
  | c :: r, a, h => by
    simp only [valF]
    have := valF_mono r (min (a * 10 + dig c) 2147483649) (by omega)
    omega

theorem isPre_len : ∀ {x l : B}, isPre x l = true → x.length ≤ l.length
  | [], _, _ => by simp
  | _ :: _, [], h => by simp [isPre] at h
  | a :: x, b :: y, h => by
    simp only [isPre, Bool.and_eq_true] at h
    have := isPre_len h.2
    simp; omega
theorem isPre_take : ∀ {x l : B}, isPre x l = true ↔ (x.length ≤ l.length ∧ l.take x.length = x)
  | [], _ => by simp [isPre]
  | _ :: _, [] => by simp [isPre]
  | a :: x, b :: y => by
    have ih := isPre_take (x := x) (l := y)
    simp only [isPre, Bool.and_eq_true, beq_iff_eq, List.length_cons, List.take_succ_cons, List.cons.injEq, ih]
    constructor
    · rintro ⟨rfl, h1, h2⟩; exact ⟨by omega, rfl, h2⟩
    · rintro ⟨h1, rfl, h2⟩; exact ⟨rfl, by omega, h2⟩

theorem symIn_pre (L : List B) (l : B) : isPre (symIn L l) l = true := by
  unfold symIn
  cases h : L.find? (fun x => isPre x l) with
  | none => simp [isPre]
  | some x => simpa using List.find?_some h
theorem symF_take (l : B) : (symF l).length ≤ l.length ∧ l.take (symF l).length = symF l := isPre_take.1 (symIn_pre syms l)
theorem symF_mem (l : B) : symF l = [] ∨ symF l ∈ syms := by
  unfold symF symIn
  cases h : syms.find? (fun x => isPre x l) with
  | none => exact .inl rfl
  | some x => exact .inr (by simpa using List.mem_of_find?_eq_some h)

/-- the reference's way: the longest of all symbols that stand there. -/
def bestIn (l : B) : List B → B → B
  | [], b => b
  | x :: L, b => bestIn l L (if isPre x l = true ∧ b.length < x.length then x else b)
def symsR : List B := [[64], [44], [46], [40], [41], [124], [47], [92], [43], [45], [42], [37], [61], [61, 61], [92, 61], [60], [61, 60], [62], [62, 61], [61, 58, 61], [61, 92, 61], [60, 61, 62], [61, 61, 62]]

theorem bestIn_spec (l : B) : ∀ (L : List B) (b : B), isPre b l = true →
    isPre (bestIn l L b) l = true ∧ b.length ≤ (bestIn l L b).length ∧ (∀ x ∈ L, isPre x l = true → x.length ≤ (bestIn l L b).length) ∧ (bestIn l L b = b ∨ bestIn l L b ∈ L)
  | [], b, hb => ⟨hb, Nat.le_refl _, by simp, .inl rfl⟩
  | x :: L, b, hb => by
    simp only [bestIn]
    by_cases h : isPre x l = true ∧ b.length < x.length
    · rw [if_pos h]
      obtain ⟨h1, h2, h3, h4⟩ := bestIn_spec l L x h.1
      refine ⟨h1, by omega, ?_, ?_⟩
      · intro y hy hp
        rcases List.mem_cons.1 hy with rfl | hy
        · exact h2
        · exact h3 y hy hp
      · rcases h4 with h4 | h4
        · exact .inr (by rw [h4]; simp)
        · exact .inr (List.mem_cons_of_mem _ h4)
    · rw [if_neg h]
      obtain ⟨h1, h2, h3, h4⟩ := bestIn_spec l L b hb
      refine ⟨h1, h2, ?_, ?_⟩
      · intro y hy hp
        rcases List.mem_cons.1 hy with rfl | hy
        · have : ¬ b.length < y.length := fun hh => h ⟨hp, hh⟩
          omega
        · exact h3 y hy hp
      · rcases h4 with h4 | h4
        · exact .inl h4
        · exact .inr (List.mem_cons_of_mem _ h4)

theorem find_len {l : B} : ∀ {L : List B}, (L.Pairwise fun a b => b.length ≤ a.length) → ∀ {x : B}, L.find? (fun x => isPre x l) = some x →
    ∀ y ∈ L, isPre y l = true → y.length ≤ x.length
  | [], _, _, h => by simp at h
  | z :: L, hp, x, h => by
    obtain ⟨hz, hp'⟩ := List.pairwise_cons.1 hp
    intro y hy hpre
    by_cases hzp : isPre z l = true
    · rw [List.find?_cons_of_pos (p := fun x => isPre x l) hzp] at h
      obtain rfl := Option.some.inj h
      rcases List.mem_cons.1 hy with rfl | hy
      · exact Nat.le_refl _
      · exact hz y hy
    · rw [List.find?_cons_of_neg (p := fun x => isPre x l) hzp] at h
      rcases List.mem_cons.1 hy with rfl | hy
      · exact absurd hpre hzp
      · exact find_len hp' h y hy hpre

theorem pre_eq {x y l : B} (hx : isPre x l = true) (hy : isPre y l = true) (h : x.length = y.length) : x = y := by
  have h1 := (isPre_take.1 hx).2
  have h2 := (isPre_take.1 hy).2
  rw [← h1, ← h2, h]

theorem best_sym (l : B) : bestIn l symsR [] = symF l := by
  obtain ⟨h1, _, h3, h4⟩ := bestIn_spec l symsR [] (by simp [isPre])
  have hsub : ∀ x ∈ symsR, x ∈ syms := by decide
  have hsub' : ∀ x ∈ syms, x ∈ symsR := by decide
  have hsort : syms.Pairwise fun a b => b.length ≤ a.length := by decide
  have hpre := symIn_pre syms l
  refine pre_eq h1 hpre (Nat.le_antisymm ?_ ?_)
  · rcases h4 with h4 | h4
    · rw [h4]; simp
    · cases hf : syms.find? (fun x => isPre x l) with
      | none =>
        have := List.find?_eq_none.1 hf _ (hsub _ h4)
        exact absurd h1 (by simpa using this)
      | some z =>
        have := find_len hsort hf _ (hsub _ h4) h1
        simpa [symF, symIn, hf] using this
  · rcases symF_mem l with h | h
    · show (symF l).length ≤ _
      rw [h]; simp
    · exact h3 _ (hsub' _ h) hpre

/-- the list is `syms`, some of which stand behind: a run over a part of the table. -/
theorem symIn_cons (x : B) (L : List B) (l : B) : symIn (x :: L) l = if isPre x l = true then x else symIn L l := by
  unfold symIn
  by_cases h : isPre x l = true
  · rw [List.find?_cons_of_pos (p := fun x => isPre x l) h, if_pos h]; rfl
  · rw [List.find?_cons_of_neg (p := fun x => isPre x l) h, if_neg h]

theorem tokF_len (l : B) : (tokF l).len ≤ l.length := by
  unfold tokF
  split
  · simp
  · rename_i c r
    have h1 := runF_le 2 (c :: r)
    have h2 := runF_le 4 (c :: r)
    have h3 := (symF_take (c :: r)).1
    repeat' split
    all_goals simp_all
end Go.Proofs.YtmahhaabhaigiaaDoor.Tk
