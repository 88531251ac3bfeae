/-
  Aggregates out of parts: what is built stands for what was reckoned.
-/
import Derived.Test.YtahhaiomdjlckaaDoorRun
namespace Go.Proofs.YtahhaiomdjlckaaDoor
set_option linter.unusedVariables false
set_option linter.unusedSimpArgs false
open Go.RowKit

inductive All2 {α β : Type} (R : α → β → Prop) : List α → List β → Prop where
  | nil : All2 R [] []
  | cons {a : α} {b : β} {l : List α} {m : List β} (h : R a b) (t : All2 R l m) : All2 R (a :: l) (b :: m)
section
variable {P : Program} {g : Gh} {w : World} {S : Store}
theorem foldl_set (off : Nat) : ∀ (l : List Value) (k : Nat) (cs : Array Value), ((l.zipIdx k).foldl (fun cs (p : Value × Nat) => cs.setIfInBounds (off + p.2) p.1) cs).size = cs.size ∧
    (off + k + l.length ≤ cs.size → ∀ q, ((l.zipIdx k).foldl (fun cs (p : Value × Nat) => cs.setIfInBounds (off + p.2) p.1) cs)[q]? = if q < off + k then cs[q]? else if q < off + k + l.length then l[q - (off + k)]? else cs[q]?)
  | [], k, cs => ⟨rfl, fun _ q => by simp only [List.length_nil, Nat.add_zero, List.zipIdx_nil, List.foldl_nil]; split <;> first | rfl | (rename_i c; rw [if_neg c])⟩
  | v :: l, k, cs => by
    obtain ⟨h1, h2⟩ := foldl_set off l (k + 1) (cs.setIfInBounds (off + k) v)
    simp only [List.zipIdx_cons, List.foldl_cons]
    refine ⟨by rw [h1]; simp, fun hle q => ?_⟩
    simp only [List.length_cons] at hle
    rw [h2 (by simp; omega) q]
    simp only [Array.getElem?_setIfInBounds, List.length_cons]
    by_cases c1 : q < off + k
    · rw [if_pos (by omega), if_neg (by omega), if_pos c1]
    · rw [if_neg c1]
      by_cases c2 : q = off + k
      · subst c2
        rw [if_pos (by omega), if_pos rfl, if_pos (by omega), if_pos (by omega)]
        simp
      · rw [if_neg (show ¬ q < off + (k + 1) by omega)]
        by_cases c3 : q < off + k + (l.length + 1)
        · rw [if_pos (by omega), if_pos c3, show q - (off + k) = (q - (off + (k + 1))) + 1 by omega]
          simp
        · rw [if_neg (by omega), if_neg c3, if_neg (by omega)]
def RepL (g : Gh) (w : World) (l : List AV) (cs : Array Value) : Prop := cs.size = l.length ∧ ∀ (i : Nat) (a : AV) (x : Value), l[i]? = some a → cs[i]? = some x → Rep g w a x
theorem RepL.lift1 (cs : Array Value) : RepL g w (cs.toList.map lift1) cs := by
  refine ⟨by simp, fun i a x h1 h2 => ?_⟩
  simp only [List.getElem?_map, Option.map_eq_some_iff] at h1
  obtain ⟨y, hy, rfl⟩ := h1
  have : some x = some y := by rw [← h2, ← hy, Array.getElem?_toList]
  obtain rfl := Option.some.inj this
  exact rep_lift1 x
theorem RepL.lay {l : List AV} {cs cs' : Array Value} (h : RepL g w l cs) {a : AV} {x : Value} (ha : (cellsA a).all isCell = true) (hx : Rep g w a x) {off : Nat} (hle : off + (cellsA a).length ≤ l.length)
    (hs : cs'.size = cs.size) (hget : ∀ q, cs'[q]? = if q < off then cs[q]? else if q < off + x.cells.size then x.cells[q - off]? else cs[q]?) : RepL g w (layL l off (cellsA a)) cs' := by
  obtain ⟨c1, c2, c3⟩ := cellsA_rep ha hx
  refine ⟨by rw [hs, h.1, layL_length hle], fun i b y h1 h2 => ?_⟩
  rw [layL_eq, lay_get _ _ _ hle] at h1
  rw [hget, c1] at h2
  by_cases d1 : i < off
  · rw [if_pos d1] at h1 h2; exact h.2 i b y h1 h2
  · rw [if_neg d1] at h1 h2
    by_cases d2 : i < off + (cellsA a).length
    · rw [if_pos d2] at h1 h2; exact c2 _ b y h1 h2
    · rw [if_neg d2] at h1 h2; exact h.2 i b y h1 h2
theorem fill_sound {place : Nat → Option (Nat × Nat)} : ∀ {parts : List (Nat × AV)} {parts' : List (Nat × Value)} {l r : List AV} {cs : Array Value}, fillA place l parts = some r → RepL g w l cs →
    All2 (fun (p : Nat × AV) (q : Nat × Value) => p.1 = q.1 ∧ Rep g w p.2 q.2) parts parts' → ∃ cs', Instr.fill place cs parts' = some cs' ∧ RepL g w r cs'
  | [], _, l, r, cs, h, hl, hp => by
    cases hp
    obtain rfl := Option.some.inj h
    exact ⟨cs, rfl, hl⟩
  | (i, a) :: rest, _, l, r, cs, h, hl, hp => by
    cases hp with
    | @cons _ q _ rest' hq hrest =>
      obtain ⟨j, x⟩ := q
      obtain ⟨e, hx⟩ := hq
      simp only at e hx
      subst e
      simp only [fillA] at h
      split at h
      · rename_i off size hpl
        split at h
        · rename_i hc
          simp only [Bool.and_eq_true] at hc
          obtain ⟨⟨e1, e2⟩, e3⟩ := hc
          have e1 := Nat.eq_of_beq_eq_true e1
          have e2 := Nat.le_of_ble_eq_true e2
          obtain ⟨c1, c2, c3⟩ := cellsA_rep e3 hx
          have f := foldl_set off x.cells.toList 0 cs
          have hfit : off + x.cells.size ≤ cs.size := by rw [hl.1, c1]; omega
          have f2 := f.2 (by simpa using hfit)
          have hl' := hl.lay (cs' := (x.cells.toList.zipIdx 0).foldl (fun cs (p : Value × Nat) => cs.setIfInBounds (off + p.2) p.1) cs) (off := off) e3 hx (by omega) f.1 (fun q => by
            rw [f2 q]
            simp only [Nat.add_zero, Array.length_toList, Array.getElem?_toList])
          obtain ⟨cs', h1, h2⟩ := fill_sound h hl' hrest
          refine ⟨cs', ?_, h2⟩
          rw [← h1]
          simp only [Instr.fill, hpl]
          rw [if_neg (by simp only [Bool.or_eq_true, decide_eq_true_eq, not_or]; omega)]
          congr 1
          rw [← Array.foldl_toList, Array.toList_zipIdx]
        · cases h
      · cases h
theorem parts_rep {n : Nat} {α : AA} {a : Act} (hA : ARep g w n α a) : ∀ (parts : List (Nat × Operand)),
    All2 (fun (p : Nat × AV) (q : Nat × Value) => p.1 = q.1 ∧ Rep g w p.2 q.2) (parts.map fun (i, x) => (i, α.ev x)) (parts.map fun (i, x) => (i, a.eval x))
  | [] => .nil
  | (i, x) :: rest => .cons ⟨rfl, hA.ev x⟩ (parts_rep hA rest)
theorem places_ok : ∀ (fs : List Field), (fs.all fun (f : Field) => (szT P f.type).isSome) = true → ∃ pl : List (Nat × Nat), fs.mapM (fun (f : Field) => (P.info? f.type).map fun i => (f.offset, i.size)) = some pl ∧
    ∀ i : Nat, pl[i]? = match fs[i]? with | some f => (match szT P f.type with | some n => some (f.offset, n) | none => none) | none => none
  | [], _ => ⟨[], by simp, fun i => by simp⟩
  | f :: fs, h => by
    simp only [List.all_cons, Bool.and_eq_true] at h
    obtain ⟨n, hn⟩ := Option.isSome_iff_exists.1 h.1
    obtain ⟨pl, h1, h2⟩ := places_ok fs h.2
    have hn' := hn
    unfold szT at hn'
    obtain ⟨i, hi, e⟩ := Option.map_eq_some_iff.1 hn'
    refine ⟨(f.offset, n) :: pl, by simp [List.mapM_cons, hi, h1, e], fun i => ?_⟩
    cases i with
    | zero => simp [hn]
    | succ i => simpa using h2 i
theorem build_sound {n : Nat} {α : AA} {a : Act} {t : TypeId} {parts : Array (Nat × Operand)} {r : AV} (hA : ARep g w n α a) (h : buildA P t (parts.toList.map fun (i, x) => (i, α.ev x)) = some r) :
    ∃ v, (Instr.build t (parts.map fun (i, x) => (i, a.eval x))).run P w = .ok v w ∧ Rep g w r v := by
  have hp := parts_rep hA parts.toList
  unfold buildA at h
  split at h
  · rename_i cs hz
    have hz' := hz
    unfold zeroT at hz'
    obtain ⟨it, hit, hzz⟩ := Option.bind_eq_some_iff.1 hz'
    split at h
    · rename_i fs hu
      split at h
      · rename_i hall
        obtain ⟨l, hl, rfl⟩ := Option.map_eq_some_iff.1 h
        obtain ⟨cs', h1, h2⟩ := fill_sound hl (RepL.lift1 cs) hp
        obtain ⟨pl, h3, h4⟩ := places_ok fs.toList hall
        refine ⟨.agg cs', run_build w t _ cs' ?_, .agg h2.1 h2.2⟩
        have e : placeS P fs = fun x => pl.toArray[x]? := by
          funext i
          rw [List.getElem?_toArray, h4 i, Array.getElem?_toList]
          rfl
        rw [e] at h1
        simp only [Program.built, hit, hu, hzz, h3, Array.toList_map]
        exact h1
      · cases h
    · rename_i len e hu
      split at h
      · rename_i m hm
        obtain ⟨l, hl, rfl⟩ := Option.map_eq_some_iff.1 h
        obtain ⟨cs', h1, h2⟩ := fill_sound hl (RepL.lift1 cs) hp
        refine ⟨.agg cs', run_build w t _ cs' ?_, .agg h2.1 h2.2⟩
        obtain ⟨ie, hie, rfl⟩ := szT_info hm
        simp only [Program.built, hit, hu, hzz, hie, Array.toList_map]
        exact h1
      · cases h
    · cases h
  · cases h
end
end Go.Proofs.YtahhaiomdjlckaaDoor
