/-
  Further operations: make of a slice, the range over a string.
-/
import Derived.Test.YtahhaiomdjlckaaDoorSound6
import Derived.Laws.MakeOwn
import Derived.Laws.RangeAny
namespace Go.Proofs.YtahhaiomdjlckaaDoor
set_option linter.unusedVariables false
set_option linter.unusedSimpArgs false
open Go.RowKit

section
variable {P : Program} {w0 : World} {n : Nat} {o : Oper} {α : AA} {S S' : Store} {r : AV}
/-- a block without cells is written. -/
theorem St.putObj {A : Nat → Prop} {g : Gh} {w : World} {k : Nat} {o ob : Ob} (hS : St w0 A g S w) (hk : S.get k = some o) (ha : g.al k) {x' : Obj} {w' : World} (hw' : w' = { w with heap := w.heap.setIfInBounds (g.ob k) x' })
    (hc : ∀ q, w'.cell? ⟨g.ob k, q, none⟩ = w.cell? ⟨g.ob k, q, none⟩) (hob : Later g w g w' → w'.heap[g.ob k]? = some x' → ObRep g w' (g.ob k) (g.cp k) ob) : Ext A g w g w' ∧ St w0 A g (S.set k (some ob)) w' := by
  obtain ⟨k2, k3, k4⟩ := hS.obs k o hk ha
  have hsz : w'.heap.size = w.heap.size := by rw [hw']; simp
  have hoth : ∀ b, b ≠ g.ob k → w'.heap[b]? = w.heap[b]? := by
    intro b hb
    rw [hw']
    simp only [Array.getElem?_setIfInBounds]
    rw [if_neg (Ne.symm hb)]
  have hself : w'.heap[g.ob k]? = some x' := by
    rw [hw']
    simp [Array.getElem?_setIfInBounds, k3]
  have hcell : ∀ b q, w'.cell? ⟨b, q, none⟩ = w.cell? ⟨b, q, none⟩ := by
    intro b q
    by_cases e : b = g.ob k
    · subst e; exact hc q
    · exact World.cell?_of_block (hoth b e)
  have hL : Later g w g w' := ⟨fun _ h => h, fun _ _ => rfl, fun _ _ => rfl, fun _ _ h => h, fun b q _ => hcell b q⟩
  have hE : Ext A g w g w' := { hL with size := by rw [hsz]; exact Nat.le_refl _, keep := fun b hb hA => hoth b (fun e => hA (by rw [e]; exact k2)), nfz := fun _ _ h => .inl h }
  have key : ∀ l r, (S.set k (some ob)).get l = some r → (l = k ∧ r = ob) ∨ (l ≠ k ∧ S.get l = some r) := by
    intro l r hl
    have hl : upd S.get k (some ob) l = some r := hl
    by_cases e : l = k
    · subst e
      rw [upd_same] at hl
      exact .inl ⟨rfl, (Option.some.inj hl).symm⟩
    · rw [upd_other _ _ e] at hl
      exact .inr ⟨e, hl⟩
  refine ⟨hE, hS.next hE (by rw [hw']) (by rw [hw']) (by rw [hw']) hS.al (fun j p hj aj => ?_) (fun i j p q hi hj ai aj e => ?_) (fun b q hf => by rw [hsz]; exact hS.fzlt b q hf)⟩
  · rcases key j p hj with ⟨rfl, rfl⟩ | ⟨hne, hj⟩
    · exact ⟨k2, by rw [hsz]; exact k3, hob hL hself⟩
    · obtain ⟨h2, h3, h4⟩ := hS.obs j p hj aj
      exact ⟨h2, by rw [hsz]; exact h3, h4.later hL (hoth _ (fun e => hne (hS.inj j k p _ hj hk aj ha e))) (fun _ h => h)⟩
  · rcases key i p hi with ⟨rfl, _⟩ | ⟨h1, hi2⟩ <;> rcases key j q hj with ⟨rfl, _⟩ | ⟨h2, hj2⟩
    · rfl
    · exact hS.inj i j _ q hk hj2 ai aj e
    · exact hS.inj i j p _ hi2 hk ai aj e
    · exact hS.inj i j p q hi2 hj2 ai aj e
theorem run_makeSl {t e : TypeId} {l c : Operand} {z : Value} {sz by_ : Nat} {ka kb : IntKind} {a : Int} (ho : o.op = .makeSlice t l c) (ht : P.underlying t = some (.slice e)) (hz : zeroT P e = some z) (hs : szT P e = some sz) (hby : bytesT P e = some by_)
    (hzs : z.cells.size = sz) (hs0 : 0 < sz) (hl : α.ev l = .v (.int ka a)) (hc : α.ev c = .v (.int kb a)) (h1 : 0 ≤ a) (h2 : a * by_ ≤ 35184372088832) (h3 : a ≤ 9223372036854775807) :
    RunV P w0 n o α S (.ob S.nx sz 0 a.toNat none) (S.new (.arr sz (List.replicate a.toNat (z.cells.toList.map lift1)) 0 true)) := by
  intro A g q w hS hA
  obtain ⟨i, hi, hsz⟩ := szT_info hs
  have hzz : i.zero = some z := by unfold zeroT at hz; rw [hi] at hz; simpa using hz
  have hbb : i.bytes = by_ := by unfold bytesT at hby; rw [hi] at hby; simpa using hby
  have hrl := hA.ev l
  have hrc := hA.ev c
  rw [hl] at hrl
  rw [hc] at hrc
  have hrl := rep_v hrl
  have hrc := rep_v hrc
  have hrun := run_make (P := P) w t e i z ht hi hzz ka kb a a h1 (Int.le_refl _) (by rw [hbb, Int.mul_comm]; omega) h3
  have hfresh : ∀ q, ¬ g.fz w.heap.size q := fun q hf => absurd (hS.fzlt _ _ hf) (Nat.lt_irrefl _)
  obtain ⟨hE, hSt⟩ := hS.new (.cells (madeCells z.cells (a.toNat * i.size)) e) (.arr sz (List.replicate a.toNat (z.cells.toList.map lift1)) 0 true) a.toNat (fun hL => by
    refine ⟨_, e, heap_push_new, ?_, by simp, fun _ => by simp, fun m row hr => ?_, Nat.zero_le _, fun q => ⟨fun h => absurd h (hfresh q), fun h => by simp at h⟩⟩
    · rw [size_madeCells, hsz]
    · obtain ⟨hi', rfl⟩ := List.getElem?_eq_some_iff.1 hr
      simp only [List.length_replicate] at hi'
      simp only [List.getElem_replicate]
      refine ⟨by simp [hzs], fun j b hj => ?_⟩
      simp only [List.getElem?_map, Option.map_eq_some_iff] at hj
      obtain ⟨y, hy, rfl⟩ := hj
      have hjs : j < sz := by
        have := (List.getElem?_eq_some_iff.1 hy).1
        simp at this
        omega
      refine ⟨y, ?_, rep_lift1 y⟩
      have hlt : m * sz + j < a.toNat * sz := mul_in hi' hjs
      have hj2 : j < z.cells.size := by omega
      have e1 : (m * sz + j) % z.cells.size = j := by
        rw [hzs, Nat.mul_comm, Nat.mul_add_mod]
        exact Nat.mod_eq_of_lt hjs
      have e2 : (madeCells z.cells (a.toNat * i.size))[m * sz + j]? = some (z.cells[(m * sz + j) % z.cells.size]!) := by
        unfold madeCells
        rw [Array.getElem?_map, Array.getElem?_range, if_pos (by rw [hsz]; exact hlt)]
        rfl
      rw [e2, e1, getElem!_pos z.cells j hj2, ← hy, Array.getElem?_toList, Array.getElem?_eq_getElem hj2])
  refine ⟨.slice (some ⟨w.heap.size, 0, none⟩) a.toNat a.toNat, _, _, .inl ?_, ?_, hSt, hE⟩
  · simp only [execOp, ho, hrl, hrc, Sem.run_bind, hrun]
    rfl
  · have := Rep.ob (g := g.new S.nx w.heap.size a.toNat) (w := w.alloc (.cells (madeCells z.cells (a.toNat * i.size)) e)) (k := S.nx) (sz := sz) (off := 0) (len := a.toNat) (c := a.toNat) (cx := none) (.inr rfl) (fun m h => by cases h)
      (by rw [Nat.zero_add]; exact Nat.le_of_eq (upd_same _ _ _).symm) (fun _ => by rw [Nat.zero_add]; exact (upd_same _ _ _).symm) (Nat.le_refl _)
    rw [show (g.new S.nx w.heap.size a.toNat).ob S.nx = w.heap.size from upd_same _ _ _, Nat.zero_mul] at this
    exact this
theorem run_rangeStr {t : TypeId} {x : Operand} {s : ByteArray} (ho : o.op = .range t x) (hu : P.underlying t = some .string) (hx : α.ev x = .v (.string s)) : RunV P w0 n o α S (.pt S.nx 0 0 0) (S.new (.si s 0)) := by
  intro A g a w hS hA
  have h1 := hA.ev x
  rw [hx] at h1
  have h1 := rep_v h1
  obtain ⟨hE, hSt⟩ := hS.new (.stringIter s 0) (.si s 0) 0 (fun hL => heap_push_new)
  refine ⟨.pointer (some ⟨w.heap.size, 0, none⟩), _, _, .inl ?_, ?_, hSt, hE⟩
  · simp only [execOp, ho, h1, Sem.run_bind, run_range_string w t s hu]
    rfl
  · have := Rep.pt (g := g.new S.nx w.heap.size 0) (w := w.alloc (.stringIter s 0)) (k := S.nx) (sz := 0) (i := 0) (j := 0) (.inr rfl)
    rw [show (g.new S.nx w.heap.size 0).ob S.nx = w.heap.size from upd_same _ _ _] at this
    simpa using this
theorem pt_zero {g : Gh} {w : World} {k sz : Nat} {v : Value} (h : Rep g w (.pt k sz 0 0) v) : v = .pointer (some ⟨g.ob k, 0, none⟩) ∧ g.al k := by
  cases h with
  | pt hk => exact ⟨by simp, hk⟩
theorem run_nextStr {x : Operand} {k sz pos : Nat} {s : ByteArray} (ho : o.op = .next x true) (hx : α.ev x = .pt k sz 0 0) (hk : S.get k = some (.si s pos)) (h : pos < s.size) :
    RunV P w0 n o α S (.tup [.v (.bool true), .v (.int .i64 pos), .v (.int .i32 (Utf8.decode s pos).1)]) (S.set k (some (.si s (pos + (Utf8.decode s pos).2)))) := by
  intro A g a w hS hA
  have h1 := hA.ev x
  rw [hx] at h1
  obtain ⟨h1, ha⟩ := pt_zero h1
  obtain ⟨k2, k3, k4⟩ := hS.obs k _ hk ha
  have k4 : w.heap[g.ob k]? = some (.stringIter s pos) := k4
  obtain ⟨w', hw'⟩ : ∃ w' : World, w' = { w with heap := w.heap.setIfInBounds (g.ob k) (.stringIter s (pos + (Utf8.decode s pos).2)) } := ⟨_, rfl⟩
  have hself : w'.heap[g.ob k]? = some (.stringIter s (pos + (Utf8.decode s pos).2)) := by
    rw [hw']
    simp [Array.getElem?_setIfInBounds, k3]
  obtain ⟨hE, hSt⟩ := hS.putObj hk ha hw' (fun q => by simp [World.cell?, hself, k4]) (ob := .si s (pos + (Utf8.decode s pos).2)) (fun _ h => h)
  refine ⟨.tuple #[.bool true, .int .i64 pos, .int .i32 (Utf8.decode s pos).1], w', g, .inl ?_, ?_, hSt, hE⟩
  · rw [hw']
    simp [execOp, ho, h1, Instr.next, getObj, setObj, Sem.run, k4, h, goInt]
  · refine .tup rfl (fun i b y hb hy => ?_)
    match i with
    | 0 => simp at hb hy; subst hb hy; exact .v
    | 1 => simp at hb hy; subst hb hy; exact .v
    | 2 => simp at hb hy; subst hb hy; exact .v
    | i + 3 => simp at hb
theorem run_nextEnd {x : Operand} {k sz pos : Nat} {s : ByteArray} (ho : o.op = .next x true) (hx : α.ev x = .pt k sz 0 0) (hk : S.get k = some (.si s pos)) (h : ¬ pos < s.size) : RunV P w0 n o α S (.tup [.v (.bool false)]) S :=
  RunV.quiet fun A g a w hS hA => by
    have h1 := hA.ev x
    rw [hx] at h1
    obtain ⟨h1, ha⟩ := pt_zero h1
    obtain ⟨k2, k3, k4⟩ := hS.obs k _ hk ha
    have k4 : w.heap[g.ob k]? = some (.stringIter s pos) := k4
    refine ⟨.tuple #[.bool false], ?_, ?_⟩
    · simp [execOp, ho, h1, Instr.next, getObj, Sem.run, k4, h]
    · refine .tup rfl (fun i b y hb hy => ?_)
      match i with
      | 0 => simp at hb hy; subst hb hy; exact .v
      | i + 1 => simp at hb
end
end Go.Proofs.YtahhaiomdjlckaaDoor
