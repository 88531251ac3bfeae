/-
  Each operation does in a world what it does over values without addresses (all but append and calls).
-/
import Derived.Test.YtahhaiomdjlckaaDoorSound1
namespace Go.Proofs.YtahhaiomdjlckaaDoor
set_option linter.unusedVariables false
set_option linter.unusedSimpArgs false
open Go.RowKit

section
variable (P : Program) (w0 : World) (n : Nat)
/-- an operation that enters no function. -/
def RunV (o : Oper) (α : AA) (S : Store) (r : AV) (S' : Store) : Prop :=
  ∀ (A : Nat → Prop) (g : Gh) (a : Act) (w : World), St w0 A g S w → ARep g w n α a → ∃ (v : Value) (w' : World) (g' : Gh),
    ((execOp a.eval o).run P w = .ok (.value v) w' ∨ ((execOp a.eval o).run P w = .ok .skip w' ∧ v = undef)) ∧ Rep g' w' r v ∧ St w0 A g' S' w' ∧ Ext A g w g' w'
/-- an operation, whatever it does. -/
def OpS (o : Oper) (α : AA) (S : Store) (r : AV) (S' : Store) : Prop :=
  ∀ (F : Fence) (m : Nat) (A : Nat → Prop) (g : Gh) (a : Act) (w : World) (next : Act → World → Prop) (Q : Exit → Act → World → Prop), Wide F → St w0 A g S w → ARep g w n α a →
    (∀ (v : Value) (w' : World) (g' : Gh), Rep g' w' r v → St w0 A g' S' w' → Ext A g w g' w' → next (a.put o.dst v) w') → o.uponIn F m P a next Q ((o.semAt F.round a.eval).run P w)
end
section
variable {P : Program} {w0 : World} {n : Nat} {o : Oper} {α : AA} {S S' : Store} {r : AV}
theorem RunV.ops (h : RunV P w0 n o α S r S') (hd : ∀ c, o.op ≠ .defer c) : OpS P w0 n o α S r S' := by
  intro F m A g a w next Q hF hS hA hnext
  obtain ⟨v, w', g', hrun, hr, hS', hE⟩ := h A g a w hS hA
  rw [Oper.semAt_eq _ _ _ hd]
  rcases hrun with hrun | ⟨hrun, rfl⟩
  · rw [hrun]; exact hnext v w' g' hr hS' hE
  · rw [hrun]; exact hnext undef w' g' hr hS' hE
/-- an operation that leaves the world alone. -/
theorem RunV.quiet (h : ∀ (A : Nat → Prop) (g : Gh) (a : Act) (w : World), St w0 A g S w → ARep g w n α a → ∃ v, (execOp a.eval o).run P w = .ok (.value v) w ∧ Rep g w r v) : RunV P w0 n o α S r S := by
  intro A g a w hS hA
  obtain ⟨v, h1, h2⟩ := h A g a w hS hA
  exact ⟨v, w, g, .inl h1, h2, hS, Ext.refl ..⟩
theorem run_move {x : Operand} (ho : o.op = .move x ∨ o.op = .assign x) : RunV P w0 n o α S (α.ev x) S :=
  RunV.quiet fun A g a w hS hA => ⟨a.eval x, by rcases ho with ho | ho <;> simp [execOp, ho], hA.ev x⟩
theorem run_pick {c x y : Operand} {t : Bool} (ho : o.op = .pick c x y) (hc : α.ev c = .v (.bool t)) : RunV P w0 n o α S (if t then α.ev x else α.ev y) S :=
  RunV.quiet fun A g a w hS hA => by
    have h1 := hA.ev c
    rw [hc] at h1
    have h2 := rep_bool h1
    cases t with
    | true => exact ⟨a.eval x, by simp [execOp, ho, h2, asBool], hA.ev x⟩
    | false => exact ⟨a.eval y, by simp [execOp, ho, h2, asBool], hA.ev y⟩
/-- a new box. -/
theorem box_st {A : Nat → Prop} {g : Gh} {w : World} {cs : List AV} {cells : Array Value} {ty : TypeId} (hS : St w0 A g S w) (h : RepL g w cs cells) :
    ∃ g', Rep g' (w.alloc (.cells cells ty)) (.pt S.nx cs.length 0 0) (.pointer (some ⟨w.heap.size, 0, none⟩)) ∧ St w0 A g' (boxA S cs).2 (w.alloc (.cells cells ty)) ∧ Ext A g w g' (w.alloc (.cells cells ty)) := by
  obtain ⟨hE, hSt⟩ := hS.new (.cells cells ty) (.arr cs.length [cs] 0 true) 1 (fun hL => by
    refine ⟨cells, ty, heap_push_new, by rw [h.1]; simp, by simp, fun _ => rfl, fun i row hr => ?_, Nat.zero_le _, fun q => ⟨fun hf => ?_, fun hf => by simp at hf⟩⟩
    · cases i with
      | succ i => simp at hr
      | zero =>
        simp at hr
        subst hr
        refine ⟨rfl, fun j a ha => ?_⟩
        have hj : j < cells.size := by rw [h.1]; exact (List.getElem?_eq_some_iff.1 ha).1
        exact ⟨cells[j], by simp, (h.2 j a _ ha (Array.getElem?_eq_getElem hj)).later hL⟩
    · exact absurd (hS.fzlt _ _ hf) (by omega))
  refine ⟨_, ?_, hSt, hE⟩
  have := Rep.pt (g := g.new S.nx w.heap.size 1) (w := w.alloc (.cells cells ty)) (k := S.nx) (sz := cs.length) (i := 0) (j := 0) (.inr rfl)
  rw [show (g.new S.nx w.heap.size 1).ob S.nx = w.heap.size from upd_same _ _ _] at this
  simpa using this
theorem run_alloc {e : TypeId} {z : Value} (ho : o.op = .alloc e) (hz : zeroT P e = some z) : RunV P w0 n o α S (boxA S (z.cells.toList.map lift1)).1 (boxA S (z.cells.toList.map lift1)).2 := by
  intro A g a w hS hA
  obtain ⟨g', h1, h2, h3⟩ := box_st (ty := e) hS (RepL.lift1 z.cells)
  refine ⟨_, _, g', .inl ?_, h1, h2, h3⟩
  simp [execOp, ho, Instr.alloc, run_zeroT hz, newVar, newRow]
theorem run_box {e : TypeId} {x : Operand} (ho : o.op = .box e x) (hx : (cellsA (α.ev x)).all isCell = true) : RunV P w0 n o α S (boxA S (cellsA (α.ev x))).1 (boxA S (cellsA (α.ev x))).2 := by
  intro A g a w hS hA
  obtain ⟨c1, c2, c3⟩ := cellsA_rep hx (hA.ev x)
  obtain ⟨g', h1, h2, h3⟩ := box_st (ty := e) hS ⟨c1, c2⟩
  refine ⟨_, _, g', .inl ?_, h1, h2, h3⟩
  simp [execOp, ho, Instr.box, newVar, newRow]
theorem run_buildA {t : TypeId} {parts : Array (Nat × Operand)} (ho : o.op = .build t parts) (h : buildA P t (parts.toList.map fun (i, x) => (i, α.ev x)) = some r) : RunV P w0 n o α S r S :=
  RunV.quiet fun A g a w hS hA => by
    obtain ⟨v, h1, h2⟩ := build_sound (w := w) hA h
    exact ⟨v, by simp only [execOp, ho, Sem.run_bind]; rw [h1]; rfl, h2⟩
theorem run_loadT {t : TypeId} {x : Operand} (ho : o.op = .load t x) (h : loadA P S t (α.ev x) = some r) : RunV P w0 n o α S r S :=
  RunV.quiet fun A g a w hS hA => by
    obtain ⟨b, q, v, h1, h2, h3⟩ := loadA_sound hS h (hA.ev x)
    exact ⟨v, by simp [execOp, ho, Instr.loadAt, h1, Instr.sureAddr, h2], h3⟩
theorem run_storeT {t : TypeId} {x b : Operand} (ho : o.op = .store t x b) (h : storeA P S t (α.ev b) (α.ev x) = some S') : RunV P w0 n o α S (.v undef) S' := by
  intro A g a w hS hA
  obtain ⟨c, q, w', h1, h2, h3, h4, h5⟩ := storeA_sound hS h (hA.ev x) (hA.ev b)
  exact ⟨undef, w', g, .inr ⟨by simp [execOp, ho, Instr.storeAt, h1, Instr.sureAddr, h2], rfl⟩, .v, h5, h4⟩
theorem binV_run {op : BinOp} {t : TypeId} {x y : Operand} {a b v : Value} {w : World} (h : binV P op t a b = some v) : (do eqGuard op t x y a b; binOp op t a b : Sem Value).run P w = .ok v w := by
  unfold binV at h
  split at h
  · rename_i k i k' j
    split at h
    · rename_i hk
      obtain rfl := of_decide_eq_true hk
      cases op <;> simp_all [eqGuard, binOp, Op.intCmp]
    · cases h
  · cases op <;> simp_all [eqGuard, binOp, Op.stringOp]
  · rename_i p q
    split at h
    · rename_i hu
      have he : (Op.equal t (.bool p) (.bool q)).run P w = .ok (p == q) w := by
        show (Op.equalIn (9999 + 1) t (.bool p) (.bool q)).run P w = _
        rw [Op.equalIn]
        simp only [Sem.run_bind, run_underlying hu, Result.andThen_ok]
        rfl
      have hg : ∀ op : BinOp, (eqGuard op t x y (.bool p) (.bool q)).run P w = .ok () w := by
        intro op
        cases op <;> rfl
      split at h
      · obtain rfl := Option.some.inj h
        simp only [Sem.run_bind, hg, Result.andThen_ok]
        have e : binOp .eql t (.bool p) (.bool q) = (do pure (Value.bool (← Op.equal t (.bool p) (.bool q))) : Sem Value) := rfl
        rw [e]
        simp only [Sem.run_bind, he, Result.andThen_ok]
        rfl
      · obtain rfl := Option.some.inj h
        simp only [Sem.run_bind, hg, Result.andThen_ok]
        have e : binOp .neq t (.bool p) (.bool q) = (do pure (Value.bool (!(← Op.equal t (.bool p) (.bool q)))) : Sem Value) := rfl
        rw [e]
        simp only [Sem.run_bind, he, Result.andThen_ok]
        rfl
      · cases h
    · cases h
  · cases h
theorem run_binV {op : BinOp} {t ty : TypeId} {x y : Operand} {a b v : Value} (ho : o.op = .binOp op t x y ty) (hx : α.ev x = .v a) (hy : α.ev y = .v b) (h : binV P op t a b = some v) : RunV P w0 n o α S (.v v) S :=
  RunV.quiet fun A g c w hS hA => by
    have h1 := hA.ev x
    have h2 := hA.ev y
    rw [hx] at h1
    rw [hy] at h2
    have := binV_run (x := x) (y := y) (w := w) h
    simp only [Sem.run_bind] at this
    refine ⟨v, ?_, .v⟩
    simp only [execOp, ho, rep_v h1, rep_v h2, Sem.run_bind]
    rw [this]
    rfl
theorem run_arith {op : BinOp} {t ty : TypeId} {x y : Operand} {k : IntKind} {a b c : Int} (ho : o.op = .binOp op t x y ty) (hx : α.ev x = .v (.int k a)) (hy : α.ev y = .v (.int k b)) (h : arith op a b = some c) :
    RunV P w0 n o α S (.v (.int k (k.wrap c))) S :=
  RunV.quiet fun A g q w hS hA => by
    have h1 := hA.ev x
    have h2 := hA.ev y
    rw [hx] at h1
    rw [hy] at h2
    refine ⟨_, ?_, .v⟩
    cases op <;> simp_all [arith] <;> simp [execOp, ho, rep_v h1, rep_v h2, eqGuard, binOp, Op.intArith, h]
theorem run_concat {t ty : TypeId} {x y : Operand} {a b : ByteArray} (ho : o.op = .binOp .add t x y ty) (hx : α.ev x = .v (.string a)) (hy : α.ev y = .v (.string b)) (h : a.size + b.size ≤ 9223372036854775807) :
    RunV P w0 n o α S (.v (.string (a ++ b))) S :=
  RunV.quiet fun A g q w hS hA => by
    have h1 := hA.ev x
    have h2 := hA.ev y
    rw [hx] at h1
    rw [hy] at h2
    refine ⟨_, ?_, .v⟩
    have : ¬ (((a.size + b.size : Nat) : Int) > IntKind.i64.max) := by
      have : IntKind.i64.max = 9223372036854775807 := by rfl
      rw [this]
      omega
    simp only [execOp, ho, rep_v h1, rep_v h2, eqGuard, binOp, Op.stringOp, Sem.run_bind, if_neg this]
    rfl
theorem run_not {t : TypeId} {x : Operand} {b : Bool} (ho : o.op = .unOp .not t x) (hx : α.ev x = .v (.bool b)) : RunV P w0 n o α S (.v (.bool (!b))) S :=
  RunV.quiet fun A g q w hS hA => by
    have h1 := hA.ev x
    rw [hx] at h1
    exact ⟨_, by simp [execOp, ho, rep_v h1, Op.unary], .v⟩
theorem run_neg {t : TypeId} {x : Operand} {k : IntKind} {a : Int} (ho : o.op = .unOp .neg t x) (hx : α.ev x = .v (.int k a)) : RunV P w0 n o α S (.v (.int k (k.wrap (0 - a)))) S :=
  RunV.quiet fun A g q w hS hA => by
    have h1 := hA.ev x
    rw [hx] at h1
    exact ⟨_, by simp [execOp, ho, rep_v h1, Op.unary, Op.intArith], .v⟩
theorem run_convInt {src dst : TypeId} {x : Operand} {k0 k k' : IntKind} {a : Int} (ho : o.op = .convert src dst x) (hs : P.underlying src = some (.int k0)) (hd : P.underlying dst = some (.int k)) (hx : α.ev x = .v (.int k' a)) :
    RunV P w0 n o α S (.v (.int k (k.wrap a))) S :=
  RunV.quiet fun A g q w hS hA => by
    have h1 := hA.ev x
    rw [hx] at h1
    exact ⟨_, by simp [execOp, ho, rep_v h1, convert, run_underlying hs, run_underlying hd, Conv.intToInt], .v⟩
theorem run_convStr {src dst : TypeId} {x : Operand} {s : ByteArray} (ho : o.op = .convert src dst x) (hs : P.underlying src = some .string) (hd : P.underlying dst = some .string) (hx : α.ev x = .v (.string s)) :
    RunV P w0 n o α S (.v (.string s)) S :=
  RunV.quiet fun A g q w hS hA => by
    have h1 := hA.ev x
    rw [hx] at h1
    exact ⟨_, by simp [execOp, ho, rep_v h1, convert, run_underlying hs, run_underlying hd], .v⟩
theorem rep_drop {g : Gh} {w : World} {row : List AV} {b q : Nat} (h : Rep g w (.ip row) (.pointer (some ⟨b, q, none⟩))) (j : Nat) : Rep g w (.ip (row.drop j)) (.pointer (some ⟨b, q + j, none⟩)) := by
  cases h with
  | @ip _ _ _ val h hr =>
    refine .ip (val := fun i => val (j + i)) (fun i a ha => ?_) (fun i a ha => ?_)
    · rw [List.getElem?_drop] at ha
      rw [Nat.add_assoc]
      exact h (j + i) a ha
    · rw [List.getElem?_drop] at ha
      exact hr (j + i) a ha
theorem run_fieldPlace {w : World} {b q : Nat} {f : Field} {m : Nat} (h : szT P f.type = some (m + 1)) : (fieldPlace ⟨b, q, none⟩ f).run P w = .ok ⟨b, q + f.offset, none⟩ w := by
  simp [fieldPlace, run_sizeT h, addr_add]
theorem run_fieldIp {s : TypeId} {x : Operand} {f : Nat} {fs : Array Field} {fd : Field} {m : Nat} {row : List AV} (ho : o.op = .fieldAddr s x f) (hu : P.underlying s = some (.struct fs)) (hf : fs[f]? = some fd) (hs : szT P fd.type = some (m + 1))
    (hx : α.ev x = .ip row) : RunV P w0 n o α S (.ip (row.drop fd.offset)) S :=
  RunV.quiet fun A g q w hS hA => by
    have h1 := hA.ev x
    rw [hx] at h1
    obtain ⟨b, p, e, _⟩ := ip_cells h1
    rw [e] at h1
    exact ⟨_, by simp [execOp, ho, Instr.fieldAt, run_underlying hu, hf, e, Instr.sureAddr, run_fieldPlace hs], rep_drop h1 _⟩
theorem run_fieldPt {s : TypeId} {x : Operand} {f : Nat} {fs : Array Field} {fd : Field} {m k sz i j : Nat} (ho : o.op = .fieldAddr s x f) (hu : P.underlying s = some (.struct fs)) (hf : fs[f]? = some fd) (hs : szT P fd.type = some (m + 1))
    (hx : α.ev x = .pt k sz i j) : RunV P w0 n o α S (.pt k sz i (j + fd.offset)) S :=
  RunV.quiet fun A g q w hS hA => by
    have h1 := hA.ev x
    rw [hx] at h1
    obtain ⟨y, hy⟩ : ∃ y, q.eval x = y := ⟨_, rfl⟩
    rw [hy] at h1
    cases h1 with
    | pt hk => exact ⟨_, by simp [execOp, ho, Instr.fieldAt, run_underlying hu, hf, hy, Instr.sureAddr, run_fieldPlace hs]; rfl, by rw [Nat.add_assoc]; exact .pt hk⟩
theorem part_sound {g : Gh} {w : World} {t : TypeId} {l : List AV} {cs : Array Value} {j : Nat} (h : loadR P t l j = some r) (hl : RepL g w l cs) : ∃ v, (part t cs j).run P w = .ok v w ∧ Rep g w r v := by
  unfold loadR at h
  split at h
  · rename_i m ha hs
    split at h
    · rename_i hle
      have hle := Nat.le_of_ble_eq_true hle
      obtain rfl := Option.some.inj h
      rw [cutL_eq]
      refine ⟨.agg (cs.extract j (j + m)), by simp [part, run_aggT ha, run_sizeT hs], .agg ?_ (fun i b x h1 h2 => ?_)⟩
      · simp [hl.1]; omega
      · rw [List.getElem?_take] at h1
        split at h1
        · rename_i hi
          rw [List.getElem?_drop] at h1
          rw [Array.getElem?_extract] at h2
          split at h2
          · exact hl.2 _ b x h1 h2
          · cases h2
        · cases h1
    · cases h
  · rename_i ha
    have hj : j < cs.size := by rw [hl.1]; exact (List.getElem?_eq_some_iff.1 h).1
    exact ⟨cs[j], by simp [part, run_aggT ha, Array.getElem?_eq_getElem hj], hl.2 j r _ h (Array.getElem?_eq_getElem hj)⟩
  · cases h
theorem agg_inv {g : Gh} {w : World} {l : List AV} {v : Value} (h : Rep g w (.agg l) v) : ∃ cs, v = .agg cs ∧ RepL g w l cs := by
  cases h with
  | agg hs h => exact ⟨_, rfl, hs, h⟩
theorem run_fieldA {t : TypeId} {x : Operand} {f : Nat} {fs : Array Field} {fd : Field} {l : List AV} (ho : o.op = .field t x f) (hu : P.underlying t = some (.struct fs)) (hf : fs[f]? = some fd) (hx : α.ev x = .agg l) (h : loadR P fd.type l fd.offset = some r) :
    RunV P w0 n o α S r S :=
  RunV.quiet fun A g q w hS hA => by
    have h1 := hA.ev x
    rw [hx] at h1
    obtain ⟨cs, e, hl⟩ := agg_inv h1
    obtain ⟨v, h2, h3⟩ := part_sound (w := w) h hl
    exact ⟨v, by simp [execOp, ho, Instr.field, run_underlying hu, hf, e, asAgg, h2], h3⟩
theorem run_extract {x : Operand} {i : Nat} {l : List AV} (ho : o.op = .extract x i) (hx : α.ev x = .tup l) (h : l[i]? = some r) : RunV P w0 n o α S r S :=
  RunV.quiet fun A g q w hS hA => by
    have h1 := hA.ev x
    rw [hx] at h1
    obtain ⟨y, hy⟩ : ∃ y, q.eval x = y := ⟨_, rfl⟩
    rw [hy] at h1
    cases h1 with
    | @tup _ cs hs h' =>
      have hi : i < cs.size := by rw [hs]; exact (List.getElem?_eq_some_iff.1 h).1
      exact ⟨cs[i], by simp [execOp, ho, hy, Instr.extract, Array.getElem?_eq_getElem hi], h' i r _ h (Array.getElem?_eq_getElem hi)⟩
theorem reps_map {g : Gh} {w : World} {m : Nat} {a : Act} (hA : ARep g w m α a) (l : Array Operand) : (l.map a.eval).size = (l.toList.map α.ev).length ∧ ∀ (i : Nat) (b : AV) (x : Value), (l.toList.map α.ev)[i]? = some b → (l.map a.eval)[i]? = some x → Rep g w b x := by
  refine ⟨by simp, fun i b x h1 h2 => ?_⟩
  simp only [List.getElem?_map, Option.map_eq_some_iff] at h1
  obtain ⟨y, hy, rfl⟩ := h1
  rw [Array.getElem?_map] at h2
  rw [Array.getElem?_toList] at hy
  rw [hy] at h2
  simp at h2
  subst h2
  exact hA.ev y
theorem run_makeFunc {f : Fn} {first cap : Array Operand} (ho : o.op = .makeFunc f first cap) : RunV P w0 n o α S (.fn f (first.toList.map α.ev) (cap.toList.map α.ev)) S :=
  RunV.quiet fun A g q w hS hA => by
    obtain ⟨h1, h2⟩ := reps_map hA first
    obtain ⟨h3, h4⟩ := reps_map hA cap
    exact ⟨_, by simp [execOp, ho, Instr.makeFunc], .fn h1 h3 h2 h4⟩
theorem run_nilIp {x : Operand} (ho : o.op = .nilCheck x) (hx : (∃ c, α.ev x = .ip c) ∨ ∃ k sz i j, α.ev x = .pt k sz i j) : RunV P w0 n o α S (α.ev x) S :=
  RunV.quiet fun A g q w hS hA => by
    have h1 := hA.ev x
    refine ⟨q.eval x, ?_, h1⟩
    obtain ⟨y, hy⟩ : ∃ y, q.eval x = y := ⟨_, rfl⟩
    rw [hy] at h1
    rcases hx with ⟨c, hx⟩ | ⟨k, sz, i, j, hx⟩ <;> rw [hx] at h1 <;> cases h1 <;> simp [execOp, ho, hy]
end
end Go.Proofs.YtahhaiomdjlckaaDoor
