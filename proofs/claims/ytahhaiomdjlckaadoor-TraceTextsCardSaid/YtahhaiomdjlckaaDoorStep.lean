/-
  Stepping through code without unfolding what is to be shown: a data evaluator for operations that owe nothing, and a lemma for each other one.
-/
import Derived.Test.YtahhaiomdjlckaaDoorDraw
namespace Go.Proofs.YtahhaiomdjlckaaDoor
set_option linter.unusedVariables false
set_option linter.unusedSimpArgs false
open Go.RowKit

/-- a value is reckoned before it goes on. -/
def forceA {β : Type} (r : AV) (k : AV → β) : β := match r with
  | .u => k .u
  | .v x => k (.v x)
  | .agg l => k (.agg l)
  | .tup l => k (.tup l)
  | .sl e l => k (.sl e l)
  | .ip l => k (.ip l)
  | .ob a b c d e => k (.ob a b c d e)
  | .pt a b c d => k (.pt a b c d)
  | .mp a => k (.mp a)
  | .fn a b c => k (.fn a b c)
  | .yl a => k (.yl a)
theorem forceA_eq {β : Type} {r : AV} {k : AV → β} : forceA r k = k r := by cases r <;> rfl
/-- a list with its elements reckoned. -/
def forceL {β : Type} : List AV → (List AV → β) → β
  | [], k => k []
  | a :: l, k => forceA a fun a => forceL l fun l => k (a :: l)
theorem forceL_eq {β : Type} : ∀ {l : List AV} {k : List AV → β}, forceL l k = k l
  | [], k => rfl
  | a :: l, k => by rw [forceL, forceA_eq, forceL_eq]
def deepA {β : Type} (r : AV) (k : AV → β) : β := match r with
  | .u => k .u
  | .v x => k (.v x)
  | .agg l => forceL l fun l => k (.agg l)
  | .tup l => forceL l fun l => k (.tup l)
  | .sl e l => k (.sl e l)
  | .ip l => forceL l fun l => k (.ip l)
  | .ob a b c d e => k (.ob a b c d e)
  | .pt a b c d => k (.pt a b c d)
  | .mp a => k (.mp a)
  | .fn a b c => forceL b fun b => forceL c fun c => k (.fn a b c)
  | .yl a => k (.yl a)
theorem deepA_eq {β : Type} {r : AV} {k : AV → β} : deepA r k = k r := by
  cases r <;> simp only [deepA, forceL_eq]
def forceR {β : Type} : List (List AV) → (List (List AV) → β) → β
  | [], k => k []
  | a :: l, k => forceL a fun a => forceR l fun l => k (a :: l)
theorem forceR_eq {β : Type} : ∀ {l : List (List AV)} {k : List (List AV) → β}, forceR l k = k l
  | [], k => rfl
  | a :: l, k => by rw [forceR, forceL_eq, forceR_eq]
/-- a new box, its cells reckoned. -/
def boxQ (S : Store) (cs : List AV) : Option (AV × Store) := forceL cs fun cs => match S with | ⟨g, x⟩ => some (.pt x cs.length 0 0, ⟨upd g x (some (.arr cs.length [cs] 0 true)), x + 1⟩)
theorem boxQ_eq {S : Store} {cs : List AV} : boxQ S cs = some (boxA S cs) := by
  unfold boxQ
  rw [forceL_eq]
  rfl
/-- a store into a box. -/
def storeQ (P : Program) (S : Store) (t : TypeId) (b : AV) : AV → Option Store
  | .pt k sz 0 j => match S.get k with
    | some (.arr sz' [row] 0 ex) => match Nat.beq sz sz' && (cellsA b).all isCell && (match szT P t with | some m => Nat.beq m (cellsA b).length | none => false) with
      | true => match Nat.ble (j + (cellsA b).length) row.length with
        | true => forceL (layL row j (cellsA b)) fun row' => match S with | ⟨g, x⟩ => some ⟨upd g k (some (.arr sz [row'] 0 ex)), x⟩
        | false => none
      | false => none
    | _ => none
  | _ => none
theorem storeQ_sound {P : Program} {S S' : Store} {t : TypeId} {b x : AV} (h : storeQ P S t b x = some S') : storeA P S t b x = some S' := by
  unfold storeQ at h
  split at h
  · rename_i k sz j
    split at h
    · rename_i sz' row ex hk
      split at h
      · rename_i hc
        split at h
        · rename_i hl
          rw [forceL_eq] at h
          simp only [storeA, hk]
          split
          · simp only [List.getElem?_cons_zero, hl]
            exact h
          · rename_i hc2
            have : true = false := hc.symm.trans hc2
            cases this
        · cases h
      · cases h
    · cases h
  · cases h
/-- an operation that owes nothing. -/
def opQ (P : Program) (o : Op) (α : AA) (S : Store) : Option (AV × Store) :=
  match o with
  | .move x => some (α.ev x, S)
  | .assign x => some (α.ev x, S)
  | .pick c a b => match α.ev c with
    | .v (.bool true) => some (α.ev a, S)
    | .v (.bool false) => some (α.ev b, S)
    | _ => none
  | .alloc e => match zeroT P e with
    | some z => boxQ S (z.cells.toList.map lift1)
    | none => none
  | .box _ x => match (cellsA (α.ev x)).all isCell with
    | true => boxQ S (cellsA (α.ev x))
    | false => none
  | .build t parts => match buildA P t (parts.toList.map fun (i, x) => (i, α.ev x)) with
    | some a => some (a, S)
    | none => none
  | .load t x => match loadA P S t (α.ev x) with
    | some a => some (a, S)
    | none => none
  | .buildSlice t len parts => match elemT P t with
    | some e => match zeroT P e, szT P e with
      | some z, some m => match Nat.ble (len * m) 16777216 && Nat.beq z.cells.size m && Nat.blt 0 m with
        | true => match rowsF m (List.replicate len (z.cells.toList.map lift1)) (parts.toList.map fun (i, x) => (i, α.ev x)) with
          | some rows => forceR rows fun rows => some (.sl true rows, S)
          | none => none
        | false => none
      | _, _ => none
    | none => none
  | .store t x b => match storeQ P S t (α.ev b) (α.ev x) with
    | some S' => some (.v undef, S')
    | none => none
  | .unOp op _ x => match op, α.ev x with
    | .not, .v (.bool true) => some (.v (.bool false), S)
    | .not, .v (.bool false) => some (.v (.bool true), S)
    | _, _ => none
  | .fieldAddr s x f => match P.underlying s with
    | some (.struct fs) => match fs[f]? with
      | some fd => match szT P fd.type with
        | some (_ + 1) => match α.ev x with
          | .ip row => some (.ip (row.drop fd.offset), S)
          | .pt k sz i j => some (.pt k sz i (j + fd.offset), S)
          | _ => none
        | _ => none
      | none => none
    | _ => none
  | .field t x f => match P.underlying t with
    | some (.struct fs) => match fs[f]? with
      | some fd => match α.ev x with
        | .agg l => match loadR P fd.type l fd.offset with
          | some a => some (a, S)
          | none => none
        | _ => none
      | none => none
    | _ => none
  | .extract x i => match α.ev x with
    | .tup l => match l[i]? with
      | some a => some (a, S)
      | none => none
    | _ => none
  | .makeFunc f first cap => some (.fn f (first.toList.map α.ev) (cap.toList.map α.ev), S)
  | .nilCheck x => match α.ev x with
    | .ip c => some (.ip c, S)
    | .pt k sz i j => some (.pt k sz i j, S)
    | _ => none
  | .call c => match c.callee, c.argTypes.toList, c.args.toList with
    | .builtin .len, [t], [x] => match lenOf P t (α.ev x) with
      | some m => some (.v (.int .i64 (m : Int)), S)
      | none => none
    | _, _, _ => none
  | _ => none
section
variable {P : Program} {w0 : World} {n : Nat} {o : Op} {α : AA} {S S' : Store} {r : AV}
theorem opQ_sound (h : opQ P o α S = some (r, S')) : opK P w0 o α S (IsO r S') := by
  have e : ∀ {a : AV} {T : Store}, some (a, T) = some (r, S') → a = r ∧ T = S' := fun h => by injection h with h; injection h with h1 h2; exact ⟨h1, h2⟩
  have e2 : ∀ {q : AV × Store}, some q = some (r, S') → q.1 = r ∧ q.2 = S' := fun h => by injection h with h; subst h; exact ⟨rfl, rfl⟩
  cases o with
  | move x => exact e h
  | assign x => exact e h
  | pick c a b =>
    simp only [opQ] at h
    simp only [opK]
    split at h
    · rename_i hc; rw [hc]; exact e h
    · rename_i hc; rw [hc]; exact e h
    · cases h
  | alloc t =>
    simp only [opQ] at h
    simp only [opK]
    split at h
    · rename_i z hz; rw [hz]; rw [boxQ_eq] at h; exact e2 h
    · cases h
  | box t x =>
    simp only [opQ] at h
    simp only [opK]
    split at h
    · rename_i hx; rw [hx]; rw [boxQ_eq] at h; exact e2 h
    · cases h
  | buildSlice t len parts =>
    simp only [opQ] at h
    simp only [opK]
    split at h
    · rename_i el he
      split at h
      · rename_i z m hz hs
        split at h
        · rename_i hb
          split at h
          · rename_i rows hr
            rw [forceR_eq] at h
            simp only [he, hz, hs, hb, hr]
            exact e h
          · cases h
        · cases h
      · cases h
    · cases h
  | build t parts =>
    simp only [opQ] at h
    simp only [opK]
    split at h
    · rename_i z hz; rw [hz]; exact e h
    · cases h
  | load t x =>
    simp only [opQ] at h
    simp only [opK]
    split at h
    · rename_i z hz; exact gotA.mk hz (e h)
    · cases h
  | store t x b =>
    simp only [opQ] at h
    simp only [opK]
    split at h
    · rename_i z hz; exact gotA.mk (storeQ_sound hz) (e h)
    · cases h
  | unOp op t x =>
    simp only [opQ] at h
    simp only [opK]
    split at h
    · rename_i hc; rw [hc]; exact e h
    · rename_i hc; rw [hc]; exact e h
    · cases h
  | fieldAddr s x f =>
    simp only [opQ] at h
    simp only [opK]
    split at h
    · rename_i fs hu
      split at h
      · rename_i fd hf
        split at h
        · rename_i m hs
          split at h
          · rename_i row hx; simp only [hu, hf, hs, hx]; exact e h
          · rename_i k sz i j hx; simp only [hu, hf, hs, hx]; exact e h
          · cases h
        · cases h
      · cases h
    · cases h
  | field t x f =>
    simp only [opQ] at h
    simp only [opK]
    split at h
    · rename_i fs hu
      split at h
      · rename_i fd hf
        split at h
        · rename_i l hx
          split at h
          · rename_i a ha; simp only [hu, hf, hx]; exact gotA.mk ha (e h)
          · cases h
        · cases h
      · cases h
    · cases h
  | extract x i =>
    simp only [opQ] at h
    simp only [opK]
    split at h
    · rename_i l hx
      split at h
      · rename_i a ha; simp only [hx, ha]; exact e h
      · cases h
    · cases h
  | makeFunc f first cap => exact e h
  | nilCheck x =>
    simp only [opQ] at h
    simp only [opK]
    split at h
    · rename_i c hx; rw [hx]; exact e h
    · rename_i k sz i j hx; rw [hx]; exact e h
    · cases h
  | call c =>
    simp only [opQ] at h
    simp only [opK]
    split at h
    · rename_i t x hc ht hx
      split at h
      · rename_i m hm
        rw [hc, ht, hx]
        exact gotA.mk hm (e h)
      · cases h
    · cases h
  | _ => cases h
/-- is an operation carried out? -/
def wantA (ops : List Oper) (α : AA) (o : Oper) : Option Bool :=
  match o.guard with
  | none => some true
  | some (j, want) => match ydL ops α j with
    | some (some true) => some want
    | some (some false) => some (!want)
    | some none => some false
    | none => none
def putA (d : Option Tmp) (α : AA) (r : AV) : AA := match d with | some d => ⟨upd α.tm d r, α.df⟩ | none => α
/-- a region's operations, as far as they owe nothing. -/
def evalQ (P : Program) (n : Nat) (ops : List Oper) : List Oper → AA → Store → List Oper × AA × Store
  | [], α, S => ([], α, S)
  | o :: rest, α, S => match dstOk n o.dst with
    | true => match wantA ops α o with
      | some true => match opQ P o.op α S with
        | some (r, S') => deepA r fun r => evalQ P n ops rest (putA o.dst α r) S'
        | none => (o :: rest, α, S)
      | some false => evalQ P n ops rest (putA o.dst α (.v undef)) S
      | none => (o :: rest, α, S)
    | false => (o :: rest, α, S)
end
section
variable {P : Program} {w0 : World} {n : Nat} {o : Oper} {α : AA} {S S' : Store} {r : AV} {ops l rest : List Oper} {Q : AA → Store → Prop}
theorem putA_eq {d : Option Tmp} : putA d α r = α.put d r := by cases d <;> rfl
/-- the rest l of a region, in the order of the text. -/
def RunW (P : Program) (w0 : World) (n : Nat) (ops l : List Oper) (Q : AA → Store → Prop) (α : AA) (S : Store) : Prop :=
  ∀ k, ops.drop k = l → ∃ α' S', OpsS P w0 n ops.toArray (List.range' k l.length) α S α' S' ∧ Q α' S'
theorem drop_cons {k : Nat} (h : ops.drop k = o :: rest) : ops.toArray[k]? = some o ∧ ops.drop (k + 1) = rest := by
  refine ⟨?_, ?_⟩
  · have := congrArg (·[0]?) h
    simpa using this
  · rw [← List.drop_drop, h]; rfl
theorem RunW.nil (h : Q α S) : RunW P w0 n ops [] Q α S := fun k _ => ⟨α, S, fun F m A g a w Q hF hS hA hQ => hQ a w g hS hA (Ext.refl ..), h⟩
theorem wantA_true (h : wantA ops α o = some true) : o.guard = none ∨ ∃ j want, o.guard = some (j, want) ∧ ydA ops.toArray α j = some (some want) := by
  unfold wantA at h
  split at h
  · rename_i hg; exact .inl hg
  · rename_i j want hg
    have e := ydL_eq (ops := ops.toArray) (α := α) (j := j)
    split at h
    · rename_i hy
      obtain rfl := Option.some.inj h
      exact .inr ⟨j, _, hg, by rw [← e]; exact hy⟩
    · rename_i hy
      cases want
      · exact .inr ⟨j, _, hg, by rw [← e]; exact hy⟩
      · cases h
    · cases h
    · cases h
theorem wantA_false (h : wantA ops α o = some false) : ∃ (j : Nat) (want : Bool) (b : Option Bool), o.guard = some (j, want) ∧ ydA ops.toArray α j = some b ∧ b ≠ some want := by
  unfold wantA at h
  split at h
  · cases h
  · rename_i j want hg
    have e := ydL_eq (ops := ops.toArray) (α := α) (j := j)
    split at h
    · rename_i hy
      obtain rfl := Option.some.inj h
      exact ⟨j, _, _, hg, by rw [← e]; exact hy, by simp⟩
    · rename_i hy
      cases want
      · cases h
      · exact ⟨j, _, _, hg, by rw [← e]; exact hy, by simp⟩
    · rename_i hy
      exact ⟨j, _, _, hg, by rw [← e]; exact hy, by simp⟩
    · cases h
theorem RunW.op (hd : dstOk n o.dst = true) (hw : wantA ops α o = some true) (h : opK P w0 o.op α S (IsO r S')) (k : RunW P w0 n ops rest Q (putA o.dst α r) S') : RunW P w0 n ops (o :: rest) Q α S := by
  intro i hi
  obtain ⟨h1, h2⟩ := drop_cons hi
  obtain ⟨r1, S1, h3, rfl, rfl⟩ := opK_sound (n := n) h
  obtain ⟨α', T, h4, h5⟩ := k (i + 1) h2
  rw [putA_eq] at h4
  refine ⟨α', T, ?_, h5⟩
  refine OpsS.step h1 hd (fun g w a hA => ?_) h3 h4
  rcases wantA_true hw with hg | ⟨j, want, hg, hy⟩
  · simp [Region.wanted, hg]
  · simp [Region.wanted, hg, yd_rep hA hy]
theorem RunW.skip (hd : dstOk n o.dst = true) (hw : wantA ops α o = some false) (k : RunW P w0 n ops rest Q (putA o.dst α (.v undef)) S) : RunW P w0 n ops (o :: rest) Q α S := by
  intro i hi
  obtain ⟨h1, h2⟩ := drop_cons hi
  obtain ⟨α', T, h4, h5⟩ := k (i + 1) h2
  rw [putA_eq] at h4
  obtain ⟨j, want, b, hg, hy, hne⟩ := wantA_false hw
  refine ⟨α', T, fun F m A g a w Q hF hS hA hQ => ?_, h5⟩
  have hnw : ¬ Region.wanted o (yielded ops.toArray a.tmps) = true := by simp [Region.wanted, hg, yd_rep hA hy, hne]
  show wpOpsIn F m P ops.toArray Q (i :: List.range' (i + 1) rest.length) a w
  simp only [wpOpsIn, h1]
  rw [if_neg hnw]
  exact ⟨fun f _ => hF.1 f, h4 F m A g _ w Q hF hS (put_rep hA hd .v) hQ⟩
theorem RunW.quiet : ∀ {l l' : List Oper} {α α' : AA} {S S' : Store}, evalQ P n ops l α S = (l', α', S') → RunW P w0 n ops l' Q α' S' → RunW P w0 n ops l Q α S
  | [], l', α, α', S, S', h, k => by
    simp only [evalQ, Prod.mk.injEq] at h
    obtain ⟨rfl, rfl, rfl⟩ := h
    exact k
  | o :: rest, l', α, α', S, S', h, k => by
    have stop : (o :: rest, α, S) = (l', α', S') → RunW P w0 n ops (o :: rest) Q α S := fun h => by
      simp only [Prod.mk.injEq] at h
      obtain ⟨rfl, rfl, rfl⟩ := h
      exact k
    simp only [evalQ] at h
    split at h
    · rename_i hd
      split at h
      · rename_i hw
        split at h
        · rename_i r T hq
          rw [deepA_eq] at h
          exact RunW.op hd hw (opQ_sound hq) (RunW.quiet h k)
        · exact stop h
      · rename_i hw
        exact RunW.skip hd hw (RunW.quiet h k)
      · exact stop h
    · exact stop h
/-- the rest l of a region that draws its order. -/
def DraW (P : Program) (w0 : World) (n : Nat) (ops l : List Oper) (Q : AA → Store → Prop) (α : AA) (S : Store) : Prop :=
  ∀ k, ops.drop k = l → ∃ α' S', Der P w0 n ops.toArray (List.range' k l.length) α S α' S' ∧ Q α' S'
theorem DraW.nil (h : Q α S) : DraW P w0 n ops [] Q α S := fun k _ => ⟨α, S, .nil α S, h⟩
theorem DraW.op (hd : dstOk n o.dst = true) (hw : wantA ops α o = some true) (h : opD P w0 o.op α S (IsO r S')) (k : DraW P w0 n ops rest Q (putA o.dst α r) S') : DraW P w0 n ops (o :: rest) Q α S := by
  intro i hi
  obtain ⟨h1, h2⟩ := drop_cons hi
  obtain ⟨r1, S1, h3, rfl, rfl⟩ := gs_of (n := n) h1 hd (wantA_true hw) h
  obtain ⟨α', T, h4, h5⟩ := k (i + 1) h2
  rw [putA_eq] at h4
  exact ⟨α', T, .cons h3 h4, h5⟩
theorem DraW.skip (hd : dstOk n o.dst = true) (hw : wantA ops α o = some false) (k : DraW P w0 n ops rest Q (putA o.dst α (.v undef)) S) : DraW P w0 n ops (o :: rest) Q α S := by
  intro i hi
  obtain ⟨h1, h2⟩ := drop_cons hi
  obtain ⟨α', T, h4, h5⟩ := k (i + 1) h2
  rw [putA_eq] at h4
  obtain ⟨j, want, b, hg, hy, hne⟩ := wantA_false hw
  exact ⟨α', T, .cons ⟨o, h1, hd, .inl ⟨j, want, b, hg, hy, hne, rfl, rfl⟩⟩ h4, h5⟩
theorem opQ_D {op : Op} (h : opQ P op α S = some (r, S')) : opD P w0 op α S (IsO r S') := by
  have h1 := opQ_sound (w0 := w0) h
  cases op with
  | call c =>
    simp only [opD]
    split
    · rename_i f hc
      simp only [opQ, hc] at h
      cases h
    · exact h1
  | _ => exact h1
theorem DraW.quiet : ∀ {l l' : List Oper} {α α' : AA} {S S' : Store}, evalQ P n ops l α S = (l', α', S') → DraW P w0 n ops l' Q α' S' → DraW P w0 n ops l Q α S
  | [], l', α, α', S, S', h, k => by
    simp only [evalQ, Prod.mk.injEq] at h
    obtain ⟨rfl, rfl, rfl⟩ := h
    exact k
  | o :: rest, l', α, α', S, S', h, k => by
    have stop : (o :: rest, α, S) = (l', α', S') → DraW P w0 n ops (o :: rest) Q α S := fun h => by
      simp only [Prod.mk.injEq] at h
      obtain ⟨rfl, rfl, rfl⟩ := h
      exact k
    simp only [evalQ] at h
    split at h
    · rename_i hd
      split at h
      · rename_i hw
        split at h
        · rename_i r T hq
          rw [deepA_eq] at h
          exact DraW.op hd hw (opQ_D hq) (DraW.quiet h k)
        · exact stop h
      · rename_i hw
        exact DraW.skip hd hw (DraW.quiet h k)
      · exact stop h
    · exact stop h
end
end Go.Proofs.YtahhaiomdjlckaaDoor
