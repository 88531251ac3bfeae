/-
  Code with its types looked up, and the machine that runs it.
-/
import Derived.Test.YtahhaiomdjlckaaDoorQ
namespace Go.Proofs.YtahhaiomdjlckaaDoor
set_option linter.unusedVariables false
set_option linter.unusedSimpArgs false
open Go.RowKit

structure QI where
  d : Option Nat
  g : Option (Nat × Bool)
  q : QOp
inductive QC where
  | skip
  | reg (dr : Bool) (l : List QI)
  | seq (a b : QC)
  | cond (x : QO) (a b : QC)
  | block (id : Nat) (a : QC)
  | loop (a : QC)
  | exit (id : Nat)
  | ret
  | raw (c : Code)
def resI (T : Tables) (n : Nat) (ops : List Oper) : List Oper → Option (List QI)
  | [] => some []
  | o :: l => match dstOk n o.dst, res T o.op, resI T n ops l with
    | true, some q, some l' => match o.guard with
      | none => some (⟨o.dst, none, q⟩ :: l')
      | some (j, want) => match dstAt ops j with
        | some t => some (⟨o.dst, some (t, want), q⟩ :: l')
        | none => none
    | _, _, _ => none
def comp (T : Tables) (n : Nat) : Code → Option QC
  | .skip => some .skip
  | .region _ ops dr => match resI T n ops.toList ops.toList with
    | some l => some (.reg dr l)
    | none => none
  | .seq a b => match comp T n a, comp T n b with
    | some a', some b' => some (.seq a' b')
    | _, _ => none
  | .cond c a b => match comp T n a, comp T n b with
    | some a', some b' => some (.cond (qo c) a' b')
    | _, _ => none
  | .block id a => match comp T n a with
    | some a' => some (.block id a')
    | none => none
  | .loop a => match comp T n a with
    | some a' => some (.loop a')
    | none => none
  | .exit id => some (.exit id)
  | .ret => some .ret
  | c => some (.raw c)
/-- the regions that draw their order may be run in the order of the text. -/
def drawsOk (P : Program) : Code → Bool
  | .region _ ops true => P.follows .mixedOrders && drawOk ops
  | .seq a b => drawsOk P a && drawsOk P b
  | .cond _ a b => drawsOk P a && drawsOk P b
  | .block _ a => drawsOk P a
  | .loop a => drawsOk P a
  | _ => true
inductive QIt where
  | seq (c : QC)
  | blk (id : Nat)
inductive QF where
  | run (c : QC) (K : List QIt)
  | out (ex : Exit) (K : List QIt)
  | reg (dr : Bool) (l : List QI) (K : List QIt)
section
variable (P : Program) (w0 : World) (n : Nat)
def QWp (b : QC) (Q : Exit → AA → Store → Prop) (α : AA) (S : Store) : Prop := ∀ c, comp P.toTables n c = some b → drawsOk P c = true → Wp P w0 n c Q α S
def qcont (Q : Exit → AA → Store → Prop) : List QIt → Exit → AA → Store → Prop
  | [] => Q
  | .seq b :: K => fun ex α S => match ex with | .normal => QWp P w0 n b (qcont Q K) α S | e => qcont Q K e α S
  | .blk id :: K => fun ex α S => match ex with | .exit j => (match Nat.beq j id with | true => qcont Q K .normal α S | false => qcont Q K (.exit j) α S) | e => qcont Q K e α S
def RegQ (dr : Bool) (l : List QI) (Q : AA → Store → Prop) (α : AA) (S : Store) : Prop :=
  ∀ ops rest, resI P.toTables n ops rest = some l → match dr with | false => RunW P w0 n ops rest Q α S | true => DraW P w0 n ops rest Q α S
def wpQ (Q : Exit → AA → Store → Prop) : QF → AA → Store → Prop
  | .run c K, α, S => QWp P w0 n c (qcont P w0 n Q K) α S
  | .out ex K, α, S => qcont P w0 n Q K ex α S
  | .reg dr l K, α, S => RegQ P w0 n dr l (fun α S => qcont P w0 n Q K .normal α S) α S
/-- is an operation carried out? -/
def wantQ (f : Nat → AV) : Option (Nat × Bool) → Option Bool
  | none => some true
  | some (t, want) => match f t with
    | .v (.bool true) => some want
    | .v (.bool false) => match want with | true => some false | false => some true
    | .v (.tuple _) => some false
    | _ => none
def putQ (d : Option Nat) (α : AA) (r : AV) : AA := match α, d with | ⟨f, l⟩, some d => ⟨upd f d r, l⟩ | α, none => α
def evq : List QI → AA → Store → List QI × AA × Store
  | [], α, S => ([], α, S)
  | i :: l, α, S => match wantQ α.tm i.g with
    | some true => match opq i.q α.tm S with
      | some (r, S') => evq l (putQ i.d α r) S'
      | none => (i :: l, α, S)
    | some false => evq l (putQ i.d α (.v undef)) S
    | none => (i :: l, α, S)
def mvq : QF → AA → Store → Option (QF × AA × Store)
  | .run c K, α, S => match c with
    | .skip => some (.out .normal K, α, S)
    | .reg false l => some (.reg false l K, α, S)
    | .reg true l => some (.reg true l K, α, S)
    | .seq a b => some (.run a (.seq b :: K), α, S)
    | .cond x a b => match x.ev α.tm with
      | .v (.bool true) => some (.run a K, α, S)
      | .v (.bool false) => some (.run b K, α, S)
      | _ => none
    | .block id c => some (.run c (.blk id :: K), α, S)
    | .exit id => some (.out (.exit id) K, α, S)
    | .ret => some (.out .ret K, α, S)
    | _ => none
  | .out ex K, α, S => match K with
    | [] => none
    | .seq b :: K => match ex with
      | .normal => some (.run b K, α, S)
      | e => some (.out e K, α, S)
    | .blk id :: K => match ex with
      | .exit j => match Nat.beq j id with
        | true => some (.out .normal K, α, S)
        | false => some (.out (.exit j) K, α, S)
      | e => some (.out e K, α, S)
  | .reg dr l K, α, S => match l with
    | [] => some (.out .normal K, α, S)
    | i :: l => match wantQ α.tm i.g with
      | some true => match opq i.q α.tm S with
        | some (r, S') => some (.reg dr l K, putQ i.d α r, S')
        | none => none
      | some false => some (.reg dr l K, putQ i.d α (.v undef), S)
      | none => none
def goq : Nat → QF → AA → Store → QF × AA × Store
  | 0, c, α, S => (c, α, S)
  | m + 1, c, α, S => match mvq c α S with
    | some (c', α', S') => goq m c' α' S'
    | none => (c, α, S)
end
section
variable {P : Program} {w0 : World} {n : Nat} {α α' : AA} {S S' : Store} {Q Q' : Exit → AA → Store → Prop} {ex : Exit} {r : AV} {i : QI} {l : List QI} {R : AA → Store → Prop}
theorem putQ_eq {d : Option Nat} : putQ d α r = putA d α r := by cases d <;> cases α <;> rfl
theorem resI_cons {ops rest : List Oper} (h : resI P.toTables n ops rest = some (i :: l)) : ∃ o rest', rest = o :: rest' ∧ resI P.toTables n ops rest' = some l ∧ dstOk n o.dst = true ∧ o.dst = i.d ∧ res P.toTables o.op = some i.q ∧
    (∀ b, wantQ α.tm i.g = some b → wantA ops α o = some b) := by
  cases rest with
  | nil => cases h
  | cons o rest' =>
    simp only [resI] at h
    split at h
    · rename_i q l' h1 h2 h3
      split at h
      · rename_i hg
        injection h with h
        injection h with h4 h5
        subst h4 h5
        exact ⟨o, rest', rfl, h3, h1, rfl, h2, fun b hb => by simp only [wantQ, Option.some.injEq] at hb; subst hb; simp only [wantA, hg]⟩
      · rename_i j want hg
        split at h
        · rename_i t ht
          injection h with h
          injection h with h4 h5
          subst h4 h5
          refine ⟨o, rest', rfl, h3, h1, rfl, h2, fun b hb => ?_⟩
          simp only [wantA, hg, ydL, ht]
          simp only [wantQ] at hb
          split at hb
          · rename_i e; rw [e]; exact hb
          · rename_i e; rw [e]; cases want <;> exact hb
          · rename_i e; rw [e]; exact hb
          · cases hb
        · cases h
    · cases h
theorem RegQ.nil {dr : Bool} (h : R α S) : RegQ P w0 n dr [] R α S := by
  intro ops rest hc
  have : rest = [] := by
    cases rest with
    | nil => rfl
    | cons o r =>
      simp only [resI] at hc
      repeat' split at hc
      all_goals cases hc
  subst this
  cases dr with
  | false => exact RunW.nil h
  | true => exact DraW.nil h
/-- what an operation gives. -/
def Owe (P : Program) (w0 : World) (dr : Bool) (q : QOp) (α : AA) (S : Store) (r : AV) (S' : Store) : Prop :=
  match dr with
  | true => ∀ o, res P.toTables o = some q → opD P w0 o α S (IsO r S')
  | false => ∀ (n : Nat) (o : Oper), res P.toTables o.op = some q → OpS P w0 n o α S r S'
theorem OpS.ofK {n : Nat} {o : Oper} (h : opK P w0 o.op α S (IsO r S')) : OpS P w0 n o α S r S' := by
  obtain ⟨r1, S1, h3, rfl, rfl⟩ := opK_sound (n := n) h
  exact h3
theorem Owe.run {q : QOp} (h : ∀ (n : Nat) (o : Oper), res P.toTables o.op = some q → RunV P w0 n o α S r S') : Owe P w0 false q α S r S' := fun n o hr => (h n o hr).ops fun c e => by rw [e] at hr; cases hr
theorem RunW.opS {o : Oper} {rest ops : List Oper} {Q : AA → Store → Prop} (hd : dstOk n o.dst = true) (hw : wantA ops α o = some true) (h : OpS P w0 n o α S r S') (k : RunW P w0 n ops rest Q (putA o.dst α r) S') : RunW P w0 n ops (o :: rest) Q α S := by
  intro i hi
  obtain ⟨h1, h2⟩ := drop_cons hi
  obtain ⟨α', T, h4, h5⟩ := k (i + 1) h2
  rw [putA_eq] at h4
  refine ⟨α', T, ?_, h5⟩
  refine OpsS.step h1 hd (fun g w a hA => ?_) h h4
  rcases wantA_true hw with hg | ⟨j, want, hg, hy⟩
  · simp [Region.wanted, hg]
  · simp [Region.wanted, hg, yd_rep hA hy]
def isCl : QOp → Bool
  | .call .. => true
  | _ => false
theorem Owe.of {dr : Bool} {q : QOp} (hq : isCl q = false) (h : ∀ o, res P.toTables o = some q → opK P w0 o α S (IsO r S')) : Owe P w0 dr q α S r S' := by
  cases dr with
  | false => exact fun n o hr => OpS.ofK (h o.op hr)
  | true =>
    intro o hr
    have h1 := h o hr
    cases o with
    | call c =>
      simp only [opD]
      split
      · rename_i f hc
        simp only [res, hc, Option.some.injEq] at hr
        subst hr
        cases hq
      · exact h1
    | _ => exact h1
theorem RegQ.op {dr : Bool} (hw : wantQ α.tm i.g = some true) (h : Owe P w0 dr i.q α S r S') (k : RegQ P w0 n dr l R (putQ i.d α r) S') : RegQ P w0 n dr (i :: l) R α S := by
  intro ops rest hc
  obtain ⟨o, rest', rfl, h1, h2, h3, h4, h5⟩ := resI_cons (α := α) hc
  have h7 := k ops rest' h1
  rw [putQ_eq, ← h3] at h7
  cases dr with
  | false => exact RunW.opS h2 (h5 _ hw) (h n o h4) h7
  | true => exact DraW.op h2 (h5 _ hw) (h _ h4) h7
theorem RegQ.skip {dr : Bool} (hw : wantQ α.tm i.g = some false) (k : RegQ P w0 n dr l R (putQ i.d α (.v undef)) S) : RegQ P w0 n dr (i :: l) R α S := by
  intro ops rest hc
  obtain ⟨o, rest', rfl, h1, h2, h3, h4, h5⟩ := resI_cons (α := α) hc
  have h7 := k ops rest' h1
  rw [putQ_eq, ← h3] at h7
  cases dr with
  | false => exact RunW.skip h2 (h5 _ hw) h7
  | true => exact DraW.skip h2 (h5 _ hw) h7
theorem Owe.quiet {dr : Bool} {q : QOp} (h : opq q α.tm S = some (r, S')) : Owe P w0 dr q α S r S' := by
  refine Owe.of ?_ fun o hr => opq_sound hr h
  cases q <;> first | rfl | (cases h)
theorem comp_reg {c : Code} {dr : Bool} (h : comp P.toTables n c = some (.reg dr l)) : ∃ id ops, c = .region id ops dr ∧ resI P.toTables n ops.toList ops.toList = some l := by
  cases c <;> simp only [comp] at h <;> (try split at h) <;> (try cases h) <;> (try (injection h with h; injection h))
  · rename_i id ops l' hl
    exact ⟨id, ops, rfl, hl⟩
theorem comp_seq {c : Code} {a b : QC} (h : comp P.toTables n c = some (.seq a b)) : ∃ c1 c2, c = .seq c1 c2 ∧ comp P.toTables n c1 = some a ∧ comp P.toTables n c2 = some b := by
  cases c <;> simp only [comp] at h <;> (try split at h) <;> (try cases h)
  · exact ⟨_, _, rfl, by assumption, by assumption⟩
theorem comp_cond {c : Code} {x : QO} {a b : QC} (h : comp P.toTables n c = some (.cond x a b)) : ∃ y c1 c2, c = .cond y c1 c2 ∧ qo y = x ∧ comp P.toTables n c1 = some a ∧ comp P.toTables n c2 = some b := by
  cases c <;> simp only [comp] at h <;> (try split at h) <;> (try cases h)
  · exact ⟨_, _, _, rfl, rfl, by assumption, by assumption⟩
theorem comp_block {c : Code} {id : Nat} {a : QC} (h : comp P.toTables n c = some (.block id a)) : ∃ c1, c = .block id c1 ∧ comp P.toTables n c1 = some a := by
  cases c <;> simp only [comp] at h <;> (try split at h) <;> (try cases h)
  · exact ⟨_, rfl, by assumption⟩
theorem comp_loop {c : Code} {a : QC} (h : comp P.toTables n c = some (.loop a)) : ∃ c1, c = .loop c1 ∧ comp P.toTables n c1 = some a := by
  cases c <;> simp only [comp] at h <;> (try split at h) <;> (try cases h)
  · exact ⟨_, rfl, by assumption⟩
theorem comp_raw {c : Code} {d : Code} (h : comp P.toTables n c = some (.raw d)) : c = d := by
  cases c <;> simp only [comp] at h <;> (try split at h) <;> (try cases h) <;> rfl
theorem comp_plain {c : Code} : (comp P.toTables n c = some .skip → c = .skip) ∧ (comp P.toTables n c = some .ret → c = .ret) ∧ ∀ id, comp P.toTables n c = some (.exit id) → c = .exit id := by
  refine ⟨fun h => ?_, fun h => ?_, fun id h => ?_⟩
  all_goals
    cases c <;> simp only [comp] at h <;> (try split at h) <;> (try cases h) <;> rfl
theorem ev_qo {x : Operand} : α.ev x = (qo x).ev α.tm := (qo_ev x).symm
theorem QWp.seq {a b : QC} (h : QWp P w0 n a (fun ex α S => match ex with | .normal => QWp P w0 n b Q α S | e => Q e α S) α S) : QWp P w0 n (.seq a b) Q α S := by
  intro c hc hd
  obtain ⟨c1, c2, rfl, h1, h2⟩ := comp_seq hc
  simp only [drawsOk, Bool.and_eq_true] at hd
  refine Wp.seq ?_
  obtain ⟨ex, α₁, S₁, h3, h4⟩ := h c1 h1 hd.1
  refine ⟨ex, α₁, S₁, h3, ?_⟩
  cases ex with
  | normal => exact h4 c2 h2 hd.2
  | _ => exact h4
theorem QWp.cond {x : QO} {a b : QC} {t : Bool} (hx : x.ev α.tm = .v (.bool t)) (h : QWp P w0 n (if t then a else b) Q α S) : QWp P w0 n (.cond x a b) Q α S := by
  intro c hc hd
  obtain ⟨y, c1, c2, rfl, rfl, h1, h2⟩ := comp_cond hc
  simp only [drawsOk, Bool.and_eq_true] at hd
  refine Wp.cond (by rw [ev_qo]; exact hx) ?_
  cases t with
  | true => exact h c1 h1 hd.1
  | false => exact h c2 h2 hd.2
theorem QWp.block {id : Nat} {a : QC} (h : QWp P w0 n a (fun ex α S => match ex with | .exit j => (match Nat.beq j id with | true => Q .normal α S | false => Q (.exit j) α S) | e => Q e α S) α S) : QWp P w0 n (.block id a) Q α S := by
  intro c hc hd
  obtain ⟨c1, rfl, h1⟩ := comp_block hc
  exact Wp.block (h c1 h1 hd)
theorem QWp.reg {dr : Bool} (h : RegQ P w0 n dr l (fun α S => Q .normal α S) α S) : QWp P w0 n (.reg dr l) Q α S := by
  intro c hc hd
  obtain ⟨id, ops, rfl, h1⟩ := comp_reg hc
  have h2 := h _ _ h1
  cases dr with
  | false => exact RunW.wp h2
  | true => exact DraW.wp (by simpa [drawsOk] using hd) h2
theorem QWp.done {a : QC} (hd : ∀ c, comp P.toTables n c = some a → Wp P w0 n c Q α S) : QWp P w0 n a Q α S := fun c hc _ => hd c hc
theorem mvq_sound {cf cf' : QF} (h : mvq cf α S = some (cf', α', S')) (k : wpQ P w0 n Q cf' α' S') : wpQ P w0 n Q cf α S := by
  have e : ∀ {x : QF} {y : AA} {z : Store}, some (x, y, z) = some (cf', α', S') → wpQ P w0 n Q x y z := fun h => by
    simp only [Option.some.injEq, Prod.mk.injEq] at h
    obtain ⟨rfl, rfl, rfl⟩ := h
    exact k
  cases cf with
  | run c K =>
    simp only [mvq] at h
    split at h
    · exact QWp.done fun c hc => by rw [comp_plain.1 hc]; exact Wp.of Big.skip (e h)
    · exact QWp.reg (e h)
    · exact QWp.reg (e h)
    · exact QWp.seq (e h)
    · split at h
      · rename_i hc; exact QWp.cond hc (e h)
      · rename_i hc; exact QWp.cond hc (e h)
      · cases h
    · exact QWp.block (e h)
    · exact QWp.done fun c hc => by rw [comp_plain.2.2 _ hc]; exact Wp.of (Big.exit_ _) (e h)
    · exact QWp.done fun c hc => by rw [comp_plain.2.1 hc]; exact Wp.of Big.ret (e h)
    · cases h
  | out ex K =>
    cases K with
    | nil => simp [mvq] at h
    | cons it K =>
      cases it with
      | seq b => cases ex <;> (simp only [mvq] at h; have t := e h; exact t)
      | blk id =>
        cases ex with
        | exit j =>
          simp only [mvq] at h
          show (match Nat.beq j id with | true => qcont P w0 n Q K .normal α S | false => qcont P w0 n Q K (.exit j) α S)
          split at h
          · have t := e h; exact t
          · have t := e h; exact t
        | _ => simp only [mvq] at h; have t := e h; exact t
  | reg dr l K =>
    simp only [mvq] at h
    split at h
    · exact RegQ.nil (e h)
    · rename_i i l
      split at h
      · rename_i hw
        split at h
        · rename_i r T hq
          exact RegQ.op hw (Owe.quiet hq) (e h)
        · cases h
      · rename_i hw
        exact RegQ.skip hw (e h)
      · cases h
theorem goq_sound : ∀ {m : Nat} {cf cf' : QF} {α α' : AA} {S S' : Store}, goq m cf α S = (cf', α', S') → wpQ P w0 n Q cf' α' S' → wpQ P w0 n Q cf α S
  | 0, cf, cf', α, α', S, S', h, k => by
    simp only [goq, Prod.mk.injEq] at h
    obtain ⟨rfl, rfl, rfl⟩ := h
    exact k
  | m + 1, cf, cf', α, α', S, S', h, k => by
    simp only [goq] at h
    split at h
    · rename_i c1 a1 s1 hm
      exact mvq_sound hm (goq_sound h k)
    · simp only [Prod.mk.injEq] at h
      obtain ⟨rfl, rfl, rfl⟩ := h
      exact k
end
end Go.Proofs.YtahhaiomdjlckaaDoor
