/-
  Code as a small machine: what is being run, and what waits.
-/
import Derived.Test.YtahhaiomdjlckaaDoorStep
import Derived.Test.YtahhaiomdjlckaaDoorUse
namespace Go.Proofs.YtahhaiomdjlckaaDoor
set_option linter.unusedVariables false
set_option linter.unusedSimpArgs false
open Go.RowKit

inductive It where
  | seq (c : Code)
  | blk (id : Nat)
inductive Cf where
  | run (c : Code) (K : List It)
  | out (ex : Exit) (K : List It)
  | reg (ops l : List Oper) (K : List It)
  | dr (ops l : List Oper) (K : List It)
section
variable (P : Program) (w0 : World) (n : Nat)
/-- the code runs to an end at which Q holds. -/
def Wp (c : Code) (Q : Exit → AA → Store → Prop) (α : AA) (S : Store) : Prop := ∃ ex α' S', Big P w0 n c α S ex α' S' ∧ Q ex α' S'
def cont (Q : Exit → AA → Store → Prop) : List It → Exit → AA → Store → Prop
  | [] => Q
  | .seq b :: K => fun ex α S => match ex with | .normal => Wp P w0 n b (cont Q K) α S | e => cont Q K e α S
  | .blk id :: K => fun ex α S => match ex with | .exit j => (match Nat.beq j id with | true => cont Q K .normal α S | false => cont Q K (.exit j) α S) | e => cont Q K e α S
def wpC (Q : Exit → AA → Store → Prop) : Cf → AA → Store → Prop
  | .run c K, α, S => Wp P w0 n c (cont P w0 n Q K) α S
  | .out ex K, α, S => cont P w0 n Q K ex α S
  | .reg ops l K, α, S => RunW P w0 n ops l (fun α S => cont P w0 n Q K .normal α S) α S
  | .dr ops l K, α, S => DraW P w0 n ops l (fun α S => cont P w0 n Q K .normal α S) α S
/-- one move of the machine, if there is one that owes nothing. -/
def mv : Cf → AA → Store → Option (Cf × AA × Store)
  | .run c K, α, S => match c with
    | .skip => some (.out .normal K, α, S)
    | .region _ ops false => some (.reg ops.toList ops.toList K, α, S)
    | .seq a b => some (.run a (.seq b :: K), α, S)
    | .cond c a b => match α.ev c with
      | .v (.bool true) => some (.run a K, α, S)
      | .v (.bool false) => some (.run b K, α, S)
      | _ => none
    | .block id c => some (.run c (.blk id :: K), α, S)
    | .exit id => some (.out (.exit id) K, α, S)
    | .ret => some (.out .ret K, α, S)
    | _ => none
  | .out ex K, α, S => match K with
    | [] => none
    | .seq b :: K => match ex with
      | .normal => some (.run b K, α, S)
      | e => some (.out e K, α, S)
    | .blk id :: K => match ex with
      | .exit j => match Nat.beq j id with
        | true => some (.out .normal K, α, S)
        | false => some (.out (.exit j) K, α, S)
      | e => some (.out e K, α, S)
  | .reg ops l K, α, S => match evalQ P n ops l α S with
    | ([], α', S') => some (.out .normal K, α', S')
    | (_ :: _, _, _) => none
  | .dr ops l K, α, S => match evalQ P n ops l α S with
    | ([], α', S') => some (.out .normal K, α', S')
    | (_ :: _, _, _) => none
/-- where the machine stops: a region is taken as far as it goes. -/
def stopA : Cf → AA → Store → Cf × AA × Store
  | .reg ops l K, α, S => match evalQ P n ops l α S with
    | (l', α', S') => (.reg ops l' K, α', S')
  | .dr ops l K, α, S => match evalQ P n ops l α S with
    | (l', α', S') => (.dr ops l' K, α', S')
  | c, α, S => (c, α, S)
def goA : Nat → Cf → AA → Store → Cf × AA × Store
  | 0, c, α, S => (c, α, S)
  | m + 1, c, α, S => match mv P n c α S with
    | some (c', α', S') => goA m c' α' S'
    | none => stopA P n c α S
end
section
variable {P : Program} {w0 : World} {n : Nat} {α α' : AA} {S S' : Store} {Q Q' : Exit → AA → Store → Prop} {c a b : Code} {ex : Exit}
theorem Wp.of (h : Big P w0 n c α S ex α' S') (k : Q ex α' S') : Wp P w0 n c Q α S := ⟨_, _, _, h, k⟩
theorem Wp.seq (h : Wp P w0 n a (fun ex α S => match ex with | .normal => Wp P w0 n b Q α S | e => Q e α S) α S) : Wp P w0 n (.seq a b) Q α S := by
  obtain ⟨ex, α₁, S₁, h1, h2⟩ := h
  cases ex with
  | normal =>
    obtain ⟨ex', α', S', h3, h4⟩ := h2
    exact ⟨ex', α', S', Big.seq h1 h3, h4⟩
  | _ => exact ⟨_, α₁, S₁, Big.seq_out h1 (by simp), h2⟩
theorem Wp.cond {o : Operand} {t : Bool} (ho : α.ev o = .v (.bool t)) (h : Wp P w0 n (if t then a else b) Q α S) : Wp P w0 n (.cond o a b) Q α S := by
  obtain ⟨ex, α', S', h1, h2⟩ := h
  exact ⟨ex, α', S', Big.cond ho h1, h2⟩
theorem Wp.block {id : Nat} (h : Wp P w0 n c (fun ex α S => match ex with | .exit j => (match Nat.beq j id with | true => Q .normal α S | false => Q (.exit j) α S) | e => Q e α S) α S) : Wp P w0 n (.block id c) Q α S := by
  obtain ⟨ex, α', S', h1, h2⟩ := h
  cases ex with
  | exit j =>
    simp only at h2
    split at h2
    · rename_i hj
      have := Nat.eq_of_beq_eq_true hj
      subst this
      exact ⟨_, α', S', Big.block_exit h1, h2⟩
    · rename_i hj
      have hne : j ≠ id := fun e => by subst e; rw [Nat.beq_refl] at hj; cases hj
      exact ⟨_, α', S', Big.block h1 (fun e => hne (by injection e)), h2⟩
  | _ => exact ⟨_, α', S', Big.block h1 (by simp), h2⟩
theorem RunW.wp {id : Nat} {ops : Array Oper} (h : RunW P w0 n ops.toList ops.toList (fun α S => Q .normal α S) α S) : Wp P w0 n (.region id ops false) Q α S := by
  obtain ⟨α', S', h1, h2⟩ := h 0 rfl
  rw [Array.length_toList, ← List.range_eq_range'] at h1
  exact ⟨_, α', S', Big.region h1, h2⟩
theorem DraW.wp {id : Nat} {ops : Array Oper} (hok : (P.follows .mixedOrders && drawOk ops) = true) (h : DraW P w0 n ops.toList ops.toList (fun α S => Q .normal α S) α S) : Wp P w0 n (.region id ops true) Q α S := by
  simp only [Bool.and_eq_true] at hok
  obtain ⟨α', S', h1, h2⟩ := h 0 rfl
  rw [Array.length_toList, ← List.range_eq_range'] at h1
  exact ⟨_, α', S', Big.draw hok.1 hok.2 h1, h2⟩
theorem mv_sound {cf cf' : Cf} (h : mv P n cf α S = some (cf', α', S')) (k : wpC P w0 n Q cf' α' S') : wpC P w0 n Q cf α S := by
  have e : ∀ {x : Cf} {y : AA} {z : Store}, some (x, y, z) = some (cf', α', S') → wpC P w0 n Q x y z := fun h => by
    simp only [Option.some.injEq, Prod.mk.injEq] at h
    obtain ⟨rfl, rfl, rfl⟩ := h
    exact k
  cases cf with
  | run c K =>
    simp only [mv] at h
    split at h
    · exact Wp.of Big.skip (e h)
    · exact RunW.wp (e h)
    · exact Wp.seq (e h)
    · split at h
      · rename_i hc; exact Wp.cond hc (e h)
      · rename_i hc; exact Wp.cond hc (e h)
      · cases h
    · exact Wp.block (e h)
    · exact Wp.of (Big.exit_ _) (e h)
    · exact Wp.of Big.ret (e h)
    · cases h
  | out ex K =>
    cases K with
    | nil => simp [mv] at h
    | cons it K =>
      cases it with
      | seq b => cases ex <;> (simp only [mv] at h; have t := e h; exact t)
      | blk id =>
        cases ex with
        | exit j =>
          simp only [mv] at h
          show (match Nat.beq j id with | true => cont P w0 n Q K .normal α S | false => cont P w0 n Q K (.exit j) α S)
          split at h
          · have t := e h; exact t
          · have t := e h; exact t
        | _ => simp only [mv] at h; have t := e h; exact t
  | reg ops l K =>
    simp only [mv] at h
    split at h
    · rename_i heq
      exact RunW.quiet heq (RunW.nil (e h))
    · cases h
  | dr ops l K =>
    simp only [mv] at h
    split at h
    · rename_i heq
      exact DraW.quiet heq (DraW.nil (e h))
    · cases h
theorem goA_sound : ∀ {m : Nat} {cf cf' : Cf} {α α' : AA} {S S' : Store}, goA P n m cf α S = (cf', α', S') → wpC P w0 n Q cf' α' S' → wpC P w0 n Q cf α S
  | 0, cf, cf', α, α', S, S', h, k => by
    simp only [goA, Prod.mk.injEq] at h
    obtain ⟨rfl, rfl, rfl⟩ := h
    exact k
  | m + 1, cf, cf', α, α', S, S', h, k => by
    simp only [goA] at h
    split at h
    · rename_i c1 a1 s1 hm
      exact mv_sound hm (goA_sound h k)
    · cases cf with
      | reg ops l K =>
        simp only [stopA, Prod.mk.injEq] at h
        obtain ⟨rfl, rfl, rfl⟩ := h
        exact RunW.quiet rfl k
      | dr ops l K =>
        simp only [stopA, Prod.mk.injEq] at h
        obtain ⟨rfl, rfl, rfl⟩ := h
        exact DraW.quiet rfl k
      | _ =>
        simp only [stopA, Prod.mk.injEq] at h
        obtain ⟨rfl, rfl, rfl⟩ := h
        exact k
end
section
variable {P : Program} {w0 : World} {n : Nat} {α α' : AA} {S S' : Store} {Q : Exit → AA → Store → Prop} {c a b : Code} {ex : Exit} {K : List It} {r : AV} {ops rest : List Oper} {o : Oper}
theorem wpC.go {cf cf' : Cf} (m : Nat) (h : goA P n m cf α S = (cf', α', S')) (k : wpC P w0 n Q cf' α' S') : wpC P w0 n Q cf α S := goA_sound h k
theorem wpC.op (hd : dstOk n o.dst = true) (hw : wantA ops α o = some true) (h : opK P w0 o.op α S (IsO r S')) (k : wpC P w0 n Q (.reg ops rest K) (putA o.dst α r) S') : wpC P w0 n Q (.reg ops (o :: rest) K) α S := RunW.op hd hw h k
theorem wpC.dop (hd : dstOk n o.dst = true) (hw : wantA ops α o = some true) (h : opD P w0 o.op α S (IsO r S')) (k : wpC P w0 n Q (.dr ops rest K) (putA o.dst α r) S') : wpC P w0 n Q (.dr ops (o :: rest) K) α S := DraW.op hd hw h k
theorem wpC.cond {x : Operand} {t : Bool} (ho : α.ev x = .v (.bool t)) (h1 : t = true → wpC P w0 n Q (.run a K) α S) (h2 : t = false → wpC P w0 n Q (.run b K) α S) : wpC P w0 n Q (.run (.cond x a b) K) α S := by
  refine Wp.cond ho ?_
  cases t with
  | true => exact h1 rfl
  | false => exact h2 rfl
theorem wpC.draw {id : Nat} {xs : Array Oper} (hok : (P.follows .mixedOrders && drawOk xs) = true) (k : wpC P w0 n Q (.dr xs.toList xs.toList K) α S) : wpC P w0 n Q (.run (.region id xs true) K) α S := DraW.wp hok k
/-- the end of a round. -/
def loopQ (P : Program) (w0 : World) (n : Nat) (I : Nat → AA → Store → Prop) (Q : Exit → AA → Store → Prop) (K : List It) (k : Nat) : Exit → AA → Store → Prop :=
  fun ex α S => match ex with | .normal => ∃ j, j < k ∧ I j α S | e => wpC P w0 n Q (.out e K) α S
theorem loopW (I : Nat → AA → Store → Prop) (h : ∀ k α S, I k α S → wpC P w0 n (loopQ P w0 n I Q K k) (.run c []) α S) :
    ∀ (k : Nat) {α : AA} {S : Store}, I k α S → ∃ ex α' S', BigL P w0 n c α S ex α' S' ∧ cont P w0 n Q K ex α' S' := by
  intro k
  induction k using Nat.strongRecOn with
  | _ k ih =>
    intro α S hI
    obtain ⟨ex, α₁, S₁, h1, h2⟩ : Wp P w0 n c (loopQ P w0 n I Q K k) α S := h k α S hI
    cases ex with
    | normal =>
      obtain ⟨j, hj, hI'⟩ := h2
      obtain ⟨ex, α', S', h3, h4⟩ := ih j hj hI'
      exact ⟨ex, α', S', BigL.step h1 h3, h4⟩
    | _ => exact ⟨_, α₁, S₁, BigL.done h1 (by simp), h2⟩
theorem wpC.loop (I : Nat → AA → Store → Prop) (k : Nat) (hI : I k α S) (h : ∀ k α S, I k α S → wpC P w0 n (loopQ P w0 n I Q K k) (.run c []) α S) : wpC P w0 n Q (.run (.loop c) K) α S := by
  obtain ⟨ex, α', S', h1, h2⟩ := loopW I h k hI
  exact ⟨ex, α', S', Big.loop h1, h2⟩
theorem wpC.next {I : Nat → AA → Store → Prop} {k : Nat} (j : Nat) (hj : j < k) (h : I j α S) : wpC P w0 n (loopQ P w0 n I Q K k) (.out .normal []) α S := ⟨j, hj, h⟩
theorem wpC.exit {I : Nat → AA → Store → Prop} {k id : Nat} (h : wpC P w0 n Q (.out (.exit id) K) α S) : wpC P w0 n (loopQ P w0 n I Q K k) (.out (.exit id) []) α S := h
theorem wpC.ret {I : Nat → AA → Store → Prop} {k : Nat} (h : wpC P w0 n Q (.out .ret K) α S) : wpC P w0 n (loopQ P w0 n I Q K k) (.out .ret []) α S := h
def isEnd : Exit → Bool | .normal => true | .ret => true | _ => false
theorem wpC.fin {rs : Array ResultVar} {R : AV → Store → Prop} (he : isEnd ex = true) (hd : dfOk S α.df = true) (hr : resA P rs α (dropL S α.df) = some r) (h : R r (dropL S α.df)) : wpC P w0 n (endK P rs R) (.out ex []) α S := by
  show endK P rs R ex α S
  unfold endK
  rw [hd, hr]
  cases ex <;> first | exact h | cases he
theorem wpC.see {cf : Cf} (l : List (Nat × AV)) (ds : List Nat) (h : α.has l) (hd : α.df = ds) (k : wpC P w0 n Q cf ⟨α.over l, ds⟩ S) : wpC P w0 n Q cf α S := by
  rw [AA.see h hd]; exact k
/-- a pure function. -/
theorem PCal.mach {f : FuncId} {fn : Func} {c : Code} {args : List AV} (hf : P.funcs[f]? = some fn) (hb : fn.body = some c) (hc : ∀ (xs : Array Value) (w : World), (callFunc f xs).run P w = .ok (.enter f xs) w)
    (hn : fn.ntmps = n) (hargs : args.length ≤ n) (hp : Pure r) (h : wpC P w0 n (endK P fn.results fun r' S => Frz S r' r) (.run c []) ⟨argF args, []⟩ Store.none_) : PCal P w0 f args r := PCal.of_wp hf hb hc hn hargs hp h
theorem Cal.mach {f : FuncId} {fn : Func} {c : Code} {args : List AV} {R : AV → Store → Prop} (hf : P.funcs[f]? = some fn) (hb : fn.body = some c) (hc : ∀ (xs : Array Value) (w : World), (callFunc f xs).run P w = .ok (.enter f xs) w)
    (hn : fn.ntmps = n) (hargs : args.length ≤ n) (h : wpC P w0 n (endK P fn.results R) (.run c []) ⟨argF args, []⟩ S) : ∃ r S', Cal P w0 f args S r S' ∧ R r S' := Cal.of_wp hf hb hc hn hargs h
end
end Go.Proofs.YtahhaiomdjlckaaDoor
