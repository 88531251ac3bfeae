/-
  What the proofs of functions use: slots that are known, numbers in range, lists of numbers.
-/
import Derived.Test.YtahhaiomdjlckaaDoorDraw
namespace Go.Proofs.YtahhaiomdjlckaaDoor
set_option linter.unusedVariables false
set_option linter.unusedSimpArgs false
open Go.RowKit

/-- the slots of a list hold these values. -/
def AA.has (α : AA) : List (Nat × AV) → Prop
  | [] => True
  | p :: l => α.tm p.1 = p.2 ∧ α.has l
def AA.over (α : AA) : List (Nat × AV) → Nat → AV
  | [] => α.tm
  | p :: l => upd (α.over l) p.1 p.2
theorem AA.over_eq {α : AA} : ∀ {l : List (Nat × AV)}, α.has l → α.over l = α.tm
  | [], _ => rfl
  | p :: l, h => by
    show upd (α.over l) p.1 p.2 = α.tm
    rw [AA.over_eq h.2]
    exact (upd_self h.1).symm
/-- the activation, with its known slots in sight. -/
theorem AA.see {α : AA} {l : List (Nat × AV)} {ds : List Nat} (h : α.has l) (hd : α.df = ds) : α = ⟨α.over l, ds⟩ := by
  rw [AA.over_eq h, ← hd]
theorem awp.see {P : Program} {w0 : World} {n : Nat} {c : Code} {Q : Exit → AA → Store → Prop} {α : AA} {S : Store} (l : List (Nat × AV)) (ds : List Nat) (h : α.has l) (hd : α.df = ds) (k : awp P w0 n c Q ⟨α.over l, ds⟩ S) : awp P w0 n c Q α S := by
  rw [AA.see h hd]; exact k
theorem wrap64 {c : Int} (h1 : -9223372036854775808 ≤ c) (h2 : c ≤ 9223372036854775807) : IntKind.i64.wrap c = c := by
  unfold IntKind.wrap
  simp [IntKind.bits, IntKind.signed]
  omega
theorem idx_map {α β : Type} {l : List α} {f : α → β} {i : Int} {k : Nat} {x : α} (hi : i = (k : Int)) (h : l[k]? = some x) : idx (l.map f) i = some (f x) := by
  subst hi
  exact idx_nat (by simp [h])
/-- a list of numbers. -/
def iv (i : Int) : AV := .v (.int .i64 i)
def irow (i : Int) : List AV := [iv i]
def ints (l : List Int) : AV := .sl false (l.map irow)
theorem ints_pure (l : List Int) : Pure (ints l) := .sl (by
  intro row hr a ha
  obtain ⟨i, _, rfl⟩ := List.mem_map.1 hr
  obtain rfl := List.mem_singleton.1 ha
  exact .v)
theorem ints_len {l : List Int} : ∀ r ∈ l.map irow, r.length = 1 := by
  intro r hr
  obtain ⟨i, _, rfl⟩ := List.mem_map.1 hr
  rfl
/- LISTS OF ARGUMENTS. -/
def Pures : List AV → Prop
  | [] => True
  | a :: l => Pure a ∧ Pures l
theorem Pures.all : ∀ {l : List AV}, Pures l → ∀ a ∈ l, Pure a
  | [], _, a, h => by cases h
  | b :: l, hp, a, h => by
    rcases List.mem_cons.1 h with rfl | h
    · exact hp.1
    · exact Pures.all hp.2 a h
theorem Pures.app : ∀ {l m : List AV}, Pures l → Pures m → Pures (l ++ m)
  | [], _, _, h => h
  | _ :: _, _, h, k => ⟨h.1, h.2.app k⟩
def Frzs (S : Store) : List AV → List AV → Prop
  | [], [] => True
  | a :: l, a' :: l' => Frz S a a' ∧ Frzs S l l'
  | _, _ => False
theorem Frzs.len {S : Store} : ∀ {l l' : List AV}, Frzs S l l' → l.length = l'.length
  | [], [], _ => rfl
  | a :: l, a' :: l', h => by simp [Frzs.len h.2]
  | [], _ :: _, h => h.elim
  | _ :: _, [], h => h.elim
theorem Frzs.at {S : Store} : ∀ {l l' : List AV}, Frzs S l l' → ∀ (i : Nat) (a a' : AV), l[i]? = some a → l'[i]? = some a' → Frz S a a'
  | [], [], _, i, a, a', h, _ => by simp at h
  | b :: l, b' :: l', h, i, a, a', h1, h2 => by
    cases i with
    | zero => simp at h1 h2; subst h1 h2; exact h.1
    | succ i => simp at h1 h2; exact Frzs.at h.2 i a a' h1 h2
  | [], _ :: _, h, _, _, _, _, _ => h.elim
  | _ :: _, [], h, _, _, _, _, _ => h.elim
theorem Frzs.refl (S : Store) : ∀ (l : List AV), Frzs S l l
  | [] => trivial
  | a :: l => ⟨.refl a, Frzs.refl S l⟩
section
variable {P : Program} {w0 : World} {f : FuncId} {args args0 : List AV} {r : AV}
theorem PCal.calp (h : PCal P w0 f args r) (hp : Pures args) (S : Store) : Cal P w0 f args S r S := h.cal hp.all S
theorem PCal.calz (h : PCal P w0 f args r) (hp : Pures args) (hs : Scal r) {S : Store} (hf : Frzs S args0 args) : Cal P w0 f args0 S r S := h.calS hp.all hs S hf.len hf.at
end
section
variable {S : Store}
theorem Frz.wk {ex : Bool} {rows : List (List AV)} : Frz S (.sl ex rows) (.sl false rows) :=
  .sl rfl (fun i r r' h1 h2 => by rw [h1] at h2; rw [Option.some.inj h2]) (fun i j r r' a a' h1 h2 h3 h4 => by
    rw [h1] at h2
    obtain rfl := Option.some.inj h2
    rw [h3] at h4
    obtain rfl := Option.some.inj h4
    exact .refl _)
theorem Frz.fns {f : Fn} {l l' m m' : List AV} (h1 : Frzs S l l') (h2 : Frzs S m m') : Frz S (.fn f l m) (.fn f l' m') := .fn h1.len h2.len h1.at h2.at
/-- a box, read. -/
theorem Frz.box {k : Nat} {cs cs' : List AV} (h : S.get k = some (.arr cs.length [cs] 0 true)) (hf : Frzs S cs cs') : Frz S (.pt k cs.length 0 0) (.ip cs') :=
  .pt h rfl (by rw [hf.len]; exact Nat.le_refl _) (fun q a a' h1 h2 => by rw [Nat.zero_add] at h1; exact hf.at q a a' h1 h2)
end
end Go.Proofs.YtahhaiomdjlckaaDoor
