/-
  The run of a piece of code over values without addresses: what it means, and the rules for the forms of code.
-/
import Derived.Test.YtahhaiomdjlckaaDoorAv
import Derived.RangeFuncLeaves
namespace Go.Proofs.YtahhaiomdjlckaaDoor
set_option linter.unusedVariables false
set_option linter.unusedSimpArgs false
open Go.RowKit

structure AA where
  tm : Nat → AV
  df : List Nat
def AA.put (α : AA) : Option Tmp → AV → AA
  | some d, a => ⟨upd α.tm d a, α.df⟩
  | none, _ => α
def lift1 : Value → AV
  | .slice none 0 0 => .sl true []
  | x => .v x
def lift : Value → AV
  | .agg cs => .agg (cs.toList.map lift1)
  | x => lift1 x
def AA.ev (α : AA) : Operand → AV
  | .tmp t => α.tm t
  | .const v => lift v
  | .global g => .v (.pointer (some ⟨g, 0, none⟩))
  | .func f => .v (.func (.func f) #[] #[])
section
variable {g g' : Gh} {w w' : World}
theorem rep_lift1 (x : Value) : Rep g w (lift1 x) x := by
  unfold lift1
  split
  · exact .nil (fun _ => rfl)
  · exact .v
theorem rep_lift (x : Value) : Rep g w (lift x) x := by
  unfold lift
  split
  · rename_i cs
    refine .agg (by simp) (fun i a x h1 h2 => ?_)
    simp only [List.getElem?_map, Option.map_eq_some_iff] at h1
    obtain ⟨y, hy, rfl⟩ := h1
    have : some x = some y := by rw [← h2, ← hy, Array.getElem?_toList]
    obtain rfl := Option.some.inj this
    exact rep_lift1 x
  · exact rep_lift1 _
/-- an activation stands for a list of values. -/
structure ARep (g : Gh) (w : World) (n : Nat) (α : AA) (a : Act) : Prop where
  size : a.tmps.size = n
  tm : ∀ t, t < n → Rep g w (α.tm t) (a.tmps.getD t undef)
  out : ∀ t, n ≤ t → α.tm t = .u
  df : a.defers = α.df.map (fun k => ({ target := .collected (g.ob k), args := #[] } : Deferred))
  dlt : ∀ k ∈ α.df, g.al k
theorem ARep.later {n : Nat} {α : AA} {a : Act} (hL : Later g w g' w') (h : ARep g w n α a) : ARep g' w' n α a :=
  ⟨h.size, fun t ht => (h.tm t ht).later hL, h.out, h.df.trans (List.map_congr_left fun k hk => by rw [hL.ob k (h.dlt k hk)]), fun k hk => hL.al k (h.dlt k hk)⟩
theorem ARep.ev {n : Nat} {α : AA} {a : Act} (h : ARep g w n α a) (o : Operand) : Rep g w (α.ev o) (a.eval o) := by
  cases o with
  | tmp t =>
    show Rep g w (α.tm t) (a.tmps.getD t undef)
    by_cases ht : t < n
    · exact h.tm t ht
    · rw [h.out t (Nat.le_of_not_lt ht)]; exact .u
  | const v => exact rep_lift v
  | global g => exact .v
  | func f => exact .v
theorem ARep.put {n : Nat} {α : AA} {a : Act} (h : ARep g w n α a) {d : Tmp} (hd : d < n) {b : AV} {x : Value} (hx : Rep g w b x) : ARep g w n (α.put (some d) b) (a.put (some d) x) := by
  refine ⟨by simp [Act.put, h.size], fun t ht => ?_, fun t ht => ?_, h.df, h.dlt⟩
  · show Rep g w (upd α.tm d b t) ((a.tmps.setIfInBounds d x).getD t undef)
    have e : (a.tmps.setIfInBounds d x).getD t undef = if t = d then x else a.tmps.getD t undef := by
      simp only [Array.getD_eq_getD_getElem?, Array.getElem?_setIfInBounds]
      by_cases e : d = t
      · subst e; simp [h.size, hd]
      · simp [e, Ne.symm e]
    rw [e]
    by_cases e : t = d
    · subst e; rw [upd_same, if_pos rfl]; exact hx
    · rw [upd_other _ _ e, if_neg e]; exact h.tm t ht
  · show upd α.tm d b t = .u
    rw [upd_other _ _ (Nat.ne_of_gt (Nat.lt_of_lt_of_le hd ht))]
    exact h.out t ht
theorem ARep.put_none {n : Nat} {α : AA} {a : Act} (h : ARep g w n α a) {b : AV} {x : Value} : ARep g w n (α.put none b) (a.put none x) := h
end

def Wide (F : Fence) : Prop := (∀ f, F.fn f) ∧ F.depth = none ∧ F.alive = false
theorem Wide.inRound {F : Fence} (h : Wide F) (l : Nat) : Wide (F.inRound l) := h
theorem Wide.plain {F : Fence} (h : Wide F) : Wide F.plain := h
theorem Wide.wide : Wide Fence.wide := ⟨fun _ => trivial, rfl, rfl⟩

section
variable (P : Program) (w0 : World) (n : Nat)
/-- what holds at the end of a piece. -/
def BPost (A : Nat → Prop) (g : Gh) (w : World) (ex : Exit) (α' : AA) (S' : Store) : Exit → Act → World → Prop :=
  fun ex' a' w' => ex' = ex ∧ ∃ g', St w0 A g' S' w' ∧ ARep g' w' n α' a' ∧ Ext A g w g' w'
/-- the code runs from (α, S) to (α', S'), and is left by ex. -/
def Big (c : Code) (α : AA) (S : Store) (ex : Exit) (α' : AA) (S' : Store) : Prop :=
  ∀ (F : Fence) (m : Nat) (A : Nat → Prop) (g : Gh) (a : Act) (w : World), Wide F → St w0 A g S w → ARep g w n α a → c.wpIn F m P (BPost w0 n A g w ex α' S') a w
end
section
variable {P : Program} {w0 : World} {n : Nat} {α α₁ α' : AA} {S S₁ S' : Store} {ex : Exit} {c d : Code}
theorem BPost.ext {A : Nat → Prop} {g g₁ : Gh} {w w₁ : World} (hE : Ext A g w g₁ w₁) {ex' : Exit} {a' : Act} {w' : World} (h : BPost w0 n A g₁ w₁ ex α' S' ex' a' w') : BPost w0 n A g w ex α' S' ex' a' w' := by
  obtain ⟨h1, g', h2, h3, h4⟩ := h
  exact ⟨h1, g', h2, h3, hE.trans h4⟩
theorem Big.skip : Big P w0 n .skip α S .normal α S := fun F m A g a w hF hS hA => wpIn_skip ⟨rfl, g, hS, hA, Ext.refl ..⟩
theorem Big.exit_ (id : Nat) : Big P w0 n (.exit id) α S (.exit id) α S := fun F m A g a w hF hS hA => wpIn_exit ⟨rfl, g, hS, hA, Ext.refl ..⟩
theorem Big.ret : Big P w0 n .ret α S .ret α S := fun F m A g a w hF hS hA => wpIn_ret ⟨rfl, g, hS, hA, Ext.refl ..⟩
theorem Big.seq (h : Big P w0 n c α S .normal α₁ S₁) (k : Big P w0 n d α₁ S₁ ex α' S') : Big P w0 n (.seq c d) α S ex α' S' := by
  intro F m A g a w hF hS hA
  refine wpIn_seq (wpIn_mono (h F m A g a w hF hS hA) ?_)
  rintro e a₁ w₁ ⟨rfl, g₁, hS₁, hA₁, hE⟩
  exact wpIn_mono (k F m A g₁ a₁ w₁ hF hS₁ hA₁) fun e a w hq => BPost.ext hE hq
theorem Big.seq_out (h : Big P w0 n c α S ex α' S') (he : ex ≠ .normal) : Big P w0 n (.seq c d) α S ex α' S' := by
  intro F m A g a w hF hS hA
  refine wpIn_seq (wpIn_mono (h F m A g a w hF hS hA) ?_)
  rintro e a₁ w₁ ⟨rfl, hq⟩
  cases e with
  | normal => exact absurd rfl he
  | _ => exact ⟨rfl, hq⟩
theorem rep_bool {g : Gh} {w : World} {b : Bool} {x : Value} (h : Rep g w (.v (.bool b)) x) : x = .bool b := by cases h; rfl
theorem rep_v {g : Gh} {w : World} {y x : Value} (h : Rep g w (.v y) x) : x = y := by cases h; rfl
theorem Big.cond {o : Operand} {t : Bool} (ho : α.ev o = .v (.bool t)) (h : Big P w0 n (if t then c else d) α S ex α' S') : Big P w0 n (.cond o c d) α S ex α' S' := by
  intro F m A g a w hF hS hA
  have h1 := hA.ev o
  rw [ho] at h1
  exact wpIn_cond (rep_bool h1) (h F m A g a w hF hS hA)
theorem Big.block {id : Nat} (h : Big P w0 n c α S ex α' S') (he : ex ≠ .exit id) : Big P w0 n (.block id c) α S ex α' S' := by
  intro F m A g a w hF hS hA
  refine wpIn_block (wpIn_mono (h F m A g a w hF hS hA) ?_)
  rintro e a₁ w₁ ⟨rfl, hq⟩
  cases e with
  | exit j =>
    have : j ≠ id := fun e => he (by rw [e])
    simp only [Exit.inBlock, this, if_false]
    exact ⟨rfl, hq⟩
  | _ => exact ⟨rfl, hq⟩
theorem Big.block_exit {id : Nat} (h : Big P w0 n c α S (.exit id) α' S') : Big P w0 n (.block id c) α S .normal α' S' := by
  intro F m A g a w hF hS hA
  refine wpIn_block (wpIn_mono (h F m A g a w hF hS hA) ?_)
  rintro e a₁ w₁ ⟨rfl, hq⟩
  simp only [Exit.inBlock, if_true]
  exact ⟨rfl, hq⟩
/-- the rounds of a loop. -/
def BigL (P : Program) (w0 : World) (n : Nat) (c : Code) (α : AA) (S : Store) (ex : Exit) (α' : AA) (S' : Store) : Prop :=
  ∀ (F : Fence) (m : Nat) (A : Nat → Prop) (g : Gh) (a : Act) (w : World), Wide F → St w0 A g S w → ARep g w n α a → ∀ (b : Frame) (k : List Item) (cs : List Frame), b.roundOf = F.round → F.fn b.fn → F.room (cs.length + 1 + m) →
    ∃ e a' w', BPost w0 n A g w ex α' S' e a' w' ∧ ArrivesIn (Machine.fenced P F) P (lone (b.atR a (.code c :: .inLoop c :: k)) cs w) b k cs e a' w'
theorem Big.loop (h : BigL P w0 n c α S ex α' S') : Big P w0 n (.loop c) α S ex α' S' := by
  intro F m A g a w hF hS hA b k cs hro hb hr
  obtain ⟨e, a', w', hq, harr⟩ := h F m A g a w hF hS hA b k cs hro hb hr
  exact ⟨e, a', w', hq, .of_steps (.one (fenced_calm hb hr rfl) stepR_loop) harr⟩
theorem BigL.step (h : Big P w0 n c α S .normal α₁ S₁) (k : BigL P w0 n c α₁ S₁ ex α' S') : BigL P w0 n c α S ex α' S' := by
  intro F m A g a w hF hS hA b l cs hro hb hr
  obtain ⟨e, a₁, w₁, hq, harr⟩ := h F m A g a w hF hS hA b (.inLoop c :: l) cs hro hb hr
  obtain ⟨rfl, g₁, hS₁, hA₁, hE⟩ := hq
  obtain ⟨e₂, a₂, w₂, hq₂, harr₂⟩ := k F m A g₁ a₁ w₁ hF hS₁ hA₁ b l cs hro hb hr
  exact ⟨e₂, a₂, w₂, BPost.ext hE hq₂, .of_steps (StepsIn.trans harr (.one (fenced_calm hb hr rfl) stepR_inLoop)) harr₂⟩
theorem BigL.done (h : Big P w0 n c α S ex α' S') (he : ex ≠ .normal) : BigL P w0 n c α S ex α' S' := by
  intro F m A g a w hF hS hA b l cs hro hb hr
  obtain ⟨e, a₁, w₁, hq, harr⟩ := h F m A g a w hF hS hA b (.inLoop c :: l) cs hro hb hr
  obtain ⟨rfl, hq⟩ := hq
  exact ⟨e, a₁, w₁, ⟨rfl, hq⟩, .pass (x := .inLoop c) rfl (fun _ _ => .inl he) harr⟩

/-- a call of f from (args, S) returns r, and leaves S'. -/
def Cal (P : Program) (w0 : World) (f : FuncId) (args : List AV) (S : Store) (r : AV) (S' : Store) : Prop :=
  (∀ (xs : Array Value) (w : World), (callFunc f xs).run P w = .ok (.enter f xs) w) ∧
  ∀ (F : Fence) (m : Nat) (A : Nat → Prop) (g : Gh) (args' : Array Value) (w : World), Wide F → St w0 A g S w → Reps g w args args' →
    CallsIn F m P f args' w fun e w' => ∃ v g', e = .returned v ∧ Rep g' w' r v ∧ St w0 A g' S' w' ∧ Ext A g w g' w'
/-- one round of a range over a function: yield is called. -/
def Rnd (P : Program) (w0 : World) (k : Nat) (args : List AV) (S : Store) (r : AV) (S' : Store) : Prop :=
  ∀ (F : Fence) (m : Nat) (A : Nat → Prop) (g : Gh) (args' : Array Value) (w : World), Wide F → St w0 A g S w → g.al k → Reps g w args args' → ∃ l f tmps assign body, (Instr.yield (g.ob k) args').run P w = .ok (.round l f tmps assign body) w ∧
    RoundIn F m P l f tmps assign body w fun e w' => ∃ v g', e = .returned v ∧ Rep g' w' r v ∧ St w0 A g' S' w' ∧ Ext A g w g' w'
/-- a call that has nothing to do with the store. -/
def PCal (P : Program) (w0 : World) (f : FuncId) (args : List AV) (r : AV) : Prop :=
  Pure r ∧ ∃ S', Cal P w0 f args Store.none_ r S'
end
end Go.Proofs.YtahhaiomdjlckaaDoor
