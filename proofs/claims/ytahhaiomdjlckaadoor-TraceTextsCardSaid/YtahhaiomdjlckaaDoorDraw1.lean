/-
  Operations look at their operands alone; those that ask nothing of the store run at every store.
-/
import Derived.Test.YtahhaiomdjlckaaDoorCall
import Derived.Orders
namespace Go.Proofs.YtahhaiomdjlckaaDoor
set_option linter.unusedVariables false
set_option linter.unusedSimpArgs false
open Go.RowKit

section
variable {P : Program} {w0 : World} {n : Nat} {o : Oper} {α β : AA} {S S' : Store} {r : AV}
theorem map_congr_arr {γ δ : Type} {l : Array γ} {f g : γ → δ} (h : ∀ x ∈ l, f x = g x) : l.toList.map f = l.toList.map g := List.map_congr_left fun x hx => h x (by simpa using hx)
theorem opK_congr {op : Op} {K : AV → Store → Prop} (h : ∀ x ∈ op.operands, α.ev x = β.ev x) (H : opK P w0 op α S K) : opK P w0 op β S K := by
  cases op with
  | move x => simp only [opK, gotA] at H ⊢; rw [← h x (by simp [Op.operands])]; exact H
  | assign x => simp only [opK, gotA] at H ⊢; rw [← h x (by simp [Op.operands])]; exact H
  | pick c a b => simp only [opK, gotA] at H ⊢; rw [← h c (by simp [Op.operands]), ← h a (by simp [Op.operands]), ← h b (by simp [Op.operands])]; exact H
  | alloc e => exact H
  | box e x => simp only [opK, gotA] at H ⊢; rw [← h x (by simp [Op.operands])]; exact H
  | build t parts =>
    simp only [opK, gotA] at H ⊢
    have e : (parts.toList.map fun (i, x) => (i, α.ev x)) = parts.toList.map fun (i, x) => (i, β.ev x) := List.map_congr_left fun p hp => by
      have := h p.2 (by simp only [Op.operands, List.mem_toArray, List.mem_map]; exact ⟨p, hp, rfl⟩)
      show (p.1, α.ev p.2) = (p.1, β.ev p.2)
      rw [this]
    rw [← e]
    exact H
  | buildSlice t len parts =>
    simp only [opK, gotA] at H ⊢
    have e : (parts.toList.map fun (i, x) => (i, α.ev x)) = parts.toList.map fun (i, x) => (i, β.ev x) := List.map_congr_left fun p hp => by
      have := h p.2 (by simp only [Op.operands, List.mem_toArray, List.mem_map]; exact ⟨p, hp, rfl⟩)
      show (p.1, α.ev p.2) = (p.1, β.ev p.2)
      rw [this]
    rw [← e]
    exact H
  | load t x => simp only [opK, gotA] at H ⊢; rw [← h x (by simp [Op.operands])]; exact H
  | store t x b => simp only [opK, gotA] at H ⊢; rw [← h x (by simp [Op.operands]), ← h b (by simp [Op.operands])]; exact H
  | binOp op t x y ty => simp only [opK, gotA] at H ⊢; rw [← h x (by simp [Op.operands]), ← h y (by simp [Op.operands])]; exact H
  | unOp op t x => simp only [opK, gotA] at H ⊢; rw [← h x (by simp [Op.operands])]; exact H
  | convert src dst x => simp only [opK, gotA] at H ⊢; rw [← h x (by simp [Op.operands])]; exact H
  | fieldAddr s x f => simp only [opK, gotA] at H ⊢; rw [← h x (by simp [Op.operands])]; exact H
  | field t x f => simp only [opK, gotA] at H ⊢; rw [← h x (by simp [Op.operands])]; exact H
  | indexAddr t x i => simp only [opK, gotA] at H ⊢; rw [← h x (by simp [Op.operands]), ← h i (by simp [Op.operands])]; exact H
  | index t x i => simp only [opK, gotA] at H ⊢; rw [← h x (by simp [Op.operands]), ← h i (by simp [Op.operands])]; exact H
  | slice t x lo hi mx =>
    simp only [opK, gotA] at H ⊢
    have e : ∀ z : Option Operand, (∀ y ∈ z, y ∈ (Op.slice t x lo hi mx).operands) → z.map α.ev = z.map β.ev := by
      intro z hz
      cases z with
      | none => rfl
      | some y => simp only [Option.map_some]; rw [h y (hz y rfl)]
    rw [← h x (by simp [Op.operands]), ← e lo (fun y hy => by simp [Op.operands]; simp at hy; simp [hy]), ← e hi (fun y hy => by simp [Op.operands]; simp at hy; simp [hy]), ← e mx (fun y hy => by simp [Op.operands]; simp at hy; simp [hy])]
    exact H
  | extract x i => simp only [opK, gotA] at H ⊢; rw [← h x (by simp [Op.operands])]; exact H
  | makeFunc f first cap =>
    simp only [opK, gotA] at H ⊢
    rw [← map_congr_arr (l := first) fun x hx => h x (by simp [Op.operands, hx]), ← map_congr_arr (l := cap) fun x hx => h x (by simp [Op.operands, hx])]
    exact H
  | nilCheck x => simp only [opK, gotA] at H ⊢; rw [← h x (by simp [Op.operands])]; exact H
  | makeSlice t l c => simp only [opK, gotA] at H ⊢; rw [← h l (by simp [Op.operands]), ← h c (by simp [Op.operands])]; exact H
  | range t x => simp only [opK, gotA] at H ⊢; rw [← h x (by simp [Op.operands])]; exact H
  | next x b => simp only [opK, gotA] at H ⊢; rw [← h x (by simp [Op.operands])]; exact H
  | call c =>
    have e : c.args.toList.map α.ev = c.args.toList.map β.ev := map_congr_arr fun x hx => h x (by simp [Op.operands, Call.operands, hx])
    simp only [opK, gotA] at H ⊢
    split at H
    · rename_i f hc
      rw [← e, ← h f (by simp [Op.operands, Call.operands, hc])]
      exact H
    · rw [← e]
      exact H
    · exact H.elim
  | _ => exact H.elim
/-- operations that neither read nor write the store. -/
def isP : Op → Bool
  | .move _ | .assign _ | .pick .. | .build .. | .buildSlice .. | .binOp .. | .unOp .. | .convert .. | .fieldAddr .. | .field .. | .indexAddr .. | .index .. | .slice .. | .extract .. | .makeFunc .. | .nilCheck _ => true
  | .call c => match c.callee with | .builtin .len | .builtin .min | .builtin .max => true | _ => false
  | _ => false
/-- operations that change the store. -/
def isW : Op → Bool
  | .load .. => false
  | .call c => match c.callee with | .value _ => false | .builtin .len | .builtin .min | .builtin .max => false | _ => true
  | o => !isP o
theorem br_out {t : Bool} {X Y : Prop} (h : br t X Y) : (t = true ∧ X) ∨ (t = false ∧ Y) := by cases t; exact .inr ⟨rfl, h⟩; exact .inl ⟨rfl, h⟩
/-- this value, this store. -/
def IsO (r : AV) (S : Store) (r' : AV) (S' : Store) : Prop := r' = r ∧ S' = S
theorem opK_P {op : Op} {K : AV → Store → Prop} (hp : isP op = true) (h : opK P w0 op α S K) : ∃ r, K r S ∧ ∀ S', opK P w0 op α S' (IsO r S') := by
  cases op with
  | move x => exact ⟨_, h, fun S' => ⟨rfl, rfl⟩⟩
  | assign x => exact ⟨_, h, fun S' => ⟨rfl, rfl⟩⟩
  | pick c a b =>
    simp only [opK, gotA] at h ⊢
    split at h
    · rcases br_out h with ⟨rfl, h⟩ | ⟨rfl, h⟩
      · exact ⟨_, h, fun S' => ⟨rfl, rfl⟩⟩
      · exact ⟨_, h, fun S' => ⟨rfl, rfl⟩⟩
    · exact h.elim
  | build t parts =>
    simp only [opK, gotA] at h ⊢
    split at h
    · exact ⟨_, h, fun S' => ⟨rfl, rfl⟩⟩
    · exact h.elim
  | buildSlice t len parts =>
    simp only [opK, gotA] at h ⊢
    split at h
    · split at h
      · split at h
        · split at h
          · exact ⟨_, h, fun S' => ⟨rfl, rfl⟩⟩
          · exact h.elim
        · exact h.elim
      · exact h.elim
    · exact h.elim
  | binOp op t x y ty =>
    simp only [opK, gotA] at h ⊢
    split at h
    · split at h
      · split at h
        · obtain ⟨d, hd, hK⟩ := h
          exact ⟨_, hK, fun S' => ⟨d, hd, ⟨rfl, rfl⟩⟩⟩
        · exact h.elim
      · split at h
        · exact ⟨_, h.out, fun S' => boK.mk ⟨rfl, rfl⟩⟩
        · exact h.elim
    · split at h
      · exact ⟨_, h.2, fun S' => ⟨h.1, ⟨rfl, rfl⟩⟩⟩
      · split at h
        · exact ⟨_, h.out, fun S' => boK.mk ⟨rfl, rfl⟩⟩
        · exact h.elim
    · split at h
      · exact ⟨_, h.out, fun S' => boK.mk ⟨rfl, rfl⟩⟩
      · exact h.elim
    · exact h.elim
  | unOp op t x =>
    simp only [opK, gotA] at h ⊢
    split at h
    · exact ⟨_, h, fun S' => ⟨rfl, rfl⟩⟩
    · obtain ⟨d, hd, hK⟩ := h
      exact ⟨_, hK, fun S' => ⟨d, hd, ⟨rfl, rfl⟩⟩⟩
    · exact h.elim
  | convert src dst x =>
    simp only [opK, gotA] at h ⊢
    split at h
    · obtain ⟨d, hd, hK⟩ := h
      exact ⟨_, hK, fun S' => ⟨d, hd, ⟨rfl, rfl⟩⟩⟩
    · exact ⟨_, h, fun S' => ⟨rfl, rfl⟩⟩
    · exact h.elim
  | fieldAddr s x f =>
    simp only [opK, gotA] at h ⊢
    split at h
    · split at h
      · split at h
        · split at h
          · exact ⟨_, h, fun S' => ⟨rfl, rfl⟩⟩
          · exact ⟨_, h, fun S' => ⟨rfl, rfl⟩⟩
          · exact h.elim
        · exact h.elim
      · exact h.elim
    · exact h.elim
  | field t x f =>
    simp only [opK, gotA] at h ⊢
    split at h
    · split at h
      · split at h
        · split at h
          · exact ⟨_, h, fun S' => ⟨rfl, rfl⟩⟩
          · exact h.elim
        · exact h.elim
      · exact h.elim
    · exact h.elim
  | indexAddr t x i =>
    simp only [opK, gotA] at h ⊢
    split at h
    · split at h
      · split at h
        · exact ⟨_, h.2, fun S' => ⟨h.1, ⟨rfl, rfl⟩⟩⟩
        · exact h.elim
      · exact h.elim
    · exact ⟨_, h.2.2.2, fun S' => ⟨h.1, h.2.1, h.2.2.1, ⟨rfl, rfl⟩⟩⟩
    · split at h
      · exact ⟨_, h.2.2, fun S' => ⟨h.1, h.2.1, ⟨rfl, rfl⟩⟩⟩
      · exact h.elim
    · split at h
      · exact ⟨_, h.2.2, fun S' => ⟨h.1, h.2.1, ⟨rfl, rfl⟩⟩⟩
      · exact h.elim
    · exact h.elim
  | index t x i =>
    simp only [opK, gotA] at h ⊢
    split at h
    · split at h
      · exact ⟨_, h, fun S' => ⟨rfl, rfl⟩⟩
      · exact h.elim
    · split at h
      · split at h
        · exact ⟨_, h.2.2, fun S' => ⟨h.1, h.2.1, ⟨rfl, rfl⟩⟩⟩
        · exact h.elim
      · exact h.elim
    · exact h.elim
  | slice t x lo hi mx =>
    simp only [opK, sliceK] at h ⊢
    split at h
    · split at h
      · exact ⟨_, h.2.2.2, fun S' => ⟨h.1, h.2.1, h.2.2.1, ⟨rfl, rfl⟩⟩⟩
      · exact h.elim
    · split at h
      · exact ⟨_, h.2.2.2.2.2, fun S' => ⟨h.1, h.2.1, h.2.2.1, h.2.2.2.1, h.2.2.2.2.1, ⟨rfl, rfl⟩⟩⟩
      · exact h.elim
    · split at h
      · exact ⟨_, h.2.2.2.2.2.2, fun S' => ⟨h.1, h.2.1, h.2.2.1, h.2.2.2.1, h.2.2.2.2.1, h.2.2.2.2.2.1, ⟨rfl, rfl⟩⟩⟩
      · exact h.elim
    · split at h
      · exact ⟨_, h.2.2.2, fun S' => ⟨h.1, h.2.1, h.2.2.1, ⟨rfl, rfl⟩⟩⟩
      · rename_i e kd l hh hu hlo hhi
        obtain ⟨h1, h2, h3, h4, h5, h6⟩ := h
        by_cases c : l = hh
        · exact ⟨_, h5 c, fun S' => ⟨h1, h2, h3, h4, fun _ => ⟨rfl, rfl⟩, fun c' => absurd c (by omega)⟩⟩
        · exact ⟨_, h6 (by omega), fun S' => ⟨h1, h2, h3, h4, fun c' => absurd c' c, fun _ => ⟨rfl, rfl⟩⟩⟩
      · exact h.elim
    · split at h
      · exact ⟨_, h.2.2.2.2.2, fun S' => ⟨h.1, h.2.1, h.2.2.1, h.2.2.2.1, h.2.2.2.2.1, ⟨rfl, rfl⟩⟩⟩
      · exact h.elim
    · exact h.elim
  | extract x i =>
    simp only [opK, gotA] at h ⊢
    split at h
    · split at h
      · exact ⟨_, h, fun S' => ⟨rfl, rfl⟩⟩
      · exact h.elim
    · exact h.elim
  | makeFunc f first cap => exact ⟨_, h, fun S' => ⟨rfl, rfl⟩⟩
  | nilCheck x =>
    simp only [opK, gotA] at h ⊢
    split at h
    · exact ⟨_, h, fun S' => ⟨rfl, rfl⟩⟩
    · exact ⟨_, h, fun S' => ⟨rfl, rfl⟩⟩
    · exact h.elim
  | call c =>
    simp only [isP] at hp
    simp only [opK, gotA] at h ⊢
    split at h
    · rename_i f hc
      rw [hc] at hp
      cases hp
    · rename_i b hc
      rw [hc] at hp
      simp only [builtinK, gotA] at h ⊢
      split at h
      · split at h
        · split at h
          · exact ⟨_, h, fun S' => ⟨rfl, rfl⟩⟩
          · exact h.elim
        · exact h.elim
      · cases hp
      · split at h
        · split at h
          · exact ⟨_, h, fun S' => ⟨rfl, rfl⟩⟩
          · exact h.elim
        · exact h.elim
      · split at h
        · split at h
          · exact ⟨_, h, fun S' => ⟨rfl, rfl⟩⟩
          · exact h.elim
        · exact h.elim
      · exact h.elim
    · exact h.elim
  | _ => cases hp
/-- the slots of a list alone. -/
def AA.only (α : AA) (ts : List Tmp) : AA := ⟨fun t => if ts.contains t then α.tm t else .u, α.df⟩
theorem only_ev {ts : List Tmp} {x : Operand} (h : ∀ t, x = .tmp t → t ∈ ts) : (α.only ts).ev x = α.ev x := by
  cases x with
  | tmp t =>
    show (if ts.contains t then α.tm t else .u) = α.tm t
    rw [if_pos (by simpa using h t rfl)]
  | _ => rfl
theorem ARep.only {g : Gh} {w : World} {a : Act} (h : ARep g w n α a) (ts : List Tmp) : ARep g w n (α.only ts) a := by
  refine ⟨h.size, fun t ht => ?_, fun t ht => ?_, h.df, h.dlt⟩
  · show Rep g w (if ts.contains t then α.tm t else .u) _
    split
    · exact h.tm t ht
    · exact .u
  · show (if ts.contains t then α.tm t else .u) = .u
    rw [h.out t ht]
    split <;> rfl
end
end Go.Proofs.YtahhaiomdjlckaaDoor
