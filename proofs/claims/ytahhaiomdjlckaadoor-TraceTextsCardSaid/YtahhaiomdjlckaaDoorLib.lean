/-
  Calls whose contracts come from elsewhere; from a call here to a call of the kit.
-/
import Derived.Test.YtahhaiomdjlckaaDoorUse
namespace Go.Proofs.YtahhaiomdjlckaaDoor
set_option linter.unusedVariables false
set_option linter.unusedSimpArgs false
open Go.RowKit

theorem fenced_of_wide {P : Program} {F : Fence} (h : Wide F) (m : Machine) : m.fenced P F := by
  intro g _
  refine ⟨fun h' => ?_, Or.inl (h.1 _), fun _ _ => h.1 _, fun _ h' => ?_⟩
  · rw [h.2.2] at h'; cases h'
  · rw [h.2.1] at h'; cases h'
theorem CallsIn.of_calls {P : Program} {F : Fence} {m : Nat} {f : FuncId} {args : Array Value} {w : World} {R : Ending → World → Prop} (hF : Wide F) (h : Calls P f args w R) : CallsIn F m P f args w R := by
  obtain ⟨_, h2⟩ := callsIn_wide (n := 0).2 h
  refine ⟨hF.1 f, fun cs _ => ?_⟩
  obtain ⟨e, w', fr, r, s, x⟩ := h2 cs (room_wide _)
  refine ⟨e, w', fr, r, ?_, x⟩
  cases e with
  | returned v => exact StepsIn.mono (fun m _ => fenced_of_wide hF m) s
  | panicked chain => exact StepsIn.mono (fun m _ => fenced_of_wide hF m) s
  | outgrown => exact s
section
variable {P : Program} {w0 : World} {S : Store} {r : AV}
/-- new blocks alone: they never change. -/
theorem St.below {A : Nat → Prop} {g : Gh} {w w' : World} (hS : St w0 A g S w) (hb : Below w.heap.size w w') :
    Ext A g w ⟨g.ob, g.cp, g.al, fun b q => g.fz b q ∨ (w.heap.size ≤ b ∧ b < w'.heap.size)⟩ w' ∧ St w0 A ⟨g.ob, g.cp, g.al, fun b q => g.fz b q ∨ (w.heap.size ≤ b ∧ b < w'.heap.size)⟩ S w' := by
  have hL : Later g w ⟨g.ob, g.cp, g.al, fun b q => g.fz b q ∨ (w.heap.size ≤ b ∧ b < w'.heap.size)⟩ w' := ⟨fun _ h => h, fun _ _ => rfl, fun _ _ => rfl, fun _ _ h => .inl h, fun b q hf => World.cell?_of_block (hb.block b (hS.fzlt b q hf))⟩
  have hE : Ext A g w ⟨g.ob, g.cp, g.al, fun b q => g.fz b q ∨ (w.heap.size ≤ b ∧ b < w'.heap.size)⟩ w' := { hL with size := hb.size, keep := fun b hlt _ => hb.block b hlt, nfz := fun b q h => h.elim .inl fun e => .inr (hS.up b e.1) }
  refine ⟨hE, hS.next hE hb.os hb.tape hb.output hS.al (fun k p hk ha => ?_) hS.inj (fun b q hf => ?_)⟩
  · obtain ⟨h2, h3, h4⟩ := hS.obs k p hk ha
    exact ⟨h2, Nat.lt_of_lt_of_le h3 hb.size, h4.later hL (hb.block _ h3) (fun q hq => hq.elim id fun e => absurd e.1 (by show ¬ w.heap.size ≤ g.ob k; omega))⟩
  · rcases hf with hf | hf
    · exact Nat.lt_of_lt_of_le (hS.fzlt b q hf) hb.size
    · exact hf.2
/-- a contract of the library: values go in, a value comes out, only new blocks are made. -/
theorem PCal.of_calls {f : FuncId} {xs : List Value} (hc : ∀ (xs : Array Value) (w : World), (callFunc f xs).run P w = .ok (.enter f xs) w) (hp : Pure r)
    (h : ∀ w, Below w0.heap.size w0 w → Calls P f xs.toArray w fun e w' => ∃ v, e = .returned v ∧ Below w.heap.size w w' ∧ ∀ g : Gh, (∀ b q, w.heap.size ≤ b → b < w'.heap.size → g.fz b q) → Rep g w' r v) : PCal P w0 f (xs.map .v) r := by
  refine ⟨hp, Store.none_, hc, fun F m A g args' w hF hS hA => ?_⟩
  have he : args' = xs.toArray := by
    apply Array.ext_getElem?
    intro i
    by_cases hi : i < xs.length
    · have h1 : (xs.map AV.v)[i]? = some (.v xs[i]) := by simp [hi]
      have h2 : i < args'.size := by rw [hA.1]; simpa using hi
      have h3 := rep_v (hA.2 i _ _ h1 (Array.getElem?_eq_getElem h2))
      rw [Array.getElem?_eq_getElem h2, h3]
      simp [hi]
    · rw [Array.getElem?_eq_none (by rw [hA.1]; simpa using hi), Array.getElem?_eq_none (by simpa using hi)]
  subst he
  refine CallsIn.of_calls hF ((h w hS.base).mono ?_)
  rintro e w' ⟨v, rfl, hb, hr⟩
  obtain ⟨hE, hSt⟩ := hS.below hb
  exact ⟨v, _, rfl, hr ⟨g.ob, g.cp, g.al, fun b q => g.fz b q ∨ (w.heap.size ≤ b ∧ b < w'.heap.size)⟩ (fun b q h1 h2 => .inr ⟨h1, h2⟩), hSt, hE⟩
/-- the ghosts of the start: all old memory stays as it is. -/
theorem St.start (w : World) : St w (fun b => w.heap.size ≤ b) ⟨fun _ => 0, fun _ => 0, fun _ => False, fun b _ => b < w.heap.size⟩ Store.none_ w :=
  have e0 : ∀ k o, ¬ Store.none_.get k = some o := fun k o h => by simp [Store.none_] at h
  ⟨Below.refl _ _, fun _ h => h, fun _ h => h, fun k hk => hk.elim, fun k o hk => absurd hk (e0 k o), fun j k o p hj => absurd hj (e0 j o), fun b q h => h, fun b q h => h⟩
/-- from a call here to a call of the kit. -/
theorem PCal.calls {f : FuncId} {args : List AV} {x : Value} {args' : Array Value} {w : World} (h : PCal P w f args (.v x)) (hA : Reps ⟨fun _ => 0, fun _ => 0, fun _ => False, fun b _ => b < w.heap.size⟩ w args args') :
    Calls P f args' w fun e w' => e = .returned x ∧ Below w.heap.size w w' := by
  obtain ⟨_, S', _, h⟩ := h
  refine (callsIn_wide (n := 0).1 (h Fence.wide 0 _ _ args' w Wide.wide (St.start w) hA)).mono ?_
  rintro e w' ⟨v, g', rfl, hr, hS, hE⟩
  obtain rfl := rep_v hr
  exact ⟨rfl, hS.base⟩
end
end Go.Proofs.YtahhaiomdjlckaaDoor
