/-
  The walks of slices.ContainsFunc at goals that are not true; of Var, rule; of lists of declarations that are the same.
-/
import Derived.Test.YtahhaiomdjlckaaW15
namespace Go.Proofs.Ytahhaiomdjlckaa
set_option linter.unusedVariables false
set_option linter.unusedSimpArgs false
open Go.RowKit

def glv (g : Gl) (A : Option Addr) (c : Nat) : Value := .agg #[.int .i64 g.op, .string g.nm, .slice A g.ts.length c]
def notTrue (g : Gl) : Bool := g.op != 1

set_option maxRecDepth 100000 in
theorem isTrue_any (g : Gl) (A : Option Addr) (c : Nat) (w : World) :
    Calls Try.prog 28 #[glv g A c] w fun e w' => e = .returned (.bool (notTrue g)) ∧ Below w.heap.size w w' := by
  have hbox : ∀ o : Obj, Below w.heap.size w (w.alloc o) := fun o => (Below.refl _ _).alloc (Nat.le_refl _) _
  unfold glv notTrue
  go_enter Try.func28, Try.ntmps28
  go_wp2
  go_ret
  exact ⟨rfl, hbox _⟩

theorem any_at {l : List Gl} {k : Nat} {g : Gl} (h : l[k]? = some g) (hp : notTrue g = true) : l.any notTrue = true :=
  List.any_eq_true.2 ⟨g, List.mem_of_getElem? h, hp⟩
theorem none_succ {l : List Gl} {k : Nat} {g : Gl} (h : l[k]? = some g) (hp : notTrue g = false) (hk : (l.take k).any notTrue = false) : (l.take (k + 1)).any notTrue = false := by
  rw [List.take_add_one, h, List.any_append, hk]; simp [hp]

set_option maxRecDepth 100000 in
set_option maxHeartbeats 1000000 in
theorem index_any (l : List Gl) (A : Option Addr) (c : Nat) (w : World) (hA : SlAt GlAt 3 w A l) :
    Calls Try.prog 44 #[.slice A l.length c, .func (.func 28) #[] #[]] w fun e w' => (∃ r : Int, e = .returned (.int .i64 r) ∧ decide (0 ≤ r) = l.any notTrue) ∧ Below w.heap.size w w' := by
  have hl := hA.1
  unfold maxLen at hl
  have HA := Lib.hid hA
  clear hA
  go_enter Try.func44, Try.ntmps44
  go_wp2
  go_loopw [8, 5] (fun i _ wr => ∃ k : Nat, k ≤ l.length ∧ i = .int .i64 k ∧ (l.take k).any notTrue = false ∧ Below w.heap.size w wr) (fun i _ _ => l.length - (intOf i).toNat)
  case atStart => exact ⟨0, Nat.zero_le _, rfl, rfl, Below.refl _ _⟩
  case round =>
    obtain ⟨k, hk, rfl, hno, hbel⟩ := hrel
    have Hno := Lib.hid hno
    clear hno
    by_cases hlt : k < l.length
    · obtain ⟨g, hg⟩ : ∃ g, l[k]? = some g := ⟨_, List.getElem?_eq_getElem hlt⟩
      obtain ⟨b, off, rfl, hblt, ⟨p0, _⟩, ⟨p1, _⟩, B, d, p2, hB⟩ := (SlAt.below GlAt.stable HA.out hbel).2 k g hg
      have h0 := isTrue_any g B d wr
      unfold glv at h0
      have hs := hbel.size
      cases hp : notTrue g with
      | true =>
        have Hany := Lib.hid (any_at hg hp)
        rw [hp] at h0
        have hcall := Lib.hid h0
        clear h0 hg hp hB
        go_wp2_with (go_at_call 28; refine hcall.out.mono ?_; rintro e w1 ⟨rfl, hb1⟩)
        go_ret
        exact ⟨⟨k, rfl, by rw [Hany.out]; simp⟩, hbel.trans (hb1.mono hs)⟩
      | false =>
        have Hn := Lib.hid (none_succ hg hp Hno.out)
        rw [hp] at h0
        have hcall := Lib.hid h0
        clear h0 hg hp hB
        go_wp2_with (go_at_call 28; refine hcall.out.mono ?_; rintro e w1 ⟨rfl, hb1⟩)
        go_roundw
        case rel => exact ⟨k + 1, by omega, by go_num, Hn.out, hbel.trans (hb1.mono hs)⟩
        case measure => simp [intOf]; omega
    · go_wp2
      go_ret
      have hno := Hno.out
      rw [List.take_of_length_le (by omega)] at hno
      exact ⟨⟨-1, rfl, by rw [hno]; rfl⟩, hbel⟩

set_option maxRecDepth 100000 in
set_option maxHeartbeats 1000000 in
theorem contains_any (l : List Gl) (A : Option Addr) (c : Nat) (w : World) (hA : SlAt GlAt 3 w A l) :
    Calls Try.prog 27 #[.slice A l.length c, .func (.func 28) #[] #[]] w fun e w' => e = .returned (.bool (l.any notTrue)) ∧ Below w.heap.size w w' := by
  have h0 := Lib.hid (index_any l A c w hA)
  clear hA
  go_enter Try.func27, Try.ntmps27
  go_wp2_with fail
  refine h0.out.mono ?_
  rintro e w1 ⟨⟨r, rfl, hr⟩, hb⟩
  have Hr := Lib.hid hr
  clear hr
  go_wp2
  go_ret
  exact ⟨ret_bool Hr.out, hb⟩

set_option maxRecDepth 100000 in
theorem var_any (i : Int) (w : World) : Calls Try.prog 50 #[.int .i64 i] w fun e w' => e = .returned (.agg #[.int .i64 1, .int .i64 i, .string ⟨#[]⟩, .slice none 0 0]) ∧ Below w.heap.size w w' := by
  have hbox : ∀ o : Obj, Below w.heap.size w (w.alloc o) := fun o => (Below.refl _ _).alloc (Nat.le_refl _) _
  go_enter Try.func50, Try.ntmps50
  go_wp2
  refine bodyPost_ret (v := .agg #[.int .i64 1, .int .i64 i, .string ⟨#[]⟩, .slice none 0 0]) (by simp [results, Try.results50, go_sem]) rfl ⟨rfl, ?_⟩
  exact hbox _
end Go.Proofs.Ytahhaiomdjlckaa
