/-
  The walk of Idempotent, in the program: the ways that end early.
-/
import Derived.Test.YtahhaiomdjlckaaIdem
import Derived.Maps.OwnOps
namespace Go.Proofs.Ytahhaiomdjlckaa
set_option linter.unusedVariables false
set_option linter.unusedSimpArgs false
open Go.RowKit Go.Maps

/-- a rule as a value. -/
def rlv (r : Rl) (kA rA gA bA : Option Addr) (kc rc gc bc : Nat) : Value := .agg #[.string r.nm, .slice kA r.kp.length kc, .slice rA r.rm.length rc, .slice gA r.gd.length gc, .slice bA r.bd.length bc, .int .i64 r.vs]

set_option maxRecDepth 100000 in
set_option maxHeartbeats 2000000 in
theorem idem_early (r : Rl) (kA rA gA bA : Option Addr) (kc rc gc bc : Nat) (w : World) (hk : SlAt AtAt 2 w kA r.kp) (hr : SlAt AtAt 2 w rA r.rm) (hg : SlAt GlAt 3 w gA r.gd)
    (h : r.kp.length ≠ 1 ∨ r.rm.length ≠ 1 ∨ 0 < r.gd.length) :
    Calls Try.prog 7 #[rlv r kA rA gA bA kc rc gc bc] w fun e w' => e = .returned (.tuple #[dcv noDc, .bool false]) ∧ Below w.heap.size w w' := by
  have h1 := hk.1
  have h2 := hr.1
  have h3 := hg.1
  unfold maxLen at h1 h2 h3
  have hbox : ∀ o o' : Obj, Below w.heap.size w ((w.alloc o).alloc o') := fun o o' => ((Below.refl _ _).alloc (Nat.le_refl _) _).alloc (by simp) _
  clear hk hr hg
  unfold rlv dcv noDc
  cases k1 : (((r.kp.length : Nat) : Int) != 1) with
  | true =>
    go_enter Try.func7, Try.ntmps7
    go_wp2
    refine bodyPost_ret (v := .tuple #[.agg #[.string ⟨#[]⟩, .int .i64 0], .bool false]) (by simp [results, Try.results7, go_sem]) rfl ⟨rfl, ?_⟩
    exact hbox _ _
  | false =>
    cases k2 : (((r.rm.length : Nat) : Int) != 1) with
    | true =>
      go_enter Try.func7, Try.ntmps7
      go_wp2
      refine bodyPost_ret (v := .tuple #[.agg #[.string ⟨#[]⟩, .int .i64 0], .bool false]) (by simp [results, Try.results7, go_sem]) rfl ⟨rfl, ?_⟩
      exact hbox _ _
    | false =>
      have k3 : 0 < r.gd.length := by
        simp only [bne_eq_false_iff_eq] at k1 k2
        omega
      go_enter Try.func7, Try.ntmps7
      go_wp2
      refine bodyPost_ret (v := .tuple #[.agg #[.string ⟨#[]⟩, .int .i64 0], .bool false]) (by simp [results, Try.results7, go_sem]) rfl ⟨rfl, ?_⟩
      exact hbox _ _
end Go.Proofs.Ytahhaiomdjlckaa
