/-
  NARROWER THAN 'FOR EVERY INPUT', by the rows' own cells (each row's printed sentence says how): OverlapRight: loops · TheoryMoves: loops · TheoryBodies: loops.
  DERIVED. THE GIVEN ROWS OF THIS SEAT. 3 by the template 'for every input the law returns true; each argument reads behind the call as it read before'; 0 by the template 'total and deterministic' (their statements: YtbdcmpknicjopaaGreatTotals.lean).
  GIVEN WITH THE SEED: the statements are not yours to turn. If you find one false, say at which input.
  Laid BY PROGRAM, IN A SANDBOX (cutbox-rows.mjs): the forced cells as the released guide's own fill.sh prints them over the translation 1aa09f7f3a8f447c… (all of the seat's roots in one cut). By AI agents, Wed Nov 11 2026. No macro, syntax, notation, axiom, sorry.
-/
import Derived.Test.YtbdcmpknicjopaaGreatChecked
import GoSem.Claim
import GoSem.ClaimJoined
import GoSem.ClaimMapViews
import Derived.JoinedTies
import Derived.KernelRfl
namespace Go.Proofs.YtbdcmpknicjopaaGreat
/- THE CELL 'sum', in the pinned program and in every row, IS THE sha256 OF THE DUMP (.gsa) THAT YtbdcmpknicjopaaGreatProg.lean LOADS. Nothing in Lean hashes anything: it is a label: what it is worth is what the hold of that sum in a sandbox is worth. -/
noncomputable def Tryz.pinned : Pinned := { name := "ytbdcmpknicjopaagreat", sum := "1aa09f7f3a8f447c344758dabbd83da0ffbc17b175401199c3e51ad378a94e0e", checked := Tryz.checked }
namespace Rows
def none {H : Type} : Left H := { results := [], args := [] }

/-- 'constraintlaw38.OverlapRight': WHATEVER THE INPUT: true; the input reads as it did. -/
def overlapRightSpec : ChangeSpec := { name := "overlapRight", fn := fun _ => fun
  | [d1, d2] => { results := [.lit (.bool true)], args := [d1, d2] }
  | _ => none }
def overlapRightRow : OpenClaim := { program := "ytbdcmpknicjopaagreat", sum := "1aa09f7f3a8f447c344758dabbd83da0ffbc17b175401199c3e51ad378a94e0e", func := "constraint/constraintlaw38.OverlapRight", spec := "overlapRight", inPlace := ["internal/bytealg.IndexByteString", "internal/bytealg.IndexString", "slices.overlaps[constraint/api.Bind]"], unfollowed := true, recurses := true, named := ["internal/bytealg.MaxLen"], loops := true, plainKeys := false, apart := false }
def OverlapRightSaid : Prop := overlapRightRow.holds Tryz.pinned (OpenSpec.ofChange overlapRightSpec)

/-- ITS FALSE NEIGHBOUR: 'it returns false'. Refute it at one input. -/
def overlapRightWrong : ChangeSpec := { name := "overlapRight", fn := fun _ => fun
  | [d1, d2] => { results := [.lit (.bool false)], args := [d1, d2] }
  | _ => none }
def OverlapRightWrongFalsely : Prop := overlapRightRow.holds Tryz.pinned (OpenSpec.ofChange overlapRightWrong)

/-- 'constraintlaw23.TheoryMoves': WHATEVER THE INPUT: true; the input reads as it did. -/
def theoryMovesSpec : ChangeSpec := { name := "theoryMoves", fn := fun _ => fun
  | [d1, d2] => { results := [.lit (.bool true)], args := [d1, d2] }
  | _ => none }
def theoryMovesRow : OpenClaim := { program := "ytbdcmpknicjopaagreat", sum := "1aa09f7f3a8f447c344758dabbd83da0ffbc17b175401199c3e51ad378a94e0e", func := "constraint/constraintlaw23.TheoryMoves", spec := "theoryMoves", inPlace := ["internal/bytealg.IndexByteString", "internal/bytealg.IndexString", "slices.overlaps[constraint/api.Bind]", "slices.overlaps[constraint/api.Fire]"], unfollowed := true, recurses := true, named := ["internal/bytealg.MaxLen"], loops := true, plainKeys := false, apart := false }
def TheoryMovesSaid : Prop := theoryMovesRow.holds Tryz.pinned (OpenSpec.ofChange theoryMovesSpec)

/-- ITS FALSE NEIGHBOUR: 'it returns false'. Refute it at one input. -/
def theoryMovesWrong : ChangeSpec := { name := "theoryMoves", fn := fun _ => fun
  | [d1, d2] => { results := [.lit (.bool false)], args := [d1, d2] }
  | _ => none }
def TheoryMovesWrongFalsely : Prop := theoryMovesRow.holds Tryz.pinned (OpenSpec.ofChange theoryMovesWrong)

/-- 'constraintlaw23.TheoryBodies': WHATEVER THE INPUT: true; the input reads as it did. -/
def theoryBodiesSpec : ChangeSpec := { name := "theoryBodies", fn := fun _ => fun
  | [d1, d2, d3] => { results := [.lit (.bool true)], args := [d1, d2, d3] }
  | _ => none }
def theoryBodiesRow : OpenClaim := { program := "ytbdcmpknicjopaagreat", sum := "1aa09f7f3a8f447c344758dabbd83da0ffbc17b175401199c3e51ad378a94e0e", func := "constraint/constraintlaw23.TheoryBodies", spec := "theoryBodies", inPlace := ["internal/bytealg.IndexByteString", "internal/bytealg.IndexString", "slices.overlaps[constraint/api.Bind]", "slices.overlaps[constraint/api.Fire]"], unfollowed := true, recurses := true, named := ["internal/bytealg.MaxLen"], loops := true, plainKeys := false, apart := false }
def TheoryBodiesSaid : Prop := theoryBodiesRow.holds Tryz.pinned (OpenSpec.ofChange theoryBodiesSpec)

/-- ITS FALSE NEIGHBOUR: 'it returns false'. Refute it at one input. -/
def theoryBodiesWrong : ChangeSpec := { name := "theoryBodies", fn := fun _ => fun
  | [d1, d2, d3] => { results := [.lit (.bool false)], args := [d1, d2, d3] }
  | _ => none }
def TheoryBodiesWrongFalsely : Prop := theoryBodiesRow.holds Tryz.pinned (OpenSpec.ofChange theoryBodiesWrong)

/- THE SECOND FORM. 'bulk': how many values and letters a reading holds, each counted each time it is reached (what is shared counts as often as it is met; a slice's spare places count too). A statement '..UptoSaid' is the law's where the arguments, and the package variables that the reading takes, are together of bulk at most 1048576: NARROWER than '..Said'. Prove '..Said' where nothing that the law and all that it calls make is longer than what came in: it says more and counts as full. Else prove '..UptoSaid'. A law counts once. -/
mutual
def uptoBulk {H : Type} : DataW H → Nat
  | .lit (.string bytes) => bytes.length + 1
  | .lit _ => 1
  | .nil => 1
  | .ptr d => uptoBulk d + 1
  | .slice elems spare => uptoBulkAll elems + uptoBulkAll spare + 1
  | .agg parts => uptoBulkAll parts + 1
  | .iface _ d => uptoBulk d + 1
  | .map entries => uptoBulkEntries entries + 1
  | .held _ => 1
def uptoBulkAll {H : Type} : List (DataW H) → Nat
  | [] => 0
  | d :: r => uptoBulk d + uptoBulkAll r
def uptoBulkEntries {H : Type} : List (Lit × DataW H) → Nat
  | [] => 0
  | x :: r => uptoBulkEntry x + uptoBulkEntries r
def uptoBulkEntry {H : Type} : Lit × DataW H → Nat
  | (.string bytes, d) => bytes.length + uptoBulk d + 1
  | (_, d) => uptoBulk d + 1
 end
def uptoSmall : (H : Type) → List (DataW H) → Bool := fun _ ds => decide (uptoBulkAll ds ≤ 1048576)
def OpenSpec.upto (s : _root_.Go.ChangeSpec) : _root_.Go.OpenSpec := { _root_.Go.OpenSpec.ofChange s with cond := some uptoSmall }

/-- 'constraintlaw38.OverlapRight', WHERE WHAT IT READS IS OF BULK AT MOST 1048576: true; the input reads as it did. -/
def overlapRightUptoRow : OpenClaim := { program := "ytbdcmpknicjopaagreat", sum := "1aa09f7f3a8f447c344758dabbd83da0ffbc17b175401199c3e51ad378a94e0e", func := "constraint/constraintlaw38.OverlapRight", spec := "overlapRight", inPlace := ["internal/bytealg.IndexByteString", "internal/bytealg.IndexString", "slices.overlaps[constraint/api.Bind]"], unfollowed := true, recurses := true, named := ["internal/bytealg.MaxLen"], loops := true, plainKeys := false, apart := false, narrowed := true }
def OverlapRightUptoSaid : Prop := overlapRightUptoRow.holds Tryz.pinned (OpenSpec.upto overlapRightSpec)

/-- 'constraintlaw23.TheoryMoves', WHERE WHAT IT READS IS OF BULK AT MOST 1048576: true; the input reads as it did. -/
def theoryMovesUptoRow : OpenClaim := { program := "ytbdcmpknicjopaagreat", sum := "1aa09f7f3a8f447c344758dabbd83da0ffbc17b175401199c3e51ad378a94e0e", func := "constraint/constraintlaw23.TheoryMoves", spec := "theoryMoves", inPlace := ["internal/bytealg.IndexByteString", "internal/bytealg.IndexString", "slices.overlaps[constraint/api.Bind]", "slices.overlaps[constraint/api.Fire]"], unfollowed := true, recurses := true, named := ["internal/bytealg.MaxLen"], loops := true, plainKeys := false, apart := false, narrowed := true }
def TheoryMovesUptoSaid : Prop := theoryMovesUptoRow.holds Tryz.pinned (OpenSpec.upto theoryMovesSpec)

/-- 'constraintlaw23.TheoryBodies', WHERE WHAT IT READS IS OF BULK AT MOST 1048576: true; the input reads as it did. -/
def theoryBodiesUptoRow : OpenClaim := { program := "ytbdcmpknicjopaagreat", sum := "1aa09f7f3a8f447c344758dabbd83da0ffbc17b175401199c3e51ad378a94e0e", func := "constraint/constraintlaw23.TheoryBodies", spec := "theoryBodies", inPlace := ["internal/bytealg.IndexByteString", "internal/bytealg.IndexString", "slices.overlaps[constraint/api.Bind]", "slices.overlaps[constraint/api.Fire]"], unfollowed := true, recurses := true, named := ["internal/bytealg.MaxLen"], loops := true, plainKeys := false, apart := false, narrowed := true }
def TheoryBodiesUptoSaid : Prop := theoryBodiesUptoRow.holds Tryz.pinned (OpenSpec.upto theoryBodiesSpec)

end Rows
end Go.Proofs.YtbdcmpknicjopaaGreat
