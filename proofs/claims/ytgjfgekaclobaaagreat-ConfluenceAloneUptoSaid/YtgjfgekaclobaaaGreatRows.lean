/-
  NARROWER THAN 'FOR EVERY INPUT', by the rows' own cells (each row's printed sentence says how): TheoryMoves: loops · TheoryDoes: loops · TheoryBodies: loops · ConfluenceAlone: loops.
  DERIVED. THE GIVEN ROWS OF THIS SEAT. 5 by the template 'for every input the law returns true; each argument reads behind the call as it read before'; 0 by the template 'total and deterministic' (their statements: YtgjfgekaclobaaaGreatTotals.lean).
  GIVEN WITH THE SEED: the statements are not yours to turn. If you find one false, say at which input.
  Laid BY PROGRAM, IN A SANDBOX (cutbox-rows.mjs): the forced cells as the released guide's own fill.sh prints them over the translation 665cbc5df8ff30ff… (all of the seat's roots in one cut). By AI agents, Wed Nov 11 2026. No macro, syntax, notation, axiom, sorry.
-/
import Derived.Test.YtgjfgekaclobaaaGreatChecked
import GoSem.Claim
import GoSem.ClaimJoined
import GoSem.ClaimMapViews
import Derived.JoinedTies
import Derived.KernelRfl
namespace Go.Proofs.YtgjfgekaclobaaaGreat
/- THE CELL 'sum', in the pinned program and in every row, IS THE sha256 OF THE DUMP (.gsa) THAT YtgjfgekaclobaaaGreatProg.lean LOADS. Nothing in Lean hashes anything: it is a label: what it is worth is what the hold of that sum in a sandbox is worth. -/
noncomputable def Tryz.pinned : Pinned := { name := "ytgjfgekaclobaaagreat", sum := "665cbc5df8ff30ff63a234a0a492a32b30657d380fe24efaf6cccedc82151af5", checked := Tryz.checked }
namespace Rows
def none {H : Type} : Left H := { results := [], args := [] }

/-- 'constraintlaw23.TheoryMoves': WHATEVER THE INPUT: true; the input reads as it did. -/
def theoryMovesSpec : ChangeSpec := { name := "theoryMoves", fn := fun _ => fun
  | [d1, d2] => { results := [.lit (.bool true)], args := [d1, d2] }
  | _ => none }
def theoryMovesRow : OpenClaim := { program := "ytgjfgekaclobaaagreat", sum := "665cbc5df8ff30ff63a234a0a492a32b30657d380fe24efaf6cccedc82151af5", func := "constraint/constraintlaw23.TheoryMoves", spec := "theoryMoves", inPlace := ["internal/bytealg.IndexByteString", "internal/bytealg.IndexString", "slices.overlaps[constraint/api.Bind]", "slices.overlaps[constraint/api.Fire]"], unfollowed := true, recurses := true, named := ["internal/bytealg.MaxLen"], loops := true, plainKeys := false, apart := false }
def TheoryMovesSaid : Prop := theoryMovesRow.holds Tryz.pinned (OpenSpec.ofChange theoryMovesSpec)

/-- ITS FALSE NEIGHBOUR: 'it returns false'. Refute it at one input. -/
def theoryMovesWrong : ChangeSpec := { name := "theoryMoves", fn := fun _ => fun
  | [d1, d2] => { results := [.lit (.bool false)], args := [d1, d2] }
  | _ => none }
def TheoryMovesWrongFalsely : Prop := theoryMovesRow.holds Tryz.pinned (OpenSpec.ofChange theoryMovesWrong)

/-- 'constraintlaw23.TheoryDoes': WHATEVER THE INPUT: true; the input reads as it did. -/
def theoryDoesSpec : ChangeSpec := { name := "theoryDoes", fn := fun _ => fun
  | [d1, d2, d3] => { results := [.lit (.bool true)], args := [d1, d2, d3] }
  | _ => none }
def theoryDoesRow : OpenClaim := { program := "ytgjfgekaclobaaagreat", sum := "665cbc5df8ff30ff63a234a0a492a32b30657d380fe24efaf6cccedc82151af5", func := "constraint/constraintlaw23.TheoryDoes", spec := "theoryDoes", inPlace := ["internal/bytealg.IndexByteString", "internal/bytealg.IndexString", "slices.overlaps[constraint/api.Bind]", "slices.overlaps[constraint/api.Fire]"], unfollowed := true, recurses := true, named := ["internal/bytealg.MaxLen"], loops := true, plainKeys := false, apart := false }
def TheoryDoesSaid : Prop := theoryDoesRow.holds Tryz.pinned (OpenSpec.ofChange theoryDoesSpec)

/-- ITS FALSE NEIGHBOUR: 'it returns false'. Refute it at one input. -/
def theoryDoesWrong : ChangeSpec := { name := "theoryDoes", fn := fun _ => fun
  | [d1, d2, d3] => { results := [.lit (.bool false)], args := [d1, d2, d3] }
  | _ => none }
def TheoryDoesWrongFalsely : Prop := theoryDoesRow.holds Tryz.pinned (OpenSpec.ofChange theoryDoesWrong)

/-- 'constraintlaw23.TheoryBodies': WHATEVER THE INPUT: true; the input reads as it did. -/
def theoryBodiesSpec : ChangeSpec := { name := "theoryBodies", fn := fun _ => fun
  | [d1, d2, d3] => { results := [.lit (.bool true)], args := [d1, d2, d3] }
  | _ => none }
def theoryBodiesRow : OpenClaim := { program := "ytgjfgekaclobaaagreat", sum := "665cbc5df8ff30ff63a234a0a492a32b30657d380fe24efaf6cccedc82151af5", func := "constraint/constraintlaw23.TheoryBodies", spec := "theoryBodies", inPlace := ["internal/bytealg.IndexByteString", "internal/bytealg.IndexString", "slices.overlaps[constraint/api.Bind]", "slices.overlaps[constraint/api.Fire]"], unfollowed := true, recurses := true, named := ["internal/bytealg.MaxLen"], loops := true, plainKeys := false, apart := false }
def TheoryBodiesSaid : Prop := theoryBodiesRow.holds Tryz.pinned (OpenSpec.ofChange theoryBodiesSpec)

/-- ITS FALSE NEIGHBOUR: 'it returns false'. Refute it at one input. -/
def theoryBodiesWrong : ChangeSpec := { name := "theoryBodies", fn := fun _ => fun
  | [d1, d2, d3] => { results := [.lit (.bool false)], args := [d1, d2, d3] }
  | _ => none }
def TheoryBodiesWrongFalsely : Prop := theoryBodiesRow.holds Tryz.pinned (OpenSpec.ofChange theoryBodiesWrong)

/-- 'constraintlaw40.ConfluenceMerge': WHATEVER THE INPUT: true; the input reads as it did. -/
def confluenceMergeSpec : ChangeSpec := { name := "confluenceMerge", fn := fun _ => fun
  | [d1, d2] => { results := [.lit (.bool true)], args := [d1, d2] }
  | _ => none }
def confluenceMergeRow : OpenClaim := { program := "ytgjfgekaclobaaagreat", sum := "665cbc5df8ff30ff63a234a0a492a32b30657d380fe24efaf6cccedc82151af5", func := "constraint/constraintlaw40.ConfluenceMerge", spec := "confluenceMerge", inPlace := ["internal/bytealg.IndexByteString", "internal/bytealg.IndexString", "slices.overlaps[constraint/api.Bind]", "slices.overlaps[constraint/api.Fire]", "slices.overlaps[constraint/api.Answer]"], unfollowed := true, recurses := true, named := ["internal/bytealg.MaxLen"], plainKeys := false, apart := false }
def ConfluenceMergeSaid : Prop := confluenceMergeRow.holds Tryz.pinned (OpenSpec.ofChange confluenceMergeSpec)

/-- ITS FALSE NEIGHBOUR: 'it returns false'. Refute it at one input. -/
def confluenceMergeWrong : ChangeSpec := { name := "confluenceMerge", fn := fun _ => fun
  | [d1, d2] => { results := [.lit (.bool false)], args := [d1, d2] }
  | _ => none }
def ConfluenceMergeWrongFalsely : Prop := confluenceMergeRow.holds Tryz.pinned (OpenSpec.ofChange confluenceMergeWrong)

/-- 'constraintlaw40.ConfluenceAlone': WHATEVER THE INPUT: true; the input reads as it did. -/
def confluenceAloneSpec : ChangeSpec := { name := "confluenceAlone", fn := fun _ => fun
  | [d1, d2] => { results := [.lit (.bool true)], args := [d1, d2] }
  | _ => none }
def confluenceAloneRow : OpenClaim := { program := "ytgjfgekaclobaaagreat", sum := "665cbc5df8ff30ff63a234a0a492a32b30657d380fe24efaf6cccedc82151af5", func := "constraint/constraintlaw40.ConfluenceAlone", spec := "confluenceAlone", inPlace := ["internal/bytealg.IndexByteString", "internal/bytealg.IndexString", "slices.overlaps[constraint/api.Bind]", "slices.overlaps[constraint/api.Fire]", "slices.overlaps[constraint/api.Answer]"], unfollowed := true, recurses := true, named := ["internal/bytealg.MaxLen"], loops := true, plainKeys := false, apart := false }
def ConfluenceAloneSaid : Prop := confluenceAloneRow.holds Tryz.pinned (OpenSpec.ofChange confluenceAloneSpec)

/-- ITS FALSE NEIGHBOUR: 'it returns false'. Refute it at one input. -/
def confluenceAloneWrong : ChangeSpec := { name := "confluenceAlone", fn := fun _ => fun
  | [d1, d2] => { results := [.lit (.bool false)], args := [d1, d2] }
  | _ => none }
def ConfluenceAloneWrongFalsely : Prop := confluenceAloneRow.holds Tryz.pinned (OpenSpec.ofChange confluenceAloneWrong)

/- THE SECOND FORM. 'bulk': how many values and letters a reading holds, each counted each time it is reached (what is shared counts as often as it is met; a slice's spare places count too). A statement '..UptoSaid' is the law's where the arguments, and the package variables that the reading takes, are together of bulk at most 1048576: NARROWER than '..Said'. Prove '..Said' where nothing that the law and all that it calls make is longer than what came in: it says more and counts as full. Else prove '..UptoSaid'. A law counts once. -/
mutual
def uptoBulk {H : Type} : DataW H → Nat
  | .lit (.string bytes) => bytes.length + 1
  | .lit _ => 1
  | .nil => 1
  | .ptr d => uptoBulk d + 1
  | .slice elems spare => uptoBulkAll elems + uptoBulkAll spare + 1
  | .agg parts => uptoBulkAll parts + 1
  | .iface _ d => uptoBulk d + 1
  | .map entries => uptoBulkEntries entries + 1
  | .held _ => 1
def uptoBulkAll {H : Type} : List (DataW H) → Nat
  | [] => 0
  | d :: r => uptoBulk d + uptoBulkAll r
def uptoBulkEntries {H : Type} : List (Lit × DataW H) → Nat
  | [] => 0
  | x :: r => uptoBulkEntry x + uptoBulkEntries r
def uptoBulkEntry {H : Type} : Lit × DataW H → Nat
  | (.string bytes, d) => bytes.length + uptoBulk d + 1
  | (_, d) => uptoBulk d + 1
 end
def uptoSmall : (H : Type) → List (DataW H) → Bool := fun _ ds => decide (uptoBulkAll ds ≤ 1048576)
def OpenSpec.upto (s : _root_.Go.ChangeSpec) : _root_.Go.OpenSpec := { _root_.Go.OpenSpec.ofChange s with cond := some uptoSmall }

/-- 'constraintlaw23.TheoryMoves', WHERE WHAT IT READS IS OF BULK AT MOST 1048576: true; the input reads as it did. -/
def theoryMovesUptoRow : OpenClaim := { program := "ytgjfgekaclobaaagreat", sum := "665cbc5df8ff30ff63a234a0a492a32b30657d380fe24efaf6cccedc82151af5", func := "constraint/constraintlaw23.TheoryMoves", spec := "theoryMoves", inPlace := ["internal/bytealg.IndexByteString", "internal/bytealg.IndexString", "slices.overlaps[constraint/api.Bind]", "slices.overlaps[constraint/api.Fire]"], unfollowed := true, recurses := true, named := ["internal/bytealg.MaxLen"], loops := true, plainKeys := false, apart := false, narrowed := true }
def TheoryMovesUptoSaid : Prop := theoryMovesUptoRow.holds Tryz.pinned (OpenSpec.upto theoryMovesSpec)

/-- 'constraintlaw23.TheoryDoes', WHERE WHAT IT READS IS OF BULK AT MOST 1048576: true; the input reads as it did. -/
def theoryDoesUptoRow : OpenClaim := { program := "ytgjfgekaclobaaagreat", sum := "665cbc5df8ff30ff63a234a0a492a32b30657d380fe24efaf6cccedc82151af5", func := "constraint/constraintlaw23.TheoryDoes", spec := "theoryDoes", inPlace := ["internal/bytealg.IndexByteString", "internal/bytealg.IndexString", "slices.overlaps[constraint/api.Bind]", "slices.overlaps[constraint/api.Fire]"], unfollowed := true, recurses := true, named := ["internal/bytealg.MaxLen"], loops := true, plainKeys := false, apart := false, narrowed := true }
def TheoryDoesUptoSaid : Prop := theoryDoesUptoRow.holds Tryz.pinned (OpenSpec.upto theoryDoesSpec)

/-- 'constraintlaw23.TheoryBodies', WHERE WHAT IT READS IS OF BULK AT MOST 1048576: true; the input reads as it did. -/
def theoryBodiesUptoRow : OpenClaim := { program := "ytgjfgekaclobaaagreat", sum := "665cbc5df8ff30ff63a234a0a492a32b30657d380fe24efaf6cccedc82151af5", func := "constraint/constraintlaw23.TheoryBodies", spec := "theoryBodies", inPlace := ["internal/bytealg.IndexByteString", "internal/bytealg.IndexString", "slices.overlaps[constraint/api.Bind]", "slices.overlaps[constraint/api.Fire]"], unfollowed := true, recurses := true, named := ["internal/bytealg.MaxLen"], loops := true, plainKeys := false, apart := false, narrowed := true }
def TheoryBodiesUptoSaid : Prop := theoryBodiesUptoRow.holds Tryz.pinned (OpenSpec.upto theoryBodiesSpec)

/-- 'constraintlaw40.ConfluenceMerge', WHERE WHAT IT READS IS OF BULK AT MOST 1048576: true; the input reads as it did. -/
def confluenceMergeUptoRow : OpenClaim := { program := "ytgjfgekaclobaaagreat", sum := "665cbc5df8ff30ff63a234a0a492a32b30657d380fe24efaf6cccedc82151af5", func := "constraint/constraintlaw40.ConfluenceMerge", spec := "confluenceMerge", inPlace := ["internal/bytealg.IndexByteString", "internal/bytealg.IndexString", "slices.overlaps[constraint/api.Bind]", "slices.overlaps[constraint/api.Fire]", "slices.overlaps[constraint/api.Answer]"], unfollowed := true, recurses := true, named := ["internal/bytealg.MaxLen"], plainKeys := false, apart := false, narrowed := true }
def ConfluenceMergeUptoSaid : Prop := confluenceMergeUptoRow.holds Tryz.pinned (OpenSpec.upto confluenceMergeSpec)

/-- 'constraintlaw40.ConfluenceAlone', WHERE WHAT IT READS IS OF BULK AT MOST 1048576: true; the input reads as it did. -/
def confluenceAloneUptoRow : OpenClaim := { program := "ytgjfgekaclobaaagreat", sum := "665cbc5df8ff30ff63a234a0a492a32b30657d380fe24efaf6cccedc82151af5", func := "constraint/constraintlaw40.ConfluenceAlone", spec := "confluenceAlone", inPlace := ["internal/bytealg.IndexByteString", "internal/bytealg.IndexString", "slices.overlaps[constraint/api.Bind]", "slices.overlaps[constraint/api.Fire]", "slices.overlaps[constraint/api.Answer]"], unfollowed := true, recurses := true, named := ["internal/bytealg.MaxLen"], loops := true, plainKeys := false, apart := false, narrowed := true }
def ConfluenceAloneUptoSaid : Prop := confluenceAloneUptoRow.holds Tryz.pinned (OpenSpec.upto confluenceAloneSpec)

end Rows
end Go.Proofs.YtgjfgekaclobaaaGreat
