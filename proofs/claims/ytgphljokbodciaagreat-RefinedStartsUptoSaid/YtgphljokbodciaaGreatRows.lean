/-
  NARROWER THAN 'FOR EVERY INPUT', by the rows' own cells (each row's printed sentence says how): OverlapRules: loops · OverlapRight: loops · TheoryMoves: loops · TheoryDoes: loops · TheoryBodies: loops · RefinedRuns: loops · RefinedEvents: loops · RefinedDoes: loops · RefinedStarts: loops · DeriveMoves: loops · ConfluenceAlone: loops.
  DERIVED. THE GIVEN ROWS OF THIS SEAT. 12 by the template 'for every input the law returns true; each argument reads behind the call as it read before'; 0 by the template 'total and deterministic' (their statements: YtgphljokbodciaaGreatTotals.lean).
  GIVEN WITH THE SEED: the statements are not yours to turn. If you find one false, say at which input.
  Laid BY PROGRAM, IN A SANDBOX (cutbox-rows.mjs): the forced cells as the released guide's own fill.sh prints them over the translation d50ab1b7e96fb776… (all of the seat's roots in one cut). By AI agents, Wed Nov 11 2026. No macro, syntax, notation, axiom, sorry.
-/
import Derived.Test.YtgphljokbodciaaGreatChecked
import GoSem.Claim
import GoSem.ClaimJoined
import GoSem.ClaimMapViews
import Derived.JoinedTies
import Derived.KernelRfl
namespace Go.Proofs.YtgphljokbodciaaGreat
/- THE CELL 'sum', in the pinned program and in every row, IS THE sha256 OF THE DUMP (.gsa) THAT YtgphljokbodciaaGreatProg.lean LOADS. Nothing in Lean hashes anything: it is a label: what it is worth is what the hold of that sum in a sandbox is worth. -/
noncomputable def Tryz.pinned : Pinned := { name := "ytgphljokbodciaagreat", sum := "d50ab1b7e96fb77652d69ee4f4dfa4adafee2e157c04b0588ed3d4b1f331ac71", checked := Tryz.checked }
namespace Rows
def none {H : Type} : Left H := { results := [], args := [] }

/-- 'constraintlaw38.OverlapRules': WHATEVER THE INPUT: true; the input reads as it did. -/
def overlapRulesSpec : ChangeSpec := { name := "overlapRules", fn := fun _ => fun
  | [d1, d2, d3] => { results := [.lit (.bool true)], args := [d1, d2, d3] }
  | _ => none }
def overlapRulesRow : OpenClaim := { program := "ytgphljokbodciaagreat", sum := "d50ab1b7e96fb77652d69ee4f4dfa4adafee2e157c04b0588ed3d4b1f331ac71", func := "constraint/constraintlaw38.OverlapRules", spec := "overlapRules", inPlace := ["internal/bytealg.IndexByteString", "internal/bytealg.IndexString", "slices.overlaps[constraint/api.Bind]"], unfollowed := true, recurses := true, named := ["internal/bytealg.MaxLen"], loops := true, plainKeys := false, apart := false }
def OverlapRulesSaid : Prop := overlapRulesRow.holds Tryz.pinned (OpenSpec.ofChange overlapRulesSpec)

/-- ITS FALSE NEIGHBOUR: 'it returns false'. Refute it at one input. -/
def overlapRulesWrong : ChangeSpec := { name := "overlapRules", fn := fun _ => fun
  | [d1, d2, d3] => { results := [.lit (.bool false)], args := [d1, d2, d3] }
  | _ => none }
def OverlapRulesWrongFalsely : Prop := overlapRulesRow.holds Tryz.pinned (OpenSpec.ofChange overlapRulesWrong)

/-- 'constraintlaw38.OverlapRight': WHATEVER THE INPUT: true; the input reads as it did. -/
def overlapRightSpec : ChangeSpec := { name := "overlapRight", fn := fun _ => fun
  | [d1, d2] => { results := [.lit (.bool true)], args := [d1, d2] }
  | _ => none }
def overlapRightRow : OpenClaim := { program := "ytgphljokbodciaagreat", sum := "d50ab1b7e96fb77652d69ee4f4dfa4adafee2e157c04b0588ed3d4b1f331ac71", func := "constraint/constraintlaw38.OverlapRight", spec := "overlapRight", inPlace := ["internal/bytealg.IndexByteString", "internal/bytealg.IndexString", "slices.overlaps[constraint/api.Bind]"], unfollowed := true, recurses := true, named := ["internal/bytealg.MaxLen"], loops := true, plainKeys := false, apart := false }
def OverlapRightSaid : Prop := overlapRightRow.holds Tryz.pinned (OpenSpec.ofChange overlapRightSpec)

/-- ITS FALSE NEIGHBOUR: 'it returns false'. Refute it at one input. -/
def overlapRightWrong : ChangeSpec := { name := "overlapRight", fn := fun _ => fun
  | [d1, d2] => { results := [.lit (.bool false)], args := [d1, d2] }
  | _ => none }
def OverlapRightWrongFalsely : Prop := overlapRightRow.holds Tryz.pinned (OpenSpec.ofChange overlapRightWrong)

/-- 'constraintlaw23.TheoryMoves': WHATEVER THE INPUT: true; the input reads as it did. -/
def theoryMovesSpec : ChangeSpec := { name := "theoryMoves", fn := fun _ => fun
  | [d1, d2] => { results := [.lit (.bool true)], args := [d1, d2] }
  | _ => none }
def theoryMovesRow : OpenClaim := { program := "ytgphljokbodciaagreat", sum := "d50ab1b7e96fb77652d69ee4f4dfa4adafee2e157c04b0588ed3d4b1f331ac71", func := "constraint/constraintlaw23.TheoryMoves", spec := "theoryMoves", inPlace := ["internal/bytealg.IndexByteString", "internal/bytealg.IndexString", "slices.overlaps[constraint/api.Bind]", "slices.overlaps[constraint/api.Fire]"], unfollowed := true, recurses := true, named := ["internal/bytealg.MaxLen"], loops := true, plainKeys := false, apart := false }
def TheoryMovesSaid : Prop := theoryMovesRow.holds Tryz.pinned (OpenSpec.ofChange theoryMovesSpec)

/-- ITS FALSE NEIGHBOUR: 'it returns false'. Refute it at one input. -/
def theoryMovesWrong : ChangeSpec := { name := "theoryMoves", fn := fun _ => fun
  | [d1, d2] => { results := [.lit (.bool false)], args := [d1, d2] }
  | _ => none }
def TheoryMovesWrongFalsely : Prop := theoryMovesRow.holds Tryz.pinned (OpenSpec.ofChange theoryMovesWrong)

/-- 'constraintlaw23.TheoryDoes': WHATEVER THE INPUT: true; the input reads as it did. -/
def theoryDoesSpec : ChangeSpec := { name := "theoryDoes", fn := fun _ => fun
  | [d1, d2, d3] => { results := [.lit (.bool true)], args := [d1, d2, d3] }
  | _ => none }
def theoryDoesRow : OpenClaim := { program := "ytgphljokbodciaagreat", sum := "d50ab1b7e96fb77652d69ee4f4dfa4adafee2e157c04b0588ed3d4b1f331ac71", func := "constraint/constraintlaw23.TheoryDoes", spec := "theoryDoes", inPlace := ["internal/bytealg.IndexByteString", "internal/bytealg.IndexString", "slices.overlaps[constraint/api.Bind]", "slices.overlaps[constraint/api.Fire]"], unfollowed := true, recurses := true, named := ["internal/bytealg.MaxLen"], loops := true, plainKeys := false, apart := false }
def TheoryDoesSaid : Prop := theoryDoesRow.holds Tryz.pinned (OpenSpec.ofChange theoryDoesSpec)

/-- ITS FALSE NEIGHBOUR: 'it returns false'. Refute it at one input. -/
def theoryDoesWrong : ChangeSpec := { name := "theoryDoes", fn := fun _ => fun
  | [d1, d2, d3] => { results := [.lit (.bool false)], args := [d1, d2, d3] }
  | _ => none }
def TheoryDoesWrongFalsely : Prop := theoryDoesRow.holds Tryz.pinned (OpenSpec.ofChange theoryDoesWrong)

/-- 'constraintlaw23.TheoryBodies': WHATEVER THE INPUT: true; the input reads as it did. -/
def theoryBodiesSpec : ChangeSpec := { name := "theoryBodies", fn := fun _ => fun
  | [d1, d2, d3] => { results := [.lit (.bool true)], args := [d1, d2, d3] }
  | _ => none }
def theoryBodiesRow : OpenClaim := { program := "ytgphljokbodciaagreat", sum := "d50ab1b7e96fb77652d69ee4f4dfa4adafee2e157c04b0588ed3d4b1f331ac71", func := "constraint/constraintlaw23.TheoryBodies", spec := "theoryBodies", inPlace := ["internal/bytealg.IndexByteString", "internal/bytealg.IndexString", "slices.overlaps[constraint/api.Bind]", "slices.overlaps[constraint/api.Fire]"], unfollowed := true, recurses := true, named := ["internal/bytealg.MaxLen"], loops := true, plainKeys := false, apart := false }
def TheoryBodiesSaid : Prop := theoryBodiesRow.holds Tryz.pinned (OpenSpec.ofChange theoryBodiesSpec)

/-- ITS FALSE NEIGHBOUR: 'it returns false'. Refute it at one input. -/
def theoryBodiesWrong : ChangeSpec := { name := "theoryBodies", fn := fun _ => fun
  | [d1, d2, d3] => { results := [.lit (.bool false)], args := [d1, d2, d3] }
  | _ => none }
def TheoryBodiesWrongFalsely : Prop := theoryBodiesRow.holds Tryz.pinned (OpenSpec.ofChange theoryBodiesWrong)

/-- 'constraintlaw26.RefinedRuns': WHATEVER THE INPUT: true; the input reads as it did. -/
def refinedRunsSpec : ChangeSpec := { name := "refinedRuns", fn := fun _ => fun
  | [d1, d2, d3] => { results := [.lit (.bool true)], args := [d1, d2, d3] }
  | _ => none }
def refinedRunsRow : OpenClaim := { program := "ytgphljokbodciaagreat", sum := "d50ab1b7e96fb77652d69ee4f4dfa4adafee2e157c04b0588ed3d4b1f331ac71", func := "constraint/constraintlaw26.RefinedRuns", spec := "refinedRuns", inPlace := ["internal/bytealg.IndexByteString", "internal/bytealg.IndexString", "slices.overlaps[constraint/api.Bind]", "slices.overlaps[constraint/api.Fire]"], unfollowed := true, recurses := true, named := ["internal/bytealg.MaxLen"], loops := true, plainKeys := false, apart := false }
def RefinedRunsSaid : Prop := refinedRunsRow.holds Tryz.pinned (OpenSpec.ofChange refinedRunsSpec)

/-- ITS FALSE NEIGHBOUR: 'it returns false'. Refute it at one input. -/
def refinedRunsWrong : ChangeSpec := { name := "refinedRuns", fn := fun _ => fun
  | [d1, d2, d3] => { results := [.lit (.bool false)], args := [d1, d2, d3] }
  | _ => none }
def RefinedRunsWrongFalsely : Prop := refinedRunsRow.holds Tryz.pinned (OpenSpec.ofChange refinedRunsWrong)

/-- 'constraintlaw26.RefinedEvents': WHATEVER THE INPUT: true; the input reads as it did. -/
def refinedEventsSpec : ChangeSpec := { name := "refinedEvents", fn := fun _ => fun
  | [d1, d2] => { results := [.lit (.bool true)], args := [d1, d2] }
  | _ => none }
def refinedEventsRow : OpenClaim := { program := "ytgphljokbodciaagreat", sum := "d50ab1b7e96fb77652d69ee4f4dfa4adafee2e157c04b0588ed3d4b1f331ac71", func := "constraint/constraintlaw26.RefinedEvents", spec := "refinedEvents", inPlace := ["internal/bytealg.IndexByteString", "internal/bytealg.IndexString", "slices.overlaps[constraint/api.Bind]", "slices.overlaps[constraint/api.Fire]"], unfollowed := true, recurses := true, named := ["internal/bytealg.MaxLen"], loops := true, plainKeys := false, apart := false }
def RefinedEventsSaid : Prop := refinedEventsRow.holds Tryz.pinned (OpenSpec.ofChange refinedEventsSpec)

/-- ITS FALSE NEIGHBOUR: 'it returns false'. Refute it at one input. -/
def refinedEventsWrong : ChangeSpec := { name := "refinedEvents", fn := fun _ => fun
  | [d1, d2] => { results := [.lit (.bool false)], args := [d1, d2] }
  | _ => none }
def RefinedEventsWrongFalsely : Prop := refinedEventsRow.holds Tryz.pinned (OpenSpec.ofChange refinedEventsWrong)

/-- 'constraintlaw26.RefinedDoes': WHATEVER THE INPUT: true; the input reads as it did. -/
def refinedDoesSpec : ChangeSpec := { name := "refinedDoes", fn := fun _ => fun
  | [d1, d2, d3] => { results := [.lit (.bool true)], args := [d1, d2, d3] }
  | _ => none }
def refinedDoesRow : OpenClaim := { program := "ytgphljokbodciaagreat", sum := "d50ab1b7e96fb77652d69ee4f4dfa4adafee2e157c04b0588ed3d4b1f331ac71", func := "constraint/constraintlaw26.RefinedDoes", spec := "refinedDoes", inPlace := ["internal/bytealg.IndexByteString", "internal/bytealg.IndexString", "slices.overlaps[constraint/api.Bind]", "slices.overlaps[constraint/api.Fire]"], unfollowed := true, recurses := true, named := ["internal/bytealg.MaxLen"], loops := true, plainKeys := false, apart := false }
def RefinedDoesSaid : Prop := refinedDoesRow.holds Tryz.pinned (OpenSpec.ofChange refinedDoesSpec)

/-- ITS FALSE NEIGHBOUR: 'it returns false'. Refute it at one input. -/
def refinedDoesWrong : ChangeSpec := { name := "refinedDoes", fn := fun _ => fun
  | [d1, d2, d3] => { results := [.lit (.bool false)], args := [d1, d2, d3] }
  | _ => none }
def RefinedDoesWrongFalsely : Prop := refinedDoesRow.holds Tryz.pinned (OpenSpec.ofChange refinedDoesWrong)

/-- 'constraintlaw26.RefinedStarts': WHATEVER THE INPUT: true; the input reads as it did. -/
def refinedStartsSpec : ChangeSpec := { name := "refinedStarts", fn := fun _ => fun
  | [d1, d2, d3] => { results := [.lit (.bool true)], args := [d1, d2, d3] }
  | _ => none }
def refinedStartsRow : OpenClaim := { program := "ytgphljokbodciaagreat", sum := "d50ab1b7e96fb77652d69ee4f4dfa4adafee2e157c04b0588ed3d4b1f331ac71", func := "constraint/constraintlaw26.RefinedStarts", spec := "refinedStarts", inPlace := ["internal/bytealg.IndexByteString", "internal/bytealg.IndexString", "slices.overlaps[constraint/api.Bind]", "slices.overlaps[constraint/api.Fire]"], unfollowed := true, recurses := true, named := ["internal/bytealg.MaxLen"], loops := true, plainKeys := false, apart := false }
def RefinedStartsSaid : Prop := refinedStartsRow.holds Tryz.pinned (OpenSpec.ofChange refinedStartsSpec)

/-- ITS FALSE NEIGHBOUR: 'it returns false'. Refute it at one input. -/
def refinedStartsWrong : ChangeSpec := { name := "refinedStarts", fn := fun _ => fun
  | [d1, d2, d3] => { results := [.lit (.bool false)], args := [d1, d2, d3] }
  | _ => none }
def RefinedStartsWrongFalsely : Prop := refinedStartsRow.holds Tryz.pinned (OpenSpec.ofChange refinedStartsWrong)

/-- 'constraintlaw27.DeriveMoves': WHATEVER THE INPUT: true; the input reads as it did. -/
def deriveMovesSpec : ChangeSpec := { name := "deriveMoves", fn := fun _ => fun
  | [d1, d2, d3] => { results := [.lit (.bool true)], args := [d1, d2, d3] }
  | _ => none }
def deriveMovesRow : OpenClaim := { program := "ytgphljokbodciaagreat", sum := "d50ab1b7e96fb77652d69ee4f4dfa4adafee2e157c04b0588ed3d4b1f331ac71", func := "constraint/constraintlaw27.DeriveMoves", spec := "deriveMoves", inPlace := ["internal/bytealg.IndexByteString", "internal/bytealg.IndexString", "slices.overlaps[constraint/api.Bind]", "slices.overlaps[constraint/api.Fire]"], unfollowed := true, recurses := true, named := ["internal/bytealg.MaxLen"], loops := true, plainKeys := false, apart := false }
def DeriveMovesSaid : Prop := deriveMovesRow.holds Tryz.pinned (OpenSpec.ofChange deriveMovesSpec)

/-- ITS FALSE NEIGHBOUR: 'it returns false'. Refute it at one input. -/
def deriveMovesWrong : ChangeSpec := { name := "deriveMoves", fn := fun _ => fun
  | [d1, d2, d3] => { results := [.lit (.bool false)], args := [d1, d2, d3] }
  | _ => none }
def DeriveMovesWrongFalsely : Prop := deriveMovesRow.holds Tryz.pinned (OpenSpec.ofChange deriveMovesWrong)

/-- 'constraintlaw40.ConfluenceMerge': WHATEVER THE INPUT: true; the input reads as it did. -/
def confluenceMergeSpec : ChangeSpec := { name := "confluenceMerge", fn := fun _ => fun
  | [d1, d2] => { results := [.lit (.bool true)], args := [d1, d2] }
  | _ => none }
def confluenceMergeRow : OpenClaim := { program := "ytgphljokbodciaagreat", sum := "d50ab1b7e96fb77652d69ee4f4dfa4adafee2e157c04b0588ed3d4b1f331ac71", func := "constraint/constraintlaw40.ConfluenceMerge", spec := "confluenceMerge", inPlace := ["internal/bytealg.IndexByteString", "internal/bytealg.IndexString", "slices.overlaps[constraint/api.Bind]", "slices.overlaps[constraint/api.Fire]", "slices.overlaps[constraint/api.Answer]"], unfollowed := true, recurses := true, named := ["internal/bytealg.MaxLen"], plainKeys := false, apart := false }
def ConfluenceMergeSaid : Prop := confluenceMergeRow.holds Tryz.pinned (OpenSpec.ofChange confluenceMergeSpec)

/-- ITS FALSE NEIGHBOUR: 'it returns false'. Refute it at one input. -/
def confluenceMergeWrong : ChangeSpec := { name := "confluenceMerge", fn := fun _ => fun
  | [d1, d2] => { results := [.lit (.bool false)], args := [d1, d2] }
  | _ => none }
def ConfluenceMergeWrongFalsely : Prop := confluenceMergeRow.holds Tryz.pinned (OpenSpec.ofChange confluenceMergeWrong)

/-- 'constraintlaw40.ConfluenceAlone': WHATEVER THE INPUT: true; the input reads as it did. -/
def confluenceAloneSpec : ChangeSpec := { name := "confluenceAlone", fn := fun _ => fun
  | [d1, d2] => { results := [.lit (.bool true)], args := [d1, d2] }
  | _ => none }
def confluenceAloneRow : OpenClaim := { program := "ytgphljokbodciaagreat", sum := "d50ab1b7e96fb77652d69ee4f4dfa4adafee2e157c04b0588ed3d4b1f331ac71", func := "constraint/constraintlaw40.ConfluenceAlone", spec := "confluenceAlone", inPlace := ["internal/bytealg.IndexByteString", "internal/bytealg.IndexString", "slices.overlaps[constraint/api.Bind]", "slices.overlaps[constraint/api.Fire]", "slices.overlaps[constraint/api.Answer]"], unfollowed := true, recurses := true, named := ["internal/bytealg.MaxLen"], loops := true, plainKeys := false, apart := false }
def ConfluenceAloneSaid : Prop := confluenceAloneRow.holds Tryz.pinned (OpenSpec.ofChange confluenceAloneSpec)

/-- ITS FALSE NEIGHBOUR: 'it returns false'. Refute it at one input. -/
def confluenceAloneWrong : ChangeSpec := { name := "confluenceAlone", fn := fun _ => fun
  | [d1, d2] => { results := [.lit (.bool false)], args := [d1, d2] }
  | _ => none }
def ConfluenceAloneWrongFalsely : Prop := confluenceAloneRow.holds Tryz.pinned (OpenSpec.ofChange confluenceAloneWrong)

/- THE SECOND FORM. 'bulk': how many values and letters a reading holds, each counted each time it is reached (what is shared counts as often as it is met; a slice's spare places count too). A statement '..UptoSaid' is the law's where the arguments, and the package variables that the reading takes, are together of bulk at most 1048576: NARROWER than '..Said'. Prove '..Said' where nothing that the law and all that it calls make is longer than what came in: it says more and counts as full. Else prove '..UptoSaid'. A law counts once. -/
mutual
def uptoBulk {H : Type} : DataW H → Nat
  | .lit (.string bytes) => bytes.length + 1
  | .lit _ => 1
  | .nil => 1
  | .ptr d => uptoBulk d + 1
  | .slice elems spare => uptoBulkAll elems + uptoBulkAll spare + 1
  | .agg parts => uptoBulkAll parts + 1
  | .iface _ d => uptoBulk d + 1
  | .map entries => uptoBulkEntries entries + 1
  | .held _ => 1
def uptoBulkAll {H : Type} : List (DataW H) → Nat
  | [] => 0
  | d :: r => uptoBulk d + uptoBulkAll r
def uptoBulkEntries {H : Type} : List (Lit × DataW H) → Nat
  | [] => 0
  | x :: r => uptoBulkEntry x + uptoBulkEntries r
def uptoBulkEntry {H : Type} : Lit × DataW H → Nat
  | (.string bytes, d) => bytes.length + uptoBulk d + 1
  | (_, d) => uptoBulk d + 1
 end
def uptoSmall : (H : Type) → List (DataW H) → Bool := fun _ ds => decide (uptoBulkAll ds ≤ 1048576)
def OpenSpec.upto (s : _root_.Go.ChangeSpec) : _root_.Go.OpenSpec := { _root_.Go.OpenSpec.ofChange s with cond := some uptoSmall }

/-- 'constraintlaw38.OverlapRules', WHERE WHAT IT READS IS OF BULK AT MOST 1048576: true; the input reads as it did. -/
def overlapRulesUptoRow : OpenClaim := { program := "ytgphljokbodciaagreat", sum := "d50ab1b7e96fb77652d69ee4f4dfa4adafee2e157c04b0588ed3d4b1f331ac71", func := "constraint/constraintlaw38.OverlapRules", spec := "overlapRules", inPlace := ["internal/bytealg.IndexByteString", "internal/bytealg.IndexString", "slices.overlaps[constraint/api.Bind]"], unfollowed := true, recurses := true, named := ["internal/bytealg.MaxLen"], loops := true, plainKeys := false, apart := false, narrowed := true }
def OverlapRulesUptoSaid : Prop := overlapRulesUptoRow.holds Tryz.pinned (OpenSpec.upto overlapRulesSpec)

/-- 'constraintlaw38.OverlapRight', WHERE WHAT IT READS IS OF BULK AT MOST 1048576: true; the input reads as it did. -/
def overlapRightUptoRow : OpenClaim := { program := "ytgphljokbodciaagreat", sum := "d50ab1b7e96fb77652d69ee4f4dfa4adafee2e157c04b0588ed3d4b1f331ac71", func := "constraint/constraintlaw38.OverlapRight", spec := "overlapRight", inPlace := ["internal/bytealg.IndexByteString", "internal/bytealg.IndexString", "slices.overlaps[constraint/api.Bind]"], unfollowed := true, recurses := true, named := ["internal/bytealg.MaxLen"], loops := true, plainKeys := false, apart := false, narrowed := true }
def OverlapRightUptoSaid : Prop := overlapRightUptoRow.holds Tryz.pinned (OpenSpec.upto overlapRightSpec)

/-- 'constraintlaw23.TheoryMoves', WHERE WHAT IT READS IS OF BULK AT MOST 1048576: true; the input reads as it did. -/
def theoryMovesUptoRow : OpenClaim := { program := "ytgphljokbodciaagreat", sum := "d50ab1b7e96fb77652d69ee4f4dfa4adafee2e157c04b0588ed3d4b1f331ac71", func := "constraint/constraintlaw23.TheoryMoves", spec := "theoryMoves", inPlace := ["internal/bytealg.IndexByteString", "internal/bytealg.IndexString", "slices.overlaps[constraint/api.Bind]", "slices.overlaps[constraint/api.Fire]"], unfollowed := true, recurses := true, named := ["internal/bytealg.MaxLen"], loops := true, plainKeys := false, apart := false, narrowed := true }
def TheoryMovesUptoSaid : Prop := theoryMovesUptoRow.holds Tryz.pinned (OpenSpec.upto theoryMovesSpec)

/-- 'constraintlaw23.TheoryDoes', WHERE WHAT IT READS IS OF BULK AT MOST 1048576: true; the input reads as it did. -/
def theoryDoesUptoRow : OpenClaim := { program := "ytgphljokbodciaagreat", sum := "d50ab1b7e96fb77652d69ee4f4dfa4adafee2e157c04b0588ed3d4b1f331ac71", func := "constraint/constraintlaw23.TheoryDoes", spec := "theoryDoes", inPlace := ["internal/bytealg.IndexByteString", "internal/bytealg.IndexString", "slices.overlaps[constraint/api.Bind]", "slices.overlaps[constraint/api.Fire]"], unfollowed := true, recurses := true, named := ["internal/bytealg.MaxLen"], loops := true, plainKeys := false, apart := false, narrowed := true }
def TheoryDoesUptoSaid : Prop := theoryDoesUptoRow.holds Tryz.pinned (OpenSpec.upto theoryDoesSpec)

/-- 'constraintlaw23.TheoryBodies', WHERE WHAT IT READS IS OF BULK AT MOST 1048576: true; the input reads as it did. -/
def theoryBodiesUptoRow : OpenClaim := { program := "ytgphljokbodciaagreat", sum := "d50ab1b7e96fb77652d69ee4f4dfa4adafee2e157c04b0588ed3d4b1f331ac71", func := "constraint/constraintlaw23.TheoryBodies", spec := "theoryBodies", inPlace := ["internal/bytealg.IndexByteString", "internal/bytealg.IndexString", "slices.overlaps[constraint/api.Bind]", "slices.overlaps[constraint/api.Fire]"], unfollowed := true, recurses := true, named := ["internal/bytealg.MaxLen"], loops := true, plainKeys := false, apart := false, narrowed := true }
def TheoryBodiesUptoSaid : Prop := theoryBodiesUptoRow.holds Tryz.pinned (OpenSpec.upto theoryBodiesSpec)

/-- 'constraintlaw26.RefinedRuns', WHERE WHAT IT READS IS OF BULK AT MOST 1048576: true; the input reads as it did. -/
def refinedRunsUptoRow : OpenClaim := { program := "ytgphljokbodciaagreat", sum := "d50ab1b7e96fb77652d69ee4f4dfa4adafee2e157c04b0588ed3d4b1f331ac71", func := "constraint/constraintlaw26.RefinedRuns", spec := "refinedRuns", inPlace := ["internal/bytealg.IndexByteString", "internal/bytealg.IndexString", "slices.overlaps[constraint/api.Bind]", "slices.overlaps[constraint/api.Fire]"], unfollowed := true, recurses := true, named := ["internal/bytealg.MaxLen"], loops := true, plainKeys := false, apart := false, narrowed := true }
def RefinedRunsUptoSaid : Prop := refinedRunsUptoRow.holds Tryz.pinned (OpenSpec.upto refinedRunsSpec)

/-- 'constraintlaw26.RefinedEvents', WHERE WHAT IT READS IS OF BULK AT MOST 1048576: true; the input reads as it did. -/
def refinedEventsUptoRow : OpenClaim := { program := "ytgphljokbodciaagreat", sum := "d50ab1b7e96fb77652d69ee4f4dfa4adafee2e157c04b0588ed3d4b1f331ac71", func := "constraint/constraintlaw26.RefinedEvents", spec := "refinedEvents", inPlace := ["internal/bytealg.IndexByteString", "internal/bytealg.IndexString", "slices.overlaps[constraint/api.Bind]", "slices.overlaps[constraint/api.Fire]"], unfollowed := true, recurses := true, named := ["internal/bytealg.MaxLen"], loops := true, plainKeys := false, apart := false, narrowed := true }
def RefinedEventsUptoSaid : Prop := refinedEventsUptoRow.holds Tryz.pinned (OpenSpec.upto refinedEventsSpec)

/-- 'constraintlaw26.RefinedDoes', WHERE WHAT IT READS IS OF BULK AT MOST 1048576: true; the input reads as it did. -/
def refinedDoesUptoRow : OpenClaim := { program := "ytgphljokbodciaagreat", sum := "d50ab1b7e96fb77652d69ee4f4dfa4adafee2e157c04b0588ed3d4b1f331ac71", func := "constraint/constraintlaw26.RefinedDoes", spec := "refinedDoes", inPlace := ["internal/bytealg.IndexByteString", "internal/bytealg.IndexString", "slices.overlaps[constraint/api.Bind]", "slices.overlaps[constraint/api.Fire]"], unfollowed := true, recurses := true, named := ["internal/bytealg.MaxLen"], loops := true, plainKeys := false, apart := false, narrowed := true }
def RefinedDoesUptoSaid : Prop := refinedDoesUptoRow.holds Tryz.pinned (OpenSpec.upto refinedDoesSpec)

/-- 'constraintlaw26.RefinedStarts', WHERE WHAT IT READS IS OF BULK AT MOST 1048576: true; the input reads as it did. -/
def refinedStartsUptoRow : OpenClaim := { program := "ytgphljokbodciaagreat", sum := "d50ab1b7e96fb77652d69ee4f4dfa4adafee2e157c04b0588ed3d4b1f331ac71", func := "constraint/constraintlaw26.RefinedStarts", spec := "refinedStarts", inPlace := ["internal/bytealg.IndexByteString", "internal/bytealg.IndexString", "slices.overlaps[constraint/api.Bind]", "slices.overlaps[constraint/api.Fire]"], unfollowed := true, recurses := true, named := ["internal/bytealg.MaxLen"], loops := true, plainKeys := false, apart := false, narrowed := true }
def RefinedStartsUptoSaid : Prop := refinedStartsUptoRow.holds Tryz.pinned (OpenSpec.upto refinedStartsSpec)

/-- 'constraintlaw27.DeriveMoves', WHERE WHAT IT READS IS OF BULK AT MOST 1048576: true; the input reads as it did. -/
def deriveMovesUptoRow : OpenClaim := { program := "ytgphljokbodciaagreat", sum := "d50ab1b7e96fb77652d69ee4f4dfa4adafee2e157c04b0588ed3d4b1f331ac71", func := "constraint/constraintlaw27.DeriveMoves", spec := "deriveMoves", inPlace := ["internal/bytealg.IndexByteString", "internal/bytealg.IndexString", "slices.overlaps[constraint/api.Bind]", "slices.overlaps[constraint/api.Fire]"], unfollowed := true, recurses := true, named := ["internal/bytealg.MaxLen"], loops := true, plainKeys := false, apart := false, narrowed := true }
def DeriveMovesUptoSaid : Prop := deriveMovesUptoRow.holds Tryz.pinned (OpenSpec.upto deriveMovesSpec)

/-- 'constraintlaw40.ConfluenceMerge', WHERE WHAT IT READS IS OF BULK AT MOST 1048576: true; the input reads as it did. -/
def confluenceMergeUptoRow : OpenClaim := { program := "ytgphljokbodciaagreat", sum := "d50ab1b7e96fb77652d69ee4f4dfa4adafee2e157c04b0588ed3d4b1f331ac71", func := "constraint/constraintlaw40.ConfluenceMerge", spec := "confluenceMerge", inPlace := ["internal/bytealg.IndexByteString", "internal/bytealg.IndexString", "slices.overlaps[constraint/api.Bind]", "slices.overlaps[constraint/api.Fire]", "slices.overlaps[constraint/api.Answer]"], unfollowed := true, recurses := true, named := ["internal/bytealg.MaxLen"], plainKeys := false, apart := false, narrowed := true }
def ConfluenceMergeUptoSaid : Prop := confluenceMergeUptoRow.holds Tryz.pinned (OpenSpec.upto confluenceMergeSpec)

/-- 'constraintlaw40.ConfluenceAlone', WHERE WHAT IT READS IS OF BULK AT MOST 1048576: true; the input reads as it did. -/
def confluenceAloneUptoRow : OpenClaim := { program := "ytgphljokbodciaagreat", sum := "d50ab1b7e96fb77652d69ee4f4dfa4adafee2e157c04b0588ed3d4b1f331ac71", func := "constraint/constraintlaw40.ConfluenceAlone", spec := "confluenceAlone", inPlace := ["internal/bytealg.IndexByteString", "internal/bytealg.IndexString", "slices.overlaps[constraint/api.Bind]", "slices.overlaps[constraint/api.Fire]", "slices.overlaps[constraint/api.Answer]"], unfollowed := true, recurses := true, named := ["internal/bytealg.MaxLen"], loops := true, plainKeys := false, apart := false, narrowed := true }
def ConfluenceAloneUptoSaid : Prop := confluenceAloneUptoRow.holds Tryz.pinned (OpenSpec.upto confluenceAloneSpec)

end Rows
end Go.Proofs.YtgphljokbodciaaGreat
