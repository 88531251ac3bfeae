/-
  NARROWER THAN 'FOR EVERY INPUT', by the rows' own cells (each row's printed sentence says how): TheoryStarts: loops · RefinedStarts: loops · DeriveAlike: loops · ConfluenceAlone: loops.
  DERIVED. THE GIVEN ROWS OF THIS SEAT. 5 by the template 'for every input the law returns true; each argument reads behind the call as it read before'; 0 by the template 'total and deterministic' (their statements: YtbofilglphfceaaGreatTotals.lean).
  GIVEN WITH THE SEED: the statements are not yours to turn. If you find one false, say at which input.
  Laid BY PROGRAM, IN A SANDBOX (cutbox-rows.mjs): the forced cells as the released guide's own fill.sh prints them over the translation 48ade93ac849d526… (all of the seat's roots in one cut). By AI agents, Wed Nov 11 2026. No macro, syntax, notation, axiom, sorry.
-/
import Derived.Test.YtbofilglphfceaaGreatChecked
import GoSem.Claim
import GoSem.ClaimJoined
import GoSem.ClaimMapViews
import Derived.JoinedTies
import Derived.KernelRfl
namespace Go.Proofs.YtbofilglphfceaaGreat
/- THE CELL 'sum', in the pinned program and in every row, IS THE sha256 OF THE DUMP (.gsa) THAT YtbofilglphfceaaGreatProg.lean LOADS. Nothing in Lean hashes anything: it is a label: what it is worth is what the hold of that sum in a sandbox is worth. -/
noncomputable def Tryz.pinned : Pinned := { name := "ytbofilglphfceaagreat", sum := "48ade93ac849d526b8fa4d185069136189074561f2f0d080082fe6044ab1fd3a", checked := Tryz.checked }
namespace Rows
def none {H : Type} : Left H := { results := [], args := [] }

/-- 'constraintlaw23.TheoryStarts': WHATEVER THE INPUT: true; the input reads as it did. -/
def theoryStartsSpec : ChangeSpec := { name := "theoryStarts", fn := fun _ => fun
  | [d1, d2, d3] => { results := [.lit (.bool true)], args := [d1, d2, d3] }
  | _ => none }
def theoryStartsRow : OpenClaim := { program := "ytbofilglphfceaagreat", sum := "48ade93ac849d526b8fa4d185069136189074561f2f0d080082fe6044ab1fd3a", func := "constraint/constraintlaw23.TheoryStarts", spec := "theoryStarts", inPlace := ["internal/bytealg.IndexByteString", "internal/bytealg.IndexString", "slices.overlaps[constraint/api.Bind]", "slices.overlaps[constraint/api.Fire]"], unfollowed := true, recurses := true, named := ["internal/bytealg.MaxLen"], loops := true, plainKeys := false, apart := false }
def TheoryStartsSaid : Prop := theoryStartsRow.holds Tryz.pinned (OpenSpec.ofChange theoryStartsSpec)

/-- ITS FALSE NEIGHBOUR: 'it returns false'. Refute it at one input. -/
def theoryStartsWrong : ChangeSpec := { name := "theoryStarts", fn := fun _ => fun
  | [d1, d2, d3] => { results := [.lit (.bool false)], args := [d1, d2, d3] }
  | _ => none }
def TheoryStartsWrongFalsely : Prop := theoryStartsRow.holds Tryz.pinned (OpenSpec.ofChange theoryStartsWrong)

/-- 'constraintlaw26.RefinedStarts': WHATEVER THE INPUT: true; the input reads as it did. -/
def refinedStartsSpec : ChangeSpec := { name := "refinedStarts", fn := fun _ => fun
  | [d1, d2, d3] => { results := [.lit (.bool true)], args := [d1, d2, d3] }
  | _ => none }
def refinedStartsRow : OpenClaim := { program := "ytbofilglphfceaagreat", sum := "48ade93ac849d526b8fa4d185069136189074561f2f0d080082fe6044ab1fd3a", func := "constraint/constraintlaw26.RefinedStarts", spec := "refinedStarts", inPlace := ["internal/bytealg.IndexByteString", "internal/bytealg.IndexString", "slices.overlaps[constraint/api.Bind]", "slices.overlaps[constraint/api.Fire]"], unfollowed := true, recurses := true, named := ["internal/bytealg.MaxLen"], loops := true, plainKeys := false, apart := false }
def RefinedStartsSaid : Prop := refinedStartsRow.holds Tryz.pinned (OpenSpec.ofChange refinedStartsSpec)

/-- ITS FALSE NEIGHBOUR: 'it returns false'. Refute it at one input. -/
def refinedStartsWrong : ChangeSpec := { name := "refinedStarts", fn := fun _ => fun
  | [d1, d2, d3] => { results := [.lit (.bool false)], args := [d1, d2, d3] }
  | _ => none }
def RefinedStartsWrongFalsely : Prop := refinedStartsRow.holds Tryz.pinned (OpenSpec.ofChange refinedStartsWrong)

/-- 'constraintlaw27.DeriveAlike': WHATEVER THE INPUT: true; the input reads as it did. -/
def deriveAlikeSpec : ChangeSpec := { name := "deriveAlike", fn := fun _ => fun
  | [d1, d2, d3] => { results := [.lit (.bool true)], args := [d1, d2, d3] }
  | _ => none }
def deriveAlikeRow : OpenClaim := { program := "ytbofilglphfceaagreat", sum := "48ade93ac849d526b8fa4d185069136189074561f2f0d080082fe6044ab1fd3a", func := "constraint/constraintlaw27.DeriveAlike", spec := "deriveAlike", inPlace := ["internal/bytealg.IndexByteString", "internal/bytealg.IndexString", "slices.overlaps[constraint/api.Bind]", "slices.overlaps[constraint/api.Fire]"], unfollowed := true, recurses := true, named := ["internal/bytealg.MaxLen"], loops := true, plainKeys := false, apart := false }
def DeriveAlikeSaid : Prop := deriveAlikeRow.holds Tryz.pinned (OpenSpec.ofChange deriveAlikeSpec)

/-- ITS FALSE NEIGHBOUR: 'it returns false'. Refute it at one input. -/
def deriveAlikeWrong : ChangeSpec := { name := "deriveAlike", fn := fun _ => fun
  | [d1, d2, d3] => { results := [.lit (.bool false)], args := [d1, d2, d3] }
  | _ => none }
def DeriveAlikeWrongFalsely : Prop := deriveAlikeRow.holds Tryz.pinned (OpenSpec.ofChange deriveAlikeWrong)

/-- 'constraintlaw40.ConfluenceMerge': WHATEVER THE INPUT: true; the input reads as it did. -/
def confluenceMergeSpec : ChangeSpec := { name := "confluenceMerge", fn := fun _ => fun
  | [d1, d2] => { results := [.lit (.bool true)], args := [d1, d2] }
  | _ => none }
def confluenceMergeRow : OpenClaim := { program := "ytbofilglphfceaagreat", sum := "48ade93ac849d526b8fa4d185069136189074561f2f0d080082fe6044ab1fd3a", func := "constraint/constraintlaw40.ConfluenceMerge", spec := "confluenceMerge", inPlace := ["internal/bytealg.IndexByteString", "internal/bytealg.IndexString", "slices.overlaps[constraint/api.Bind]", "slices.overlaps[constraint/api.Fire]", "slices.overlaps[constraint/api.Answer]"], unfollowed := true, recurses := true, named := ["internal/bytealg.MaxLen"], plainKeys := false, apart := false }
def ConfluenceMergeSaid : Prop := confluenceMergeRow.holds Tryz.pinned (OpenSpec.ofChange confluenceMergeSpec)

/-- ITS FALSE NEIGHBOUR: 'it returns false'. Refute it at one input. -/
def confluenceMergeWrong : ChangeSpec := { name := "confluenceMerge", fn := fun _ => fun
  | [d1, d2] => { results := [.lit (.bool false)], args := [d1, d2] }
  | _ => none }
def ConfluenceMergeWrongFalsely : Prop := confluenceMergeRow.holds Tryz.pinned (OpenSpec.ofChange confluenceMergeWrong)

/-- 'constraintlaw40.ConfluenceAlone': WHATEVER THE INPUT: true; the input reads as it did. -/
def confluenceAloneSpec : ChangeSpec := { name := "confluenceAlone", fn := fun _ => fun
  | [d1, d2] => { results := [.lit (.bool true)], args := [d1, d2] }
  | _ => none }
def confluenceAloneRow : OpenClaim := { program := "ytbofilglphfceaagreat", sum := "48ade93ac849d526b8fa4d185069136189074561f2f0d080082fe6044ab1fd3a", func := "constraint/constraintlaw40.ConfluenceAlone", spec := "confluenceAlone", inPlace := ["internal/bytealg.IndexByteString", "internal/bytealg.IndexString", "slices.overlaps[constraint/api.Bind]", "slices.overlaps[constraint/api.Fire]", "slices.overlaps[constraint/api.Answer]"], unfollowed := true, recurses := true, named := ["internal/bytealg.MaxLen"], loops := true, plainKeys := false, apart := false }
def ConfluenceAloneSaid : Prop := confluenceAloneRow.holds Tryz.pinned (OpenSpec.ofChange confluenceAloneSpec)

/-- ITS FALSE NEIGHBOUR: 'it returns false'. Refute it at one input. -/
def confluenceAloneWrong : ChangeSpec := { name := "confluenceAlone", fn := fun _ => fun
  | [d1, d2] => { results := [.lit (.bool false)], args := [d1, d2] }
  | _ => none }
def ConfluenceAloneWrongFalsely : Prop := confluenceAloneRow.holds Tryz.pinned (OpenSpec.ofChange confluenceAloneWrong)

/- THE SECOND FORM. 'bulk': how many values and letters a reading holds, each counted each time it is reached (what is shared counts as often as it is met; a slice's spare places count too). A statement '..UptoSaid' is the law's where the arguments, and the package variables that the reading takes, are together of bulk at most 1048576: NARROWER than '..Said'. Prove '..Said' where nothing that the law and all that it calls make is longer than what came in: it says more and counts as full. Else prove '..UptoSaid'. A law counts once. -/
mutual
def uptoBulk {H : Type} : DataW H → Nat
  | .lit (.string bytes) => bytes.length + 1
  | .lit _ => 1
  | .nil => 1
  | .ptr d => uptoBulk d + 1
  | .slice elems spare => uptoBulkAll elems + uptoBulkAll spare + 1
  | .agg parts => uptoBulkAll parts + 1
  | .iface _ d => uptoBulk d + 1
  | .map entries => uptoBulkEntries entries + 1
  | .held _ => 1
def uptoBulkAll {H : Type} : List (DataW H) → Nat
  | [] => 0
  | d :: r => uptoBulk d + uptoBulkAll r
def uptoBulkEntries {H : Type} : List (Lit × DataW H) → Nat
  | [] => 0
  | x :: r => uptoBulkEntry x + uptoBulkEntries r
def uptoBulkEntry {H : Type} : Lit × DataW H → Nat
  | (.string bytes, d) => bytes.length + uptoBulk d + 1
  | (_, d) => uptoBulk d + 1
 end
def uptoSmall : (H : Type) → List (DataW H) → Bool := fun _ ds => decide (uptoBulkAll ds ≤ 1048576)
def OpenSpec.upto (s : _root_.Go.ChangeSpec) : _root_.Go.OpenSpec := { _root_.Go.OpenSpec.ofChange s with cond := some uptoSmall }

/-- 'constraintlaw23.TheoryStarts', WHERE WHAT IT READS IS OF BULK AT MOST 1048576: true; the input reads as it did. -/
def theoryStartsUptoRow : OpenClaim := { program := "ytbofilglphfceaagreat", sum := "48ade93ac849d526b8fa4d185069136189074561f2f0d080082fe6044ab1fd3a", func := "constraint/constraintlaw23.TheoryStarts", spec := "theoryStarts", inPlace := ["internal/bytealg.IndexByteString", "internal/bytealg.IndexString", "slices.overlaps[constraint/api.Bind]", "slices.overlaps[constraint/api.Fire]"], unfollowed := true, recurses := true, named := ["internal/bytealg.MaxLen"], loops := true, plainKeys := false, apart := false, narrowed := true }
def TheoryStartsUptoSaid : Prop := theoryStartsUptoRow.holds Tryz.pinned (OpenSpec.upto theoryStartsSpec)

/-- 'constraintlaw26.RefinedStarts', WHERE WHAT IT READS IS OF BULK AT MOST 1048576: true; the input reads as it did. -/
def refinedStartsUptoRow : OpenClaim := { program := "ytbofilglphfceaagreat", sum := "48ade93ac849d526b8fa4d185069136189074561f2f0d080082fe6044ab1fd3a", func := "constraint/constraintlaw26.RefinedStarts", spec := "refinedStarts", inPlace := ["internal/bytealg.IndexByteString", "internal/bytealg.IndexString", "slices.overlaps[constraint/api.Bind]", "slices.overlaps[constraint/api.Fire]"], unfollowed := true, recurses := true, named := ["internal/bytealg.MaxLen"], loops := true, plainKeys := false, apart := false, narrowed := true }
def RefinedStartsUptoSaid : Prop := refinedStartsUptoRow.holds Tryz.pinned (OpenSpec.upto refinedStartsSpec)

/-- 'constraintlaw27.DeriveAlike', WHERE WHAT IT READS IS OF BULK AT MOST 1048576: true; the input reads as it did. -/
def deriveAlikeUptoRow : OpenClaim := { program := "ytbofilglphfceaagreat", sum := "48ade93ac849d526b8fa4d185069136189074561f2f0d080082fe6044ab1fd3a", func := "constraint/constraintlaw27.DeriveAlike", spec := "deriveAlike", inPlace := ["internal/bytealg.IndexByteString", "internal/bytealg.IndexString", "slices.overlaps[constraint/api.Bind]", "slices.overlaps[constraint/api.Fire]"], unfollowed := true, recurses := true, named := ["internal/bytealg.MaxLen"], loops := true, plainKeys := false, apart := false, narrowed := true }
def DeriveAlikeUptoSaid : Prop := deriveAlikeUptoRow.holds Tryz.pinned (OpenSpec.upto deriveAlikeSpec)

/-- 'constraintlaw40.ConfluenceMerge', WHERE WHAT IT READS IS OF BULK AT MOST 1048576: true; the input reads as it did. -/
def confluenceMergeUptoRow : OpenClaim := { program := "ytbofilglphfceaagreat", sum := "48ade93ac849d526b8fa4d185069136189074561f2f0d080082fe6044ab1fd3a", func := "constraint/constraintlaw40.ConfluenceMerge", spec := "confluenceMerge", inPlace := ["internal/bytealg.IndexByteString", "internal/bytealg.IndexString", "slices.overlaps[constraint/api.Bind]", "slices.overlaps[constraint/api.Fire]", "slices.overlaps[constraint/api.Answer]"], unfollowed := true, recurses := true, named := ["internal/bytealg.MaxLen"], plainKeys := false, apart := false, narrowed := true }
def ConfluenceMergeUptoSaid : Prop := confluenceMergeUptoRow.holds Tryz.pinned (OpenSpec.upto confluenceMergeSpec)

/-- 'constraintlaw40.ConfluenceAlone', WHERE WHAT IT READS IS OF BULK AT MOST 1048576: true; the input reads as it did. -/
def confluenceAloneUptoRow : OpenClaim := { program := "ytbofilglphfceaagreat", sum := "48ade93ac849d526b8fa4d185069136189074561f2f0d080082fe6044ab1fd3a", func := "constraint/constraintlaw40.ConfluenceAlone", spec := "confluenceAlone", inPlace := ["internal/bytealg.IndexByteString", "internal/bytealg.IndexString", "slices.overlaps[constraint/api.Bind]", "slices.overlaps[constraint/api.Fire]", "slices.overlaps[constraint/api.Answer]"], unfollowed := true, recurses := true, named := ["internal/bytealg.MaxLen"], loops := true, plainKeys := false, apart := false, narrowed := true }
def ConfluenceAloneUptoSaid : Prop := confluenceAloneUptoRow.holds Tryz.pinned (OpenSpec.upto confluenceAloneSpec)

end Rows
end Go.Proofs.YtbofilglphfceaaGreat
