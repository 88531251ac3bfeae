/-
  NARROWER THAN 'FOR EVERY INPUT', by the rows' own cells (each row's printed sentence says how): OverlapRules: loops · OverlapShared: loops.
  DERIVED. THE GIVEN ROWS OF THIS SEAT. 2 by the template 'for every input the law returns true; each argument reads behind the call as it read before'; 0 by the template 'total and deterministic' (their statements: YtbpabjmnhggajaaGreatTotals.lean).
  GIVEN WITH THE SEED: the statements are not yours to turn. If you find one false, say at which input.
  Laid BY PROGRAM, IN A SANDBOX (cutbox-rows.mjs): the forced cells as the released guide's own fill.sh prints them over the translation 0a59a60288a91919… (all of the seat's roots in one cut). By AI agents, Wed Nov 11 2026. No macro, syntax, notation, axiom, sorry.
-/
import Derived.Test.YtbpabjmnhggajaaGreatChecked
import GoSem.Claim
import GoSem.ClaimJoined
import GoSem.ClaimMapViews
import Derived.JoinedTies
import Derived.KernelRfl
namespace Go.Proofs.YtbpabjmnhggajaaGreat
/- THE CELL 'sum', in the pinned program and in every row, IS THE sha256 OF THE DUMP (.gsa) THAT YtbpabjmnhggajaaGreatProg.lean LOADS. Nothing in Lean hashes anything: it is a label: what it is worth is what the hold of that sum in a sandbox is worth. -/
noncomputable def Tryz.pinned : Pinned := { name := "ytbpabjmnhggajaagreat", sum := "0a59a60288a91919e9a72b192cba5108b82b22b5a54d4f71730e60cd15dbfbd3", checked := Tryz.checked }
namespace Rows
def none {H : Type} : Left H := { results := [], args := [] }

/-- 'constraintlaw38.OverlapRules': WHATEVER THE INPUT: true; the input reads as it did. -/
def overlapRulesSpec : ChangeSpec := { name := "overlapRules", fn := fun _ => fun
  | [d1, d2, d3] => { results := [.lit (.bool true)], args := [d1, d2, d3] }
  | _ => none }
def overlapRulesRow : OpenClaim := { program := "ytbpabjmnhggajaagreat", sum := "0a59a60288a91919e9a72b192cba5108b82b22b5a54d4f71730e60cd15dbfbd3", func := "constraint/constraintlaw38.OverlapRules", spec := "overlapRules", inPlace := ["internal/bytealg.IndexByteString", "internal/bytealg.IndexString", "slices.overlaps[constraint/api.Bind]"], unfollowed := true, recurses := true, named := ["internal/bytealg.MaxLen"], loops := true, plainKeys := false, apart := false }
def OverlapRulesSaid : Prop := overlapRulesRow.holds Tryz.pinned (OpenSpec.ofChange overlapRulesSpec)

/-- ITS FALSE NEIGHBOUR: 'it returns false'. Refute it at one input. -/
def overlapRulesWrong : ChangeSpec := { name := "overlapRules", fn := fun _ => fun
  | [d1, d2, d3] => { results := [.lit (.bool false)], args := [d1, d2, d3] }
  | _ => none }
def OverlapRulesWrongFalsely : Prop := overlapRulesRow.holds Tryz.pinned (OpenSpec.ofChange overlapRulesWrong)

/-- 'constraintlaw38.OverlapShared': WHATEVER THE INPUT: true; the input reads as it did. -/
def overlapSharedSpec : ChangeSpec := { name := "overlapShared", fn := fun _ => fun
  | [d1, d2, d3] => { results := [.lit (.bool true)], args := [d1, d2, d3] }
  | _ => none }
def overlapSharedRow : OpenClaim := { program := "ytbpabjmnhggajaagreat", sum := "0a59a60288a91919e9a72b192cba5108b82b22b5a54d4f71730e60cd15dbfbd3", func := "constraint/constraintlaw38.OverlapShared", spec := "overlapShared", inPlace := ["internal/bytealg.IndexByteString", "internal/bytealg.IndexString", "slices.overlaps[constraint/api.Bind]"], unfollowed := true, recurses := true, named := ["internal/bytealg.MaxLen"], loops := true, plainKeys := false, apart := false }
def OverlapSharedSaid : Prop := overlapSharedRow.holds Tryz.pinned (OpenSpec.ofChange overlapSharedSpec)

/-- ITS FALSE NEIGHBOUR: 'it returns false'. Refute it at one input. -/
def overlapSharedWrong : ChangeSpec := { name := "overlapShared", fn := fun _ => fun
  | [d1, d2, d3] => { results := [.lit (.bool false)], args := [d1, d2, d3] }
  | _ => none }
def OverlapSharedWrongFalsely : Prop := overlapSharedRow.holds Tryz.pinned (OpenSpec.ofChange overlapSharedWrong)

/- THE SECOND FORM. 'bulk': how many values and letters a reading holds, each counted each time it is reached (what is shared counts as often as it is met; a slice's spare places count too). A statement '..UptoSaid' is the law's where the arguments, and the package variables that the reading takes, are together of bulk at most 1048576: NARROWER than '..Said'. Prove '..Said' where nothing that the law and all that it calls make is longer than what came in: it says more and counts as full. Else prove '..UptoSaid'. A law counts once. -/
mutual
def uptoBulk {H : Type} : DataW H → Nat
  | .lit (.string bytes) => bytes.length + 1
  | .lit _ => 1
  | .nil => 1
  | .ptr d => uptoBulk d + 1
  | .slice elems spare => uptoBulkAll elems + uptoBulkAll spare + 1
  | .agg parts => uptoBulkAll parts + 1
  | .iface _ d => uptoBulk d + 1
  | .map entries => uptoBulkEntries entries + 1
  | .held _ => 1
def uptoBulkAll {H : Type} : List (DataW H) → Nat
  | [] => 0
  | d :: r => uptoBulk d + uptoBulkAll r
def uptoBulkEntries {H : Type} : List (Lit × DataW H) → Nat
  | [] => 0
  | x :: r => uptoBulkEntry x + uptoBulkEntries r
def uptoBulkEntry {H : Type} : Lit × DataW H → Nat
  | (.string bytes, d) => bytes.length + uptoBulk d + 1
  | (_, d) => uptoBulk d + 1
 end
def uptoSmall : (H : Type) → List (DataW H) → Bool := fun _ ds => decide (uptoBulkAll ds ≤ 1048576)
def OpenSpec.upto (s : _root_.Go.ChangeSpec) : _root_.Go.OpenSpec := { _root_.Go.OpenSpec.ofChange s with cond := some uptoSmall }

/-- 'constraintlaw38.OverlapRules', WHERE WHAT IT READS IS OF BULK AT MOST 1048576: true; the input reads as it did. -/
def overlapRulesUptoRow : OpenClaim := { program := "ytbpabjmnhggajaagreat", sum := "0a59a60288a91919e9a72b192cba5108b82b22b5a54d4f71730e60cd15dbfbd3", func := "constraint/constraintlaw38.OverlapRules", spec := "overlapRules", inPlace := ["internal/bytealg.IndexByteString", "internal/bytealg.IndexString", "slices.overlaps[constraint/api.Bind]"], unfollowed := true, recurses := true, named := ["internal/bytealg.MaxLen"], loops := true, plainKeys := false, apart := false, narrowed := true }
def OverlapRulesUptoSaid : Prop := overlapRulesUptoRow.holds Tryz.pinned (OpenSpec.upto overlapRulesSpec)

/-- 'constraintlaw38.OverlapShared', WHERE WHAT IT READS IS OF BULK AT MOST 1048576: true; the input reads as it did. -/
def overlapSharedUptoRow : OpenClaim := { program := "ytbpabjmnhggajaagreat", sum := "0a59a60288a91919e9a72b192cba5108b82b22b5a54d4f71730e60cd15dbfbd3", func := "constraint/constraintlaw38.OverlapShared", spec := "overlapShared", inPlace := ["internal/bytealg.IndexByteString", "internal/bytealg.IndexString", "slices.overlaps[constraint/api.Bind]"], unfollowed := true, recurses := true, named := ["internal/bytealg.MaxLen"], loops := true, plainKeys := false, apart := false, narrowed := true }
def OverlapSharedUptoSaid : Prop := overlapSharedUptoRow.holds Tryz.pinned (OpenSpec.upto overlapSharedSpec)

end Rows
end Go.Proofs.YtbpabjmnhggajaaGreat
