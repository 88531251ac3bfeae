/-
  NARROWER THAN 'FOR EVERY INPUT', by the rows' own cells (each row's printed sentence says how): SetsemIdempotent: loops · SetsemSets: loops · SetsemMerges: loops.
  DERIVED. THE GIVEN ROWS OF THIS SEAT. 3 by the template 'for every input the law returns true; each argument reads behind the call as it read before'; 0 by the template 'total and deterministic' (their statements: YtahhaiomdjlckaaTotals.lean).
  GIVEN WITH THE SEED: the statements are not yours to turn. If you find one false, say at which input.
  Laid BY PROGRAM, IN A SANDBOX (cutbox-rows.mjs): the forced cells as the released guide's own fill.sh prints them over the translation 7365d83155e9eabc… (all of the seat's roots in one cut). By AI agents, Wed Nov 11 2026. No macro, syntax, notation, axiom, sorry.
-/
import Derived.Test.YtahhaiomdjlckaaChecked
import GoSem.Claim
import GoSem.ClaimJoined
import GoSem.ClaimMapViews
import Derived.JoinedTies
import Derived.KernelRfl
namespace Go.Proofs.Ytahhaiomdjlckaa
/- THE CELL 'sum', in the pinned program and in every row, IS THE sha256 OF THE DUMP (.gsa) THAT YtahhaiomdjlckaaProg.lean LOADS. Nothing in Lean hashes anything: it is a label: what it is worth is what the hold of that sum in a sandbox is worth. -/
noncomputable def Try.pinned : Pinned := { name := "ytahhaiomdjlckaa", sum := "7365d83155e9eabc9b9636bb546b1cf1c4b821dacc710a0c903033dccb5a5ce7", checked := Try.checked }
namespace Rows
def none {H : Type} : Left H := { results := [], args := [] }

/-- 'constraintlaw43.SetsemIdempotent': WHATEVER THE INPUT: true; the input reads as it did. -/
def setsemIdempotentSpec : ChangeSpec := { name := "setsemIdempotent", fn := fun _ => fun
  | [d1, d2] => { results := [.lit (.bool true)], args := [d1, d2] }
  | _ => none }
def setsemIdempotentRow : OpenClaim := { program := "ytahhaiomdjlckaa", sum := "7365d83155e9eabc9b9636bb546b1cf1c4b821dacc710a0c903033dccb5a5ce7", func := "constraint/constraintlaw43.SetsemIdempotent", spec := "setsemIdempotent", unfollowed := true, recurses := true, loops := true, apart := false }
def SetsemIdempotentSaid : Prop := setsemIdempotentRow.holds Try.pinned (OpenSpec.ofChange setsemIdempotentSpec)

/-- ITS FALSE NEIGHBOUR: 'it returns false'. Refute it at one input. -/
def setsemIdempotentWrong : ChangeSpec := { name := "setsemIdempotent", fn := fun _ => fun
  | [d1, d2] => { results := [.lit (.bool false)], args := [d1, d2] }
  | _ => none }
def SetsemIdempotentWrongFalsely : Prop := setsemIdempotentRow.holds Try.pinned (OpenSpec.ofChange setsemIdempotentWrong)

/-- 'constraintlaw43.SetsemSets': WHATEVER THE INPUT: true; the input reads as it did. -/
def setsemSetsSpec : ChangeSpec := { name := "setsemSets", fn := fun _ => fun
  | [d] => { results := [.lit (.bool true)], args := [d] }
  | _ => none }
def setsemSetsRow : OpenClaim := { program := "ytahhaiomdjlckaa", sum := "7365d83155e9eabc9b9636bb546b1cf1c4b821dacc710a0c903033dccb5a5ce7", func := "constraint/constraintlaw43.SetsemSets", spec := "setsemSets", unfollowed := true, recurses := true, loops := true, apart := false }
def SetsemSetsSaid : Prop := setsemSetsRow.holds Try.pinned (OpenSpec.ofChange setsemSetsSpec)

/-- ITS FALSE NEIGHBOUR: 'it returns false'. Refute it at one input. -/
def setsemSetsWrong : ChangeSpec := { name := "setsemSets", fn := fun _ => fun
  | [d] => { results := [.lit (.bool false)], args := [d] }
  | _ => none }
def SetsemSetsWrongFalsely : Prop := setsemSetsRow.holds Try.pinned (OpenSpec.ofChange setsemSetsWrong)

/-- 'constraintlaw43.SetsemMerges': WHATEVER THE INPUT: true; the input reads as it did. -/
def setsemMergesSpec : ChangeSpec := { name := "setsemMerges", fn := fun _ => fun
  | [d] => { results := [.lit (.bool true)], args := [d] }
  | _ => none }
def setsemMergesRow : OpenClaim := { program := "ytahhaiomdjlckaa", sum := "7365d83155e9eabc9b9636bb546b1cf1c4b821dacc710a0c903033dccb5a5ce7", func := "constraint/constraintlaw43.SetsemMerges", spec := "setsemMerges", unfollowed := true, recurses := true, loops := true, apart := false }
def SetsemMergesSaid : Prop := setsemMergesRow.holds Try.pinned (OpenSpec.ofChange setsemMergesSpec)

/-- ITS FALSE NEIGHBOUR: 'it returns false'. Refute it at one input. -/
def setsemMergesWrong : ChangeSpec := { name := "setsemMerges", fn := fun _ => fun
  | [d] => { results := [.lit (.bool false)], args := [d] }
  | _ => none }
def SetsemMergesWrongFalsely : Prop := setsemMergesRow.holds Try.pinned (OpenSpec.ofChange setsemMergesWrong)

/- THE SECOND FORM. 'bulk': how many values and letters a reading holds, each counted each time it is reached (what is shared counts as often as it is met; a slice's spare places count too). A statement '..UptoSaid' is the law's where the arguments, and the package variables that the reading takes, are together of bulk at most 1048576: NARROWER than '..Said'. Prove '..Said' where nothing that the law and all that it calls make is longer than what came in: it says more and counts as full. Else prove '..UptoSaid'. A law counts once. -/
mutual
def uptoBulk {H : Type} : DataW H → Nat
  | .lit (.string bytes) => bytes.length + 1
  | .lit _ => 1
  | .nil => 1
  | .ptr d => uptoBulk d + 1
  | .slice elems spare => uptoBulkAll elems + uptoBulkAll spare + 1
  | .agg parts => uptoBulkAll parts + 1
  | .iface _ d => uptoBulk d + 1
  | .map entries => uptoBulkEntries entries + 1
  | .held _ => 1
def uptoBulkAll {H : Type} : List (DataW H) → Nat
  | [] => 0
  | d :: r => uptoBulk d + uptoBulkAll r
def uptoBulkEntries {H : Type} : List (Lit × DataW H) → Nat
  | [] => 0
  | x :: r => uptoBulkEntry x + uptoBulkEntries r
def uptoBulkEntry {H : Type} : Lit × DataW H → Nat
  | (.string bytes, d) => bytes.length + uptoBulk d + 1
  | (_, d) => uptoBulk d + 1
 end
def uptoSmall : (H : Type) → List (DataW H) → Bool := fun _ ds => decide (uptoBulkAll ds ≤ 1048576)
def OpenSpec.upto (s : _root_.Go.ChangeSpec) : _root_.Go.OpenSpec := { _root_.Go.OpenSpec.ofChange s with cond := some uptoSmall }

/-- 'constraintlaw43.SetsemIdempotent', WHERE WHAT IT READS IS OF BULK AT MOST 1048576: true; the input reads as it did. -/
def setsemIdempotentUptoRow : OpenClaim := { program := "ytahhaiomdjlckaa", sum := "7365d83155e9eabc9b9636bb546b1cf1c4b821dacc710a0c903033dccb5a5ce7", func := "constraint/constraintlaw43.SetsemIdempotent", spec := "setsemIdempotent", unfollowed := true, recurses := true, loops := true, apart := false, narrowed := true }
def SetsemIdempotentUptoSaid : Prop := setsemIdempotentUptoRow.holds Try.pinned (OpenSpec.upto setsemIdempotentSpec)

/-- 'constraintlaw43.SetsemSets', WHERE WHAT IT READS IS OF BULK AT MOST 1048576: true; the input reads as it did. -/
def setsemSetsUptoRow : OpenClaim := { program := "ytahhaiomdjlckaa", sum := "7365d83155e9eabc9b9636bb546b1cf1c4b821dacc710a0c903033dccb5a5ce7", func := "constraint/constraintlaw43.SetsemSets", spec := "setsemSets", unfollowed := true, recurses := true, loops := true, apart := false, narrowed := true }
def SetsemSetsUptoSaid : Prop := setsemSetsUptoRow.holds Try.pinned (OpenSpec.upto setsemSetsSpec)

/-- 'constraintlaw43.SetsemMerges', WHERE WHAT IT READS IS OF BULK AT MOST 1048576: true; the input reads as it did. -/
def setsemMergesUptoRow : OpenClaim := { program := "ytahhaiomdjlckaa", sum := "7365d83155e9eabc9b9636bb546b1cf1c4b821dacc710a0c903033dccb5a5ce7", func := "constraint/constraintlaw43.SetsemMerges", spec := "setsemMerges", unfollowed := true, recurses := true, loops := true, apart := false, narrowed := true }
def SetsemMergesUptoSaid : Prop := setsemMergesUptoRow.holds Try.pinned (OpenSpec.upto setsemMergesSpec)

end Rows
end Go.Proofs.Ytahhaiomdjlckaa
