/-
  NARROWER THAN 'FOR EVERY INPUT', by the rows' own cells (each row's printed sentence says how): TokenNext: laid · TokenScan: laid · TokenCovers: laid · TokenJoins: laid · TokenSymbols: laid · TokenSuffix: laid.
  DERIVED. THE GIVEN ROWS OF THIS SEAT. 6 by the template 'for every input the law returns true; each argument reads behind the call as it read before'; 0 by the template 'total and deterministic' (their statements: YtmahhaabhaigiaaDoorTotals.lean).
  GIVEN WITH THE SEED: the statements are not yours to turn. If you find one false, say at which input.
  Laid BY PROGRAM, IN A SANDBOX (cutbox-rows.mjs): the forced cells as the released guide's own fill.sh prints them over the translation 58bdc736b1eb2b15… (all of the seat's roots in one cut). By AI agents, Wed Nov 11 2026. No macro, syntax, notation, axiom, sorry.
-/
import Derived.Test.YtmahhaabhaigiaaDoorChecked
import GoSem.Claim
import GoSem.ClaimJoined
import GoSem.ClaimMapViews
import Derived.JoinedTies
import Derived.KernelRfl
namespace Go.Proofs.YtmahhaabhaigiaaDoor
/- THE CELL 'sum', in the pinned program and in every row, IS THE sha256 OF THE DUMP (.gsa) THAT YtmahhaabhaigiaaDoorProg.lean LOADS. Nothing in Lean hashes anything: it is a label: what it is worth is what the hold of that sum in a sandbox is worth. -/
noncomputable def Tryd.pinned : Pinned := { name := "ytmahhaabhaigiaadoor", sum := "58bdc736b1eb2b156d45a247385c35fd3fea8355478d21c7332806de9fcba032", checked := Tryd.checked }
namespace Rows
def none {H : Type} : Left H := { results := [], args := [] }

/- WHAT THE LISTED PACKAGE-LEVEL VARIABLES READ AS WHEN THE CALL BEGINS. Each datum BY PROGRAM (the guide's laid-datum.mjs) off the statement by which the dump's own 'gosem.cut.vars' lays the variable. In a bare row this is a premise. The card (YtmahhaabhaigiaaDoorCards.lean) ties it to the program's text. -/
def laid_constraint_token_symbols {H : Type} : DataW H := .agg [.lit (.string [61, 58, 61]), .lit (.string [61, 92, 61]), .lit (.string [60, 61, 62]), .lit (.string [61, 61, 62]), .lit (.string [61, 61]), .lit (.string [92, 61]), .lit (.string [61, 60]), .lit (.string [62, 61]), .lit (.string [64]), .lit (.string [44]), .lit (.string [46]), .lit (.string [40]), .lit (.string [41]), .lit (.string [124]), .lit (.string [47]), .lit (.string [92]), .lit (.string [43]), .lit (.string [45]), .lit (.string [42]), .lit (.string [37]), .lit (.string [61]), .lit (.string [60]), .lit (.string [62])]

/-- 'constraintlaw12.TokenNext': WHATEVER THE INPUT: true; the input reads as it did. -/
def tokenNextSpec : ChangeSpec := { name := "tokenNext", fn := fun _ => fun
  | [d1, d2] => { results := [.lit (.bool true)], args := [d1, d2] }
  | _ => none }
def tokenNextRow : OpenClaim := { program := "ytmahhaabhaigiaadoor", sum := "58bdc736b1eb2b156d45a247385c35fd3fea8355478d21c7332806de9fcba032", func := "constraint/constraintlaw12.TokenNext", spec := "tokenNext", named := ["constraint/token.symbols"], apart := false, laid := [("constraint/token.symbols", laid_constraint_token_symbols)] }
def TokenNextSaid : Prop := tokenNextRow.holds Tryd.pinned (OpenSpec.ofChange tokenNextSpec)

/-- ITS FALSE NEIGHBOUR: 'it returns false'. Refute it at one input. -/
def tokenNextWrong : ChangeSpec := { name := "tokenNext", fn := fun _ => fun
  | [d1, d2] => { results := [.lit (.bool false)], args := [d1, d2] }
  | _ => none }
def TokenNextWrongFalsely : Prop := tokenNextRow.holds Tryd.pinned (OpenSpec.ofChange tokenNextWrong)

/-- 'constraintlaw12.TokenScan': WHATEVER THE INPUT: true; the input reads as it did. -/
def tokenScanSpec : ChangeSpec := { name := "tokenScan", fn := fun _ => fun
  | [d] => { results := [.lit (.bool true)], args := [d] }
  | _ => none }
def tokenScanRow : OpenClaim := { program := "ytmahhaabhaigiaadoor", sum := "58bdc736b1eb2b156d45a247385c35fd3fea8355478d21c7332806de9fcba032", func := "constraint/constraintlaw12.TokenScan", spec := "tokenScan", named := ["constraint/token.symbols"], apart := false, laid := [("constraint/token.symbols", laid_constraint_token_symbols)] }
def TokenScanSaid : Prop := tokenScanRow.holds Tryd.pinned (OpenSpec.ofChange tokenScanSpec)

/-- ITS FALSE NEIGHBOUR: 'it returns false'. Refute it at one input. -/
def tokenScanWrong : ChangeSpec := { name := "tokenScan", fn := fun _ => fun
  | [d] => { results := [.lit (.bool false)], args := [d] }
  | _ => none }
def TokenScanWrongFalsely : Prop := tokenScanRow.holds Tryd.pinned (OpenSpec.ofChange tokenScanWrong)

/-- 'constraintlaw12.TokenCovers': WHATEVER THE INPUT: true; the input reads as it did. -/
def tokenCoversSpec : ChangeSpec := { name := "tokenCovers", fn := fun _ => fun
  | [d] => { results := [.lit (.bool true)], args := [d] }
  | _ => none }
def tokenCoversRow : OpenClaim := { program := "ytmahhaabhaigiaadoor", sum := "58bdc736b1eb2b156d45a247385c35fd3fea8355478d21c7332806de9fcba032", func := "constraint/constraintlaw12.TokenCovers", spec := "tokenCovers", named := ["constraint/token.symbols"], apart := false, laid := [("constraint/token.symbols", laid_constraint_token_symbols)] }
def TokenCoversSaid : Prop := tokenCoversRow.holds Tryd.pinned (OpenSpec.ofChange tokenCoversSpec)

/-- ITS FALSE NEIGHBOUR: 'it returns false'. Refute it at one input. -/
def tokenCoversWrong : ChangeSpec := { name := "tokenCovers", fn := fun _ => fun
  | [d] => { results := [.lit (.bool false)], args := [d] }
  | _ => none }
def TokenCoversWrongFalsely : Prop := tokenCoversRow.holds Tryd.pinned (OpenSpec.ofChange tokenCoversWrong)

/-- 'constraintlaw12.TokenJoins': WHATEVER THE INPUT: true; the input reads as it did. -/
def tokenJoinsSpec : ChangeSpec := { name := "tokenJoins", fn := fun _ => fun
  | [d1, d2] => { results := [.lit (.bool true)], args := [d1, d2] }
  | _ => none }
def tokenJoinsRow : OpenClaim := { program := "ytmahhaabhaigiaadoor", sum := "58bdc736b1eb2b156d45a247385c35fd3fea8355478d21c7332806de9fcba032", func := "constraint/constraintlaw12.TokenJoins", spec := "tokenJoins", named := ["constraint/token.symbols"], apart := false, laid := [("constraint/token.symbols", laid_constraint_token_symbols)] }
def TokenJoinsSaid : Prop := tokenJoinsRow.holds Tryd.pinned (OpenSpec.ofChange tokenJoinsSpec)

/-- ITS FALSE NEIGHBOUR: 'it returns false'. Refute it at one input. -/
def tokenJoinsWrong : ChangeSpec := { name := "tokenJoins", fn := fun _ => fun
  | [d1, d2] => { results := [.lit (.bool false)], args := [d1, d2] }
  | _ => none }
def TokenJoinsWrongFalsely : Prop := tokenJoinsRow.holds Tryd.pinned (OpenSpec.ofChange tokenJoinsWrong)

/-- 'constraintlaw12.TokenSymbols': WHATEVER THE INPUT: true; the input reads as it did. -/
def tokenSymbolsSpec : ChangeSpec := { name := "tokenSymbols", fn := fun _ => fun
  | [d1, d2] => { results := [.lit (.bool true)], args := [d1, d2] }
  | _ => none }
def tokenSymbolsRow : OpenClaim := { program := "ytmahhaabhaigiaadoor", sum := "58bdc736b1eb2b156d45a247385c35fd3fea8355478d21c7332806de9fcba032", func := "constraint/constraintlaw12.TokenSymbols", spec := "tokenSymbols", named := ["constraint/token.symbols"], apart := false, laid := [("constraint/token.symbols", laid_constraint_token_symbols)] }
def TokenSymbolsSaid : Prop := tokenSymbolsRow.holds Tryd.pinned (OpenSpec.ofChange tokenSymbolsSpec)

/-- ITS FALSE NEIGHBOUR: 'it returns false'. Refute it at one input. -/
def tokenSymbolsWrong : ChangeSpec := { name := "tokenSymbols", fn := fun _ => fun
  | [d1, d2] => { results := [.lit (.bool false)], args := [d1, d2] }
  | _ => none }
def TokenSymbolsWrongFalsely : Prop := tokenSymbolsRow.holds Tryd.pinned (OpenSpec.ofChange tokenSymbolsWrong)

/-- 'constraintlaw12.TokenSuffix': WHATEVER THE INPUT: true; the input reads as it did. -/
def tokenSuffixSpec : ChangeSpec := { name := "tokenSuffix", fn := fun _ => fun
  | [d1, d2] => { results := [.lit (.bool true)], args := [d1, d2] }
  | _ => none }
def tokenSuffixRow : OpenClaim := { program := "ytmahhaabhaigiaadoor", sum := "58bdc736b1eb2b156d45a247385c35fd3fea8355478d21c7332806de9fcba032", func := "constraint/constraintlaw12.TokenSuffix", spec := "tokenSuffix", named := ["constraint/token.symbols"], apart := false, laid := [("constraint/token.symbols", laid_constraint_token_symbols)] }
def TokenSuffixSaid : Prop := tokenSuffixRow.holds Tryd.pinned (OpenSpec.ofChange tokenSuffixSpec)

/-- ITS FALSE NEIGHBOUR: 'it returns false'. Refute it at one input. -/
def tokenSuffixWrong : ChangeSpec := { name := "tokenSuffix", fn := fun _ => fun
  | [d1, d2] => { results := [.lit (.bool false)], args := [d1, d2] }
  | _ => none }
def TokenSuffixWrongFalsely : Prop := tokenSuffixRow.holds Tryd.pinned (OpenSpec.ofChange tokenSuffixWrong)

/- THE SECOND FORM. 'bulk': how many values and letters a reading holds, each counted each time it is reached (what is shared counts as often as it is met; a slice's spare places count too). A statement '..UptoSaid' is the law's where the arguments, and the package variables that the reading takes, are together of bulk at most 1048576: NARROWER than '..Said'. Prove '..Said' where nothing that the law and all that it calls make is longer than what came in: it says more and counts as full. Else prove '..UptoSaid'. A law counts once. -/
mutual
def uptoBulk {H : Type} : DataW H → Nat
  | .lit (.string bytes) => bytes.length + 1
  | .lit _ => 1
  | .nil => 1
  | .ptr d => uptoBulk d + 1
  | .slice elems spare => uptoBulkAll elems + uptoBulkAll spare + 1
  | .agg parts => uptoBulkAll parts + 1
  | .iface _ d => uptoBulk d + 1
  | .map entries => uptoBulkEntries entries + 1
  | .held _ => 1
def uptoBulkAll {H : Type} : List (DataW H) → Nat
  | [] => 0
  | d :: r => uptoBulk d + uptoBulkAll r
def uptoBulkEntries {H : Type} : List (Lit × DataW H) → Nat
  | [] => 0
  | x :: r => uptoBulkEntry x + uptoBulkEntries r
def uptoBulkEntry {H : Type} : Lit × DataW H → Nat
  | (.string bytes, d) => bytes.length + uptoBulk d + 1
  | (_, d) => uptoBulk d + 1
 end
def uptoSmall : (H : Type) → List (DataW H) → Bool := fun _ ds => decide (uptoBulkAll ds ≤ 1048576)
def OpenSpec.upto (s : _root_.Go.ChangeSpec) : _root_.Go.OpenSpec := { _root_.Go.OpenSpec.ofChange s with cond := some uptoSmall }

/-- 'constraintlaw12.TokenNext', WHERE WHAT IT READS IS OF BULK AT MOST 1048576: true; the input reads as it did. -/
def tokenNextUptoRow : OpenClaim := { program := "ytmahhaabhaigiaadoor", sum := "58bdc736b1eb2b156d45a247385c35fd3fea8355478d21c7332806de9fcba032", func := "constraint/constraintlaw12.TokenNext", spec := "tokenNext", named := ["constraint/token.symbols"], apart := false, laid := [("constraint/token.symbols", laid_constraint_token_symbols)], narrowed := true }
def TokenNextUptoSaid : Prop := tokenNextUptoRow.holds Tryd.pinned (OpenSpec.upto tokenNextSpec)

/-- 'constraintlaw12.TokenScan', WHERE WHAT IT READS IS OF BULK AT MOST 1048576: true; the input reads as it did. -/
def tokenScanUptoRow : OpenClaim := { program := "ytmahhaabhaigiaadoor", sum := "58bdc736b1eb2b156d45a247385c35fd3fea8355478d21c7332806de9fcba032", func := "constraint/constraintlaw12.TokenScan", spec := "tokenScan", named := ["constraint/token.symbols"], apart := false, laid := [("constraint/token.symbols", laid_constraint_token_symbols)], narrowed := true }
def TokenScanUptoSaid : Prop := tokenScanUptoRow.holds Tryd.pinned (OpenSpec.upto tokenScanSpec)

/-- 'constraintlaw12.TokenCovers', WHERE WHAT IT READS IS OF BULK AT MOST 1048576: true; the input reads as it did. -/
def tokenCoversUptoRow : OpenClaim := { program := "ytmahhaabhaigiaadoor", sum := "58bdc736b1eb2b156d45a247385c35fd3fea8355478d21c7332806de9fcba032", func := "constraint/constraintlaw12.TokenCovers", spec := "tokenCovers", named := ["constraint/token.symbols"], apart := false, laid := [("constraint/token.symbols", laid_constraint_token_symbols)], narrowed := true }
def TokenCoversUptoSaid : Prop := tokenCoversUptoRow.holds Tryd.pinned (OpenSpec.upto tokenCoversSpec)

/-- 'constraintlaw12.TokenJoins', WHERE WHAT IT READS IS OF BULK AT MOST 1048576: true; the input reads as it did. -/
def tokenJoinsUptoRow : OpenClaim := { program := "ytmahhaabhaigiaadoor", sum := "58bdc736b1eb2b156d45a247385c35fd3fea8355478d21c7332806de9fcba032", func := "constraint/constraintlaw12.TokenJoins", spec := "tokenJoins", named := ["constraint/token.symbols"], apart := false, laid := [("constraint/token.symbols", laid_constraint_token_symbols)], narrowed := true }
def TokenJoinsUptoSaid : Prop := tokenJoinsUptoRow.holds Tryd.pinned (OpenSpec.upto tokenJoinsSpec)

/-- 'constraintlaw12.TokenSymbols', WHERE WHAT IT READS IS OF BULK AT MOST 1048576: true; the input reads as it did. -/
def tokenSymbolsUptoRow : OpenClaim := { program := "ytmahhaabhaigiaadoor", sum := "58bdc736b1eb2b156d45a247385c35fd3fea8355478d21c7332806de9fcba032", func := "constraint/constraintlaw12.TokenSymbols", spec := "tokenSymbols", named := ["constraint/token.symbols"], apart := false, laid := [("constraint/token.symbols", laid_constraint_token_symbols)], narrowed := true }
def TokenSymbolsUptoSaid : Prop := tokenSymbolsUptoRow.holds Tryd.pinned (OpenSpec.upto tokenSymbolsSpec)

/-- 'constraintlaw12.TokenSuffix', WHERE WHAT IT READS IS OF BULK AT MOST 1048576: true; the input reads as it did. -/
def tokenSuffixUptoRow : OpenClaim := { program := "ytmahhaabhaigiaadoor", sum := "58bdc736b1eb2b156d45a247385c35fd3fea8355478d21c7332806de9fcba032", func := "constraint/constraintlaw12.TokenSuffix", spec := "tokenSuffix", named := ["constraint/token.symbols"], apart := false, laid := [("constraint/token.symbols", laid_constraint_token_symbols)], narrowed := true }
def TokenSuffixUptoSaid : Prop := tokenSuffixUptoRow.holds Tryd.pinned (OpenSpec.upto tokenSuffixSpec)

end Rows
end Go.Proofs.YtmahhaabhaigiaaDoor
