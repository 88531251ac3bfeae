/-
  DERIVED. GIVEN WITH THE SEED: THE CARDS: each row of YtmahhaabhaigiaaDoorRows.lean that lists a variable, with what it lists TIED to the program's text (the seventh form; the later family's looks); each row that meets fmt, with fmt's text TOLD by the authors' own Lean function (tested against real Go, not proved from fmt's source: count such statements apart). THE CARD IS WHAT COUNTS. Prove the row's statement (the work); the ties are given (YtmahhaabhaigiaaDoorTie.lean); close each card by the builder's one call (the guide's Derived/Test/ToyasCard.lean, 'card_holds'). Laid BY PROGRAM, IN A SANDBOX (cutbox-door.mjs). By AI agents, Wed Nov 11 2026. No macro, syntax, notation, axiom, sorry.
-/
import Derived.Test.YtmahhaabhaigiaaDoorRows
import GoSem.ClaimSeven
namespace Go.Proofs.YtmahhaabhaigiaaDoor
namespace Rows

/-- THE TIED CARD OF 'constraintlaw12.TokenNext'. -/
def tokenNextCard : Claim7 := { stood := { row := tokenNextRow, standIns := [], harness := (true, "f117f17a49c15e5491d2cecef3955cc54ac21338c22fe209f8d98b2c487381e0"), looks := false }, kinds := [], alts := [], laidByText := true, laidKinds := [.data], laidTests := true, laidLooks := .later }
def TokenNextCardSaid : Prop := Claim7.holds Tryd.pinned (.plain (OpenSpec.ofChange tokenNextSpec)) tokenNextCard

/-- THE TIED CARD OF 'constraintlaw12.TokenScan'. -/
def tokenScanCard : Claim7 := { stood := { row := tokenScanRow, standIns := [], harness := (true, "f117f17a49c15e5491d2cecef3955cc54ac21338c22fe209f8d98b2c487381e0"), looks := false }, kinds := [], alts := [], laidByText := true, laidKinds := [.data], laidTests := true, laidLooks := .later }
def TokenScanCardSaid : Prop := Claim7.holds Tryd.pinned (.plain (OpenSpec.ofChange tokenScanSpec)) tokenScanCard

/-- THE TIED CARD OF 'constraintlaw12.TokenCovers'. -/
def tokenCoversCard : Claim7 := { stood := { row := tokenCoversRow, standIns := [], harness := (true, "f117f17a49c15e5491d2cecef3955cc54ac21338c22fe209f8d98b2c487381e0"), looks := false }, kinds := [], alts := [], laidByText := true, laidKinds := [.data], laidTests := true, laidLooks := .later }
def TokenCoversCardSaid : Prop := Claim7.holds Tryd.pinned (.plain (OpenSpec.ofChange tokenCoversSpec)) tokenCoversCard

/-- THE TIED CARD OF 'constraintlaw12.TokenJoins'. -/
def tokenJoinsCard : Claim7 := { stood := { row := tokenJoinsRow, standIns := [], harness := (true, "f117f17a49c15e5491d2cecef3955cc54ac21338c22fe209f8d98b2c487381e0"), looks := false }, kinds := [], alts := [], laidByText := true, laidKinds := [.data], laidTests := true, laidLooks := .later }
def TokenJoinsCardSaid : Prop := Claim7.holds Tryd.pinned (.plain (OpenSpec.ofChange tokenJoinsSpec)) tokenJoinsCard

/-- THE TIED CARD OF 'constraintlaw12.TokenSymbols'. -/
def tokenSymbolsCard : Claim7 := { stood := { row := tokenSymbolsRow, standIns := [], harness := (true, "f117f17a49c15e5491d2cecef3955cc54ac21338c22fe209f8d98b2c487381e0"), looks := false }, kinds := [], alts := [], laidByText := true, laidKinds := [.data], laidTests := true, laidLooks := .later }
def TokenSymbolsCardSaid : Prop := Claim7.holds Tryd.pinned (.plain (OpenSpec.ofChange tokenSymbolsSpec)) tokenSymbolsCard

/-- THE TIED CARD OF 'constraintlaw12.TokenSuffix'. -/
def tokenSuffixCard : Claim7 := { stood := { row := tokenSuffixRow, standIns := [], harness := (true, "f117f17a49c15e5491d2cecef3955cc54ac21338c22fe209f8d98b2c487381e0"), looks := false }, kinds := [], alts := [], laidByText := true, laidKinds := [.data], laidTests := true, laidLooks := .later }
def TokenSuffixCardSaid : Prop := Claim7.holds Tryd.pinned (.plain (OpenSpec.ofChange tokenSuffixSpec)) tokenSuffixCard

/-- THE SECOND FORM's CARD OF 'constraintlaw12.TokenNext'. -/
def tokenNextUptoCard : Claim7 := { stood := { row := tokenNextUptoRow, standIns := [], harness := (true, "f117f17a49c15e5491d2cecef3955cc54ac21338c22fe209f8d98b2c487381e0"), looks := false }, kinds := [], alts := [], laidByText := true, laidKinds := [.data], laidTests := true, laidLooks := .later }
def TokenNextUptoCardSaid : Prop := Claim7.holds Tryd.pinned (.plain (OpenSpec.upto tokenNextSpec)) tokenNextUptoCard

/-- THE SECOND FORM's CARD OF 'constraintlaw12.TokenScan'. -/
def tokenScanUptoCard : Claim7 := { stood := { row := tokenScanUptoRow, standIns := [], harness := (true, "f117f17a49c15e5491d2cecef3955cc54ac21338c22fe209f8d98b2c487381e0"), looks := false }, kinds := [], alts := [], laidByText := true, laidKinds := [.data], laidTests := true, laidLooks := .later }
def TokenScanUptoCardSaid : Prop := Claim7.holds Tryd.pinned (.plain (OpenSpec.upto tokenScanSpec)) tokenScanUptoCard

/-- THE SECOND FORM's CARD OF 'constraintlaw12.TokenCovers'. -/
def tokenCoversUptoCard : Claim7 := { stood := { row := tokenCoversUptoRow, standIns := [], harness := (true, "f117f17a49c15e5491d2cecef3955cc54ac21338c22fe209f8d98b2c487381e0"), looks := false }, kinds := [], alts := [], laidByText := true, laidKinds := [.data], laidTests := true, laidLooks := .later }
def TokenCoversUptoCardSaid : Prop := Claim7.holds Tryd.pinned (.plain (OpenSpec.upto tokenCoversSpec)) tokenCoversUptoCard

/-- THE SECOND FORM's CARD OF 'constraintlaw12.TokenJoins'. -/
def tokenJoinsUptoCard : Claim7 := { stood := { row := tokenJoinsUptoRow, standIns := [], harness := (true, "f117f17a49c15e5491d2cecef3955cc54ac21338c22fe209f8d98b2c487381e0"), looks := false }, kinds := [], alts := [], laidByText := true, laidKinds := [.data], laidTests := true, laidLooks := .later }
def TokenJoinsUptoCardSaid : Prop := Claim7.holds Tryd.pinned (.plain (OpenSpec.upto tokenJoinsSpec)) tokenJoinsUptoCard

/-- THE SECOND FORM's CARD OF 'constraintlaw12.TokenSymbols'. -/
def tokenSymbolsUptoCard : Claim7 := { stood := { row := tokenSymbolsUptoRow, standIns := [], harness := (true, "f117f17a49c15e5491d2cecef3955cc54ac21338c22fe209f8d98b2c487381e0"), looks := false }, kinds := [], alts := [], laidByText := true, laidKinds := [.data], laidTests := true, laidLooks := .later }
def TokenSymbolsUptoCardSaid : Prop := Claim7.holds Tryd.pinned (.plain (OpenSpec.upto tokenSymbolsSpec)) tokenSymbolsUptoCard

/-- THE SECOND FORM's CARD OF 'constraintlaw12.TokenSuffix'. -/
def tokenSuffixUptoCard : Claim7 := { stood := { row := tokenSuffixUptoRow, standIns := [], harness := (true, "f117f17a49c15e5491d2cecef3955cc54ac21338c22fe209f8d98b2c487381e0"), looks := false }, kinds := [], alts := [], laidByText := true, laidKinds := [.data], laidTests := true, laidLooks := .later }
def TokenSuffixUptoCardSaid : Prop := Claim7.holds Tryd.pinned (.plain (OpenSpec.upto tokenSuffixSpec)) tokenSuffixUptoCard
end Rows
end Go.Proofs.YtmahhaabhaigiaaDoor
