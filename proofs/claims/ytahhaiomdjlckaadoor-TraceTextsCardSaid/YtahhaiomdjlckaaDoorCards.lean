/-
  DERIVED. GIVEN WITH THE SEED: THE CARDS: each row of YtahhaiomdjlckaaDoorRows.lean that lists a variable, with what it lists TIED to the program's text (the seventh form; the later family's looks); each row that meets fmt, with fmt's text TOLD by the authors' own Lean function (tested against real Go, not proved from fmt's source: count such statements apart). THE CARD IS WHAT COUNTS. Prove the row's statement (the work); the ties are given (YtahhaiomdjlckaaDoorTie.lean); close each card by the builder's one call (the guide's Derived/Test/ToyasCard.lean, 'card_holds'). Laid BY PROGRAM, IN A SANDBOX (cutbox-door.mjs). By AI agents, Wed Nov 11 2026. No macro, syntax, notation, axiom, sorry.
-/
import Derived.Test.YtahhaiomdjlckaaDoorRows
import GoSem.ClaimSeven
namespace Go.Proofs.YtahhaiomdjlckaaDoor
namespace Rows

/-- THE TIED CARD OF 'constraintlaw36.TraceTexts'. -/
def traceTextsCard : Claim7 := { stood := { row := traceTextsRow, standIns := [], harness := (true, "4bb922bd6070409cc5b913baf4386886c1cddbe1f4ec11c80f50bac869b27e0b"), looks := false }, kinds := [], alts := [], laidByText := true, laidKinds := [.data, .data, .data, .data, .pinned], laidTests := true, laidLooks := .later }
def TraceTextsCardSaid : Prop := Claim7.holds Tryd.pinned (.plain (OpenSpec.ofChange traceTextsSpec)) traceTextsCard

/-- THE TIED CARD OF 'constraintlaw36.TraceParses'. -/
def traceParsesCard : Claim7 := { stood := { row := traceParsesRow, standIns := [], harness := (true, "4bb922bd6070409cc5b913baf4386886c1cddbe1f4ec11c80f50bac869b27e0b"), looks := false }, kinds := [], alts := [], laidByText := true, laidKinds := [.data, .data, .data, .data, .pinned], laidTests := true, laidLooks := .later }
def TraceParsesCardSaid : Prop := Claim7.holds Tryd.pinned (.plain (OpenSpec.ofChange traceParsesSpec)) traceParsesCard

/-- THE TIED CARD OF 'constraintlaw36.TraceLists'. -/
def traceListsCard : Claim7 := { stood := { row := traceListsRow, standIns := [], harness := (true, "4bb922bd6070409cc5b913baf4386886c1cddbe1f4ec11c80f50bac869b27e0b"), looks := false }, kinds := [], alts := [], laidByText := true, laidKinds := [.data, .data, .data, .data, .pinned], laidTests := true, laidLooks := .later }
def TraceListsCardSaid : Prop := Claim7.holds Tryd.pinned (.plain (OpenSpec.ofChange traceListsSpec)) traceListsCard

/-- THE SECOND FORM's CARD OF 'constraintlaw36.TraceTexts'. -/
def traceTextsUptoCard : Claim7 := { stood := { row := traceTextsUptoRow, standIns := [], harness := (true, "4bb922bd6070409cc5b913baf4386886c1cddbe1f4ec11c80f50bac869b27e0b"), looks := false }, kinds := [], alts := [], laidByText := true, laidKinds := [.data, .data, .data, .data, .pinned], laidTests := true, laidLooks := .later }
def TraceTextsUptoCardSaid : Prop := Claim7.holds Tryd.pinned (.plain (OpenSpec.upto traceTextsSpec)) traceTextsUptoCard

/-- THE SECOND FORM's CARD OF 'constraintlaw36.TraceParses'. -/
def traceParsesUptoCard : Claim7 := { stood := { row := traceParsesUptoRow, standIns := [], harness := (true, "4bb922bd6070409cc5b913baf4386886c1cddbe1f4ec11c80f50bac869b27e0b"), looks := false }, kinds := [], alts := [], laidByText := true, laidKinds := [.data, .data, .data, .data, .pinned], laidTests := true, laidLooks := .later }
def TraceParsesUptoCardSaid : Prop := Claim7.holds Tryd.pinned (.plain (OpenSpec.upto traceParsesSpec)) traceParsesUptoCard

/-- THE SECOND FORM's CARD OF 'constraintlaw36.TraceLists'. -/
def traceListsUptoCard : Claim7 := { stood := { row := traceListsUptoRow, standIns := [], harness := (true, "4bb922bd6070409cc5b913baf4386886c1cddbe1f4ec11c80f50bac869b27e0b"), looks := false }, kinds := [], alts := [], laidByText := true, laidKinds := [.data, .data, .data, .data, .pinned], laidTests := true, laidLooks := .later }
def TraceListsUptoCardSaid : Prop := Claim7.holds Tryd.pinned (.plain (OpenSpec.upto traceListsSpec)) traceListsUptoCard
end Rows
end Go.Proofs.YtahhaiomdjlckaaDoor
