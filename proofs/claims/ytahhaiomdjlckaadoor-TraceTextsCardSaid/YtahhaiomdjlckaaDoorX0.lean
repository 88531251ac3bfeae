/-
  trace: the examples, plainly.
-/
import Derived.Test.YtahhaiomdjlckaaDoorC4
namespace Go.Proofs.YtahhaiomdjlckaaDoor
set_option linter.unusedVariables false
set_option linter.unusedSimpArgs false
open Go.RowKit
set_option maxRecDepth 100000
def s1 : ByteArray := ⟨#[114, 101, 97, 99, 116, 105, 118, 97, 116, 101, 32, 50, 32, 45, 49]⟩
def s2 : ByteArray := ⟨#[100, 114, 111, 112, 32, 48, 49, 32, 49]⟩
def s3 : ByteArray := ⟨#[100, 114, 111, 112, 32, 48, 32, 49]⟩
theorem parts1 : partsB s1 = [⟨#[114, 101, 97, 99, 116, 105, 118, 97, 116, 101]⟩, ⟨#[50]⟩, ⟨#[45, 49]⟩] := by cbv
theorem parts2 : partsB s2 = [⟨#[100, 114, 111, 112]⟩, ⟨#[48, 49]⟩, ⟨#[49]⟩] := by cbv
theorem parts3 : partsB s3 = [⟨#[100, 114, 111, 112]⟩, ⟨#[48]⟩, ⟨#[49]⟩] := by cbv
theorem parse1 : parseP [⟨#[114, 101, 97, 99, 116, 105, 118, 97, 116, 101]⟩, ⟨#[50]⟩, ⟨#[45, 49]⟩] = (⟨3, 2, -1, 0, []⟩, 0) := by cbv
theorem parse2 : parseP [⟨#[100, 114, 111, 112]⟩, ⟨#[48, 49]⟩, ⟨#[49]⟩] = (⟨0, 0, 0, 0, []⟩, 16) := by cbv
theorem parse3 : parseP [⟨#[100, 114, 111, 112]⟩, ⟨#[48]⟩, ⟨#[49]⟩] = (⟨0, 0, 0, 0, []⟩, 5) := by cbv
theorem text1 : textB ⟨4, 3, 2, 1, [1, 4]⟩ = ⟨#[115, 105, 109, 112, 108, 105, 102, 121, 32, 51, 32, 50, 32, 49, 58, 32, 49, 32, 52]⟩ := by cbv
theorem text2 : textB ⟨1, 0, 0, 0, []⟩ = ⟨#[115, 111, 108, 118, 101]⟩ := by cbv
end Go.Proofs.YtahhaiomdjlckaaDoor
