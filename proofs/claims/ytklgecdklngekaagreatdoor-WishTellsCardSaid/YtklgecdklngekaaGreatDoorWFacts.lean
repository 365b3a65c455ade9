/- What the printed functions come to at the chapter's example. -/
import Derived.Test.YtklgecdklngekaaGreatDoorQx
namespace Go.Proofs.YtklgecdklngekaaGreatDoor.WFacts
set_option linter.unusedVariables false
open Go.RowKit Go.Proofs.YtklgecdklngekaaGreatDoorW.PrintWords Go.Proofs.YtklgecdklngekaaGreatDoorW.PrintLast Go.Proofs.YtklgecdklngekaaGreatDoor.Q
def away : ByteArray := ⟨#[97, 119, 97, 121]⟩
def zero : ByteArray := ⟨#[48]⟩
def wks : ByteArray := ⟨#[49, 45, 51]⟩
def m : ByteArray := ⟨#[109]⟩
def slots : ByteArray := ⟨#[49, 54, 43, 52]⟩
def time : ByteArray := ⟨#[49, 45, 51, 32, 109, 32, 49, 54, 43, 52]⟩
def line : ByteArray := ⟨#[97, 119, 97, 121, 32, 48, 32, 49, 45, 51, 32, 109, 32, 49, 54, 43, 52]⟩
theorem split : word_Split.f line = some ([away, zero, wks, m, slots], 0, 0) := by kernel_rfl
theorem kind : wish_kindOf.f 40 away = some (1, away, true, false, true, false, true) := by kernel_rfl
theorem num : digits_Parse.f 40 zero = some (0, 0) := by kernel_rfl
theorem parse : clock_Parse.f 60 4 5 40 (wks ++ ⟨#[32]⟩ ++ m ++ ⟨#[32]⟩ ++ slots) = some (7, 1, 16, 4, 0) := by kernel_rfl
theorem print : clock_Print.f 60 4 5 40 7 1 16 4 = some time := by kernel_rfl
theorem print0 : digits_Print.f 0 = some zero := by kernel_rfl
theorem cut : strings_Split.f time ⟨#[32]⟩ = some [wks, m, slots] := by kernel_rfl
theorem join : word_Join.f 60 [away, zero, wks, m, slots] = some line := by kernel_rfl
theorem form : wish_formOf.f 1 = some (away, true, false, true, false, true) := by kernel_rfl
theorem rightw : when_Right.f 4 5 40 7 1 16 4 = some true := by kernel_rfl
end Go.Proofs.YtklgecdklngekaaGreatDoor.WFacts
