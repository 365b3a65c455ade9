/-
  DERIVED. GIVEN WITH THE SEED: THE CARDS: each row of YtklgecdklngekaaGreatDoorRows.lean that lists a variable, with what it lists TIED to the program's text (the seventh form; the later family's looks); each row that meets fmt, with fmt's text TOLD by the authors' own Lean function (tested against real Go, not proved from fmt's source: count such statements apart). THE CARD IS WHAT COUNTS. Prove the row's statement (the work); the ties are given (YtklgecdklngekaaGreatDoorTie.lean); close each card by the builder's one call (the guide's Derived/Test/ToyasCard.lean, 'card_holds'). Laid BY PROGRAM, IN A SANDBOX (cutbox-door.mjs). By AI agents, Wed Nov 11 2026. No macro, syntax, notation, axiom, sorry.
-/
import Derived.Test.YtklgecdklngekaaGreatDoorRows
import GoSem.ClaimSeven
namespace Go.Proofs.YtklgecdklngekaaGreatDoor
namespace Rows

/-- THE TIED CARD OF 'horariumlaw44.WishTells'. -/
def wishTellsCard : Claim7 := { stood := { row := wishTellsRow, standIns := [], harness := (true, "c5563f9b8de14963f26c39f07708f9f846448d92711b5c0aa1bfc54bc386078d"), looks := false }, kinds := [], alts := [], laidByText := true, laidKinds := [.data, .pinned], laidTests := true, laidLooks := .later }
def WishTellsCardSaid : Prop := Claim7.holds Tryz.pinned (.plain (OpenSpec.ofChange wishTellsSpec)) wishTellsCard

/-- THE SECOND FORM's CARD OF 'horariumlaw44.WishTells'. -/
def wishTellsUptoCard : Claim7 := { stood := { row := wishTellsUptoRow, standIns := [], harness := (true, "c5563f9b8de14963f26c39f07708f9f846448d92711b5c0aa1bfc54bc386078d"), looks := false }, kinds := [], alts := [], laidByText := true, laidKinds := [.data, .pinned], laidTests := true, laidLooks := .later }
def WishTellsUptoCardSaid : Prop := Claim7.holds Tryz.pinned (.plain (OpenSpec.upto wishTellsSpec)) wishTellsUptoCard
end Rows
end Go.Proofs.YtklgecdklngekaaGreatDoor
