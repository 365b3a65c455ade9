/-
  No cell of these rows narrows 'for every input' (looked for: loops, veiled, ifaces, maps, wideKeys, modest, calm, conditions, laid).
  DERIVED. THE GIVEN ROWS OF THIS SEAT. 6 by the template 'for every input the law returns true; each argument reads behind the call as it read before'; 0 by the template 'total and deterministic' (their statements: YtbkdmmmgffpbeaaTotals.lean).
  GIVEN WITH THE SEED: the statements are not yours to turn. If you find one false, say at which input.
  Laid BY PROGRAM, IN A SANDBOX (cutbox-rows.mjs): the forced cells as the released guide's own fill.sh prints them over the translation fca81c9a7002898a… (all of the seat's roots in one cut). By AI agents, Wed Nov 11 2026. No macro, syntax, notation, axiom, sorry.
-/
import Derived.Test.YtbkdmmmgffpbeaaChecked
import GoSem.Claim
import GoSem.ClaimJoined
import GoSem.ClaimMapViews
import Derived.JoinedTies
import Derived.KernelRfl
namespace Go.Proofs.Ytbkdmmmgffpbeaa
/- THE CELL 'sum', in the pinned program and in every row, IS THE sha256 OF THE DUMP (.gsa) THAT YtbkdmmmgffpbeaaProg.lean LOADS. Nothing in Lean hashes anything: it is a label: what it is worth is what the hold of that sum in a sandbox is worth. -/
noncomputable def Try.pinned : Pinned := { name := "ytbkdmmmgffpbeaa", sum := "fca81c9a7002898a40e04bc8a34e48439568ed37c5c82180b4c567c349fbefb9", checked := Try.checked }
namespace Rows
def none {H : Type} : Left H := { results := [], args := [] }

/-- 'horariumlaw01.DigitsTells': WHATEVER THE INPUT: true; the input reads as it did. -/
def digitsTellsSpec : ChangeSpec := { name := "digitsTells", fn := fun _ => fun
  | [d1, d2, d3] => { results := [.lit (.bool true)], args := [d1, d2, d3] }
  | _ => none }
def digitsTellsRow : OpenClaim := { program := "ytbkdmmmgffpbeaa", sum := "fca81c9a7002898a40e04bc8a34e48439568ed37c5c82180b4c567c349fbefb9", func := "horarium/horariumlaw01.DigitsTells", spec := "digitsTells", apart := false }
def DigitsTellsSaid : Prop := digitsTellsRow.holds Try.pinned (OpenSpec.ofChange digitsTellsSpec)

/-- ITS FALSE NEIGHBOUR: 'it returns false'. Refute it at one input. -/
def digitsTellsWrong : ChangeSpec := { name := "digitsTells", fn := fun _ => fun
  | [d1, d2, d3] => { results := [.lit (.bool false)], args := [d1, d2, d3] }
  | _ => none }
def DigitsTellsWrongFalsely : Prop := digitsTellsRow.holds Try.pinned (OpenSpec.ofChange digitsTellsWrong)

/-- 'horariumlaw01.DigitsBack': WHATEVER THE INPUT: true; the input reads as it did. -/
def digitsBackSpec : ChangeSpec := { name := "digitsBack", fn := fun _ => fun
  | [d1, d2, d3] => { results := [.lit (.bool true)], args := [d1, d2, d3] }
  | _ => none }
def digitsBackRow : OpenClaim := { program := "ytbkdmmmgffpbeaa", sum := "fca81c9a7002898a40e04bc8a34e48439568ed37c5c82180b4c567c349fbefb9", func := "horarium/horariumlaw01.DigitsBack", spec := "digitsBack", apart := false }
def DigitsBackSaid : Prop := digitsBackRow.holds Try.pinned (OpenSpec.ofChange digitsBackSpec)

/-- ITS FALSE NEIGHBOUR: 'it returns false'. Refute it at one input. -/
def digitsBackWrong : ChangeSpec := { name := "digitsBack", fn := fun _ => fun
  | [d1, d2, d3] => { results := [.lit (.bool false)], args := [d1, d2, d3] }
  | _ => none }
def DigitsBackWrongFalsely : Prop := digitsBackRow.holds Try.pinned (OpenSpec.ofChange digitsBackWrong)

/-- 'horariumlaw01.DigitsOrder': WHATEVER THE INPUT: true; the input reads as it did. -/
def digitsOrderSpec : ChangeSpec := { name := "digitsOrder", fn := fun _ => fun
  | [d1, d2] => { results := [.lit (.bool true)], args := [d1, d2] }
  | _ => none }
def digitsOrderRow : OpenClaim := { program := "ytbkdmmmgffpbeaa", sum := "fca81c9a7002898a40e04bc8a34e48439568ed37c5c82180b4c567c349fbefb9", func := "horarium/horariumlaw01.DigitsOrder", spec := "digitsOrder", apart := false }
def DigitsOrderSaid : Prop := digitsOrderRow.holds Try.pinned (OpenSpec.ofChange digitsOrderSpec)

/-- ITS FALSE NEIGHBOUR: 'it returns false'. Refute it at one input. -/
def digitsOrderWrong : ChangeSpec := { name := "digitsOrder", fn := fun _ => fun
  | [d1, d2] => { results := [.lit (.bool false)], args := [d1, d2] }
  | _ => none }
def DigitsOrderWrongFalsely : Prop := digitsOrderRow.holds Try.pinned (OpenSpec.ofChange digitsOrderWrong)

/-- 'horariumlaw01.DigitsSums': WHATEVER THE INPUT: true; the input reads as it did. -/
def digitsSumsSpec : ChangeSpec := { name := "digitsSums", fn := fun _ => fun
  | [d1, d2] => { results := [.lit (.bool true)], args := [d1, d2] }
  | _ => none }
def digitsSumsRow : OpenClaim := { program := "ytbkdmmmgffpbeaa", sum := "fca81c9a7002898a40e04bc8a34e48439568ed37c5c82180b4c567c349fbefb9", func := "horarium/horariumlaw01.DigitsSums", spec := "digitsSums", apart := false }
def DigitsSumsSaid : Prop := digitsSumsRow.holds Try.pinned (OpenSpec.ofChange digitsSumsSpec)

/-- ITS FALSE NEIGHBOUR: 'it returns false'. Refute it at one input. -/
def digitsSumsWrong : ChangeSpec := { name := "digitsSums", fn := fun _ => fun
  | [d1, d2] => { results := [.lit (.bool false)], args := [d1, d2] }
  | _ => none }
def DigitsSumsWrongFalsely : Prop := digitsSumsRow.holds Try.pinned (OpenSpec.ofChange digitsSumsWrong)

/-- 'horariumlaw01.DigitsRing': WHATEVER THE INPUT: true; the input reads as it did. -/
def digitsRingSpec : ChangeSpec := { name := "digitsRing", fn := fun _ => fun
  | [d1, d2] => { results := [.lit (.bool true)], args := [d1, d2] }
  | _ => none }
def digitsRingRow : OpenClaim := { program := "ytbkdmmmgffpbeaa", sum := "fca81c9a7002898a40e04bc8a34e48439568ed37c5c82180b4c567c349fbefb9", func := "horarium/horariumlaw01.DigitsRing", spec := "digitsRing", apart := false }
def DigitsRingSaid : Prop := digitsRingRow.holds Try.pinned (OpenSpec.ofChange digitsRingSpec)

/-- ITS FALSE NEIGHBOUR: 'it returns false'. Refute it at one input. -/
def digitsRingWrong : ChangeSpec := { name := "digitsRing", fn := fun _ => fun
  | [d1, d2] => { results := [.lit (.bool false)], args := [d1, d2] }
  | _ => none }
def DigitsRingWrongFalsely : Prop := digitsRingRow.holds Try.pinned (OpenSpec.ofChange digitsRingWrong)

/-- 'horariumlaw01.DigitsWithin': WHATEVER THE INPUT: true; the input reads as it did. -/
def digitsWithinSpec : ChangeSpec := { name := "digitsWithin", fn := fun _ => fun
  | [d1, d2, d3] => { results := [.lit (.bool true)], args := [d1, d2, d3] }
  | _ => none }
def digitsWithinRow : OpenClaim := { program := "ytbkdmmmgffpbeaa", sum := "fca81c9a7002898a40e04bc8a34e48439568ed37c5c82180b4c567c349fbefb9", func := "horarium/horariumlaw01.DigitsWithin", spec := "digitsWithin", apart := false }
def DigitsWithinSaid : Prop := digitsWithinRow.holds Try.pinned (OpenSpec.ofChange digitsWithinSpec)

/-- ITS FALSE NEIGHBOUR: 'it returns false'. Refute it at one input. -/
def digitsWithinWrong : ChangeSpec := { name := "digitsWithin", fn := fun _ => fun
  | [d1, d2, d3] => { results := [.lit (.bool false)], args := [d1, d2, d3] }
  | _ => none }
def DigitsWithinWrongFalsely : Prop := digitsWithinRow.holds Try.pinned (OpenSpec.ofChange digitsWithinWrong)

/- THE SECOND FORM. 'bulk': how many values and letters a reading holds, each counted each time it is reached (what is shared counts as often as it is met; a slice's spare places count too). A statement '..UptoSaid' is the law's where the arguments, and the package variables that the reading takes, are together of bulk at most 1048576: NARROWER than '..Said'. Prove '..Said' where nothing that the law and all that it calls make is longer than what came in: it says more and counts as full. Else prove '..UptoSaid'. A law counts once. -/
mutual
def uptoBulk {H : Type} : DataW H → Nat
  | .lit (.string bytes) => bytes.length + 1
  | .lit _ => 1
  | .nil => 1
  | .ptr d => uptoBulk d + 1
  | .slice elems spare => uptoBulkAll elems + uptoBulkAll spare + 1
  | .agg parts => uptoBulkAll parts + 1
  | .iface _ d => uptoBulk d + 1
  | .map entries => uptoBulkEntries entries + 1
  | .held _ => 1
def uptoBulkAll {H : Type} : List (DataW H) → Nat
  | [] => 0
  | d :: r => uptoBulk d + uptoBulkAll r
def uptoBulkEntries {H : Type} : List (Lit × DataW H) → Nat
  | [] => 0
  | x :: r => uptoBulkEntry x + uptoBulkEntries r
def uptoBulkEntry {H : Type} : Lit × DataW H → Nat
  | (.string bytes, d) => bytes.length + uptoBulk d + 1
  | (_, d) => uptoBulk d + 1
 end
def uptoSmall : (H : Type) → List (DataW H) → Bool := fun _ ds => decide (uptoBulkAll ds ≤ 1048576)
def OpenSpec.upto (s : _root_.Go.ChangeSpec) : _root_.Go.OpenSpec := { _root_.Go.OpenSpec.ofChange s with cond := some uptoSmall }

/-- 'horariumlaw01.DigitsTells', WHERE WHAT IT READS IS OF BULK AT MOST 1048576: true; the input reads as it did. -/
def digitsTellsUptoRow : OpenClaim := { program := "ytbkdmmmgffpbeaa", sum := "fca81c9a7002898a40e04bc8a34e48439568ed37c5c82180b4c567c349fbefb9", func := "horarium/horariumlaw01.DigitsTells", spec := "digitsTells", apart := false, narrowed := true }
def DigitsTellsUptoSaid : Prop := digitsTellsUptoRow.holds Try.pinned (OpenSpec.upto digitsTellsSpec)

/-- 'horariumlaw01.DigitsBack', WHERE WHAT IT READS IS OF BULK AT MOST 1048576: true; the input reads as it did. -/
def digitsBackUptoRow : OpenClaim := { program := "ytbkdmmmgffpbeaa", sum := "fca81c9a7002898a40e04bc8a34e48439568ed37c5c82180b4c567c349fbefb9", func := "horarium/horariumlaw01.DigitsBack", spec := "digitsBack", apart := false, narrowed := true }
def DigitsBackUptoSaid : Prop := digitsBackUptoRow.holds Try.pinned (OpenSpec.upto digitsBackSpec)

/-- 'horariumlaw01.DigitsOrder', WHERE WHAT IT READS IS OF BULK AT MOST 1048576: true; the input reads as it did. -/
def digitsOrderUptoRow : OpenClaim := { program := "ytbkdmmmgffpbeaa", sum := "fca81c9a7002898a40e04bc8a34e48439568ed37c5c82180b4c567c349fbefb9", func := "horarium/horariumlaw01.DigitsOrder", spec := "digitsOrder", apart := false, narrowed := true }
def DigitsOrderUptoSaid : Prop := digitsOrderUptoRow.holds Try.pinned (OpenSpec.upto digitsOrderSpec)

/-- 'horariumlaw01.DigitsSums', WHERE WHAT IT READS IS OF BULK AT MOST 1048576: true; the input reads as it did. -/
def digitsSumsUptoRow : OpenClaim := { program := "ytbkdmmmgffpbeaa", sum := "fca81c9a7002898a40e04bc8a34e48439568ed37c5c82180b4c567c349fbefb9", func := "horarium/horariumlaw01.DigitsSums", spec := "digitsSums", apart := false, narrowed := true }
def DigitsSumsUptoSaid : Prop := digitsSumsUptoRow.holds Try.pinned (OpenSpec.upto digitsSumsSpec)

/-- 'horariumlaw01.DigitsRing', WHERE WHAT IT READS IS OF BULK AT MOST 1048576: true; the input reads as it did. -/
def digitsRingUptoRow : OpenClaim := { program := "ytbkdmmmgffpbeaa", sum := "fca81c9a7002898a40e04bc8a34e48439568ed37c5c82180b4c567c349fbefb9", func := "horarium/horariumlaw01.DigitsRing", spec := "digitsRing", apart := false, narrowed := true }
def DigitsRingUptoSaid : Prop := digitsRingUptoRow.holds Try.pinned (OpenSpec.upto digitsRingSpec)

/-- 'horariumlaw01.DigitsWithin', WHERE WHAT IT READS IS OF BULK AT MOST 1048576: true; the input reads as it did. -/
def digitsWithinUptoRow : OpenClaim := { program := "ytbkdmmmgffpbeaa", sum := "fca81c9a7002898a40e04bc8a34e48439568ed37c5c82180b4c567c349fbefb9", func := "horarium/horariumlaw01.DigitsWithin", spec := "digitsWithin", apart := false, narrowed := true }
def DigitsWithinUptoSaid : Prop := digitsWithinUptoRow.holds Try.pinned (OpenSpec.upto digitsWithinSpec)

end Rows
end Go.Proofs.Ytbkdmmmgffpbeaa
