/-
  No cell of these rows narrows 'for every input' (looked for: loops, veiled, ifaces, maps, wideKeys, modest, calm, conditions, laid).
  DERIVED. THE GIVEN ROWS OF THIS SEAT. 5 by the template 'for every input the law returns true; each argument reads behind the call as it read before'; 0 by the template 'total and deterministic' (their statements: YtdeefnhpechaiaaTotals.lean).
  GIVEN WITH THE SEED: the statements are not yours to turn. If you find one false, say at which input.
  Laid BY PROGRAM, IN A SANDBOX (cutbox-rows.mjs): the forced cells as the released guide's own fill.sh prints them over the translation 4e28546e0fa1af71… (all of the seat's roots in one cut). By AI agents, Wed Nov 11 2026. No macro, syntax, notation, axiom, sorry.
-/
import Derived.Test.YtdeefnhpechaiaaChecked
import GoSem.Claim
import GoSem.ClaimJoined
import GoSem.ClaimMapViews
import Derived.JoinedTies
import Derived.KernelRfl
namespace Go.Proofs.Ytdeefnhpechaiaa
/- THE CELL 'sum', in the pinned program and in every row, IS THE sha256 OF THE DUMP (.gsa) THAT YtdeefnhpechaiaaProg.lean LOADS. Nothing in Lean hashes anything: it is a label: what it is worth is what the hold of that sum in a sandbox is worth. -/
noncomputable def Try.pinned : Pinned := { name := "ytdeefnhpechaiaa", sum := "4e28546e0fa1af71a04653abbd8f8ed7e81edcce3c475658898ef9a956bd17b0", checked := Try.checked }
namespace Rows
def none {H : Type} : Left H := { results := [], args := [] }

/-- 'horariumlaw07.PilePops': WHATEVER THE INPUT: true; the input reads as it did. -/
def pilePopsSpec : ChangeSpec := { name := "pilePops", fn := fun _ => fun
  | [d] => { results := [.lit (.bool true)], args := [d] }
  | _ => none }
def pilePopsRow : OpenClaim := { program := "ytdeefnhpechaiaa", sum := "4e28546e0fa1af71a04653abbd8f8ed7e81edcce3c475658898ef9a956bd17b0", func := "horarium/horariumlaw07.PilePops", spec := "pilePops", apart := false }
def PilePopsSaid : Prop := pilePopsRow.holds Try.pinned (OpenSpec.ofChange pilePopsSpec)

/-- ITS FALSE NEIGHBOUR: 'it returns false'. Refute it at one input. -/
def pilePopsWrong : ChangeSpec := { name := "pilePops", fn := fun _ => fun
  | [d] => { results := [.lit (.bool false)], args := [d] }
  | _ => none }
def PilePopsWrongFalsely : Prop := pilePopsRow.holds Try.pinned (OpenSpec.ofChange pilePopsWrong)

/-- 'horariumlaw07.PileOrder': WHATEVER THE INPUT: true; the input reads as it did. -/
def pileOrderSpec : ChangeSpec := { name := "pileOrder", fn := fun _ => fun
  | [d] => { results := [.lit (.bool true)], args := [d] }
  | _ => none }
def pileOrderRow : OpenClaim := { program := "ytdeefnhpechaiaa", sum := "4e28546e0fa1af71a04653abbd8f8ed7e81edcce3c475658898ef9a956bd17b0", func := "horarium/horariumlaw07.PileOrder", spec := "pileOrder", apart := false }
def PileOrderSaid : Prop := pileOrderRow.holds Try.pinned (OpenSpec.ofChange pileOrderSpec)

/-- ITS FALSE NEIGHBOUR: 'it returns false'. Refute it at one input. -/
def pileOrderWrong : ChangeSpec := { name := "pileOrder", fn := fun _ => fun
  | [d] => { results := [.lit (.bool false)], args := [d] }
  | _ => none }
def PileOrderWrongFalsely : Prop := pileOrderRow.holds Try.pinned (OpenSpec.ofChange pileOrderWrong)

/-- 'horariumlaw07.PileLives': WHATEVER THE INPUT: true; the input reads as it did. -/
def pileLivesSpec : ChangeSpec := { name := "pileLives", fn := fun _ => fun
  | [d] => { results := [.lit (.bool true)], args := [d] }
  | _ => none }
def pileLivesRow : OpenClaim := { program := "ytdeefnhpechaiaa", sum := "4e28546e0fa1af71a04653abbd8f8ed7e81edcce3c475658898ef9a956bd17b0", func := "horarium/horariumlaw07.PileLives", spec := "pileLives", apart := false }
def PileLivesSaid : Prop := pileLivesRow.holds Try.pinned (OpenSpec.ofChange pileLivesSpec)

/-- ITS FALSE NEIGHBOUR: 'it returns false'. Refute it at one input. -/
def pileLivesWrong : ChangeSpec := { name := "pileLives", fn := fun _ => fun
  | [d] => { results := [.lit (.bool false)], args := [d] }
  | _ => none }
def PileLivesWrongFalsely : Prop := pileLivesRow.holds Try.pinned (OpenSpec.ofChange pileLivesWrong)

/-- 'horariumlaw07.PileMoves': WHATEVER THE INPUT: true; the input reads as it did. -/
def pileMovesSpec : ChangeSpec := { name := "pileMoves", fn := fun _ => fun
  | [d1, d2, d3, d4] => { results := [.lit (.bool true)], args := [d1, d2, d3, d4] }
  | _ => none }
def pileMovesRow : OpenClaim := { program := "ytdeefnhpechaiaa", sum := "4e28546e0fa1af71a04653abbd8f8ed7e81edcce3c475658898ef9a956bd17b0", func := "horarium/horariumlaw07.PileMoves", spec := "pileMoves", apart := false }
def PileMovesSaid : Prop := pileMovesRow.holds Try.pinned (OpenSpec.ofChange pileMovesSpec)

/-- ITS FALSE NEIGHBOUR: 'it returns false'. Refute it at one input. -/
def pileMovesWrong : ChangeSpec := { name := "pileMoves", fn := fun _ => fun
  | [d1, d2, d3, d4] => { results := [.lit (.bool false)], args := [d1, d2, d3, d4] }
  | _ => none }
def PileMovesWrongFalsely : Prop := pileMovesRow.holds Try.pinned (OpenSpec.ofChange pileMovesWrong)

/-- 'horariumlaw07.PileNobody': WHATEVER THE INPUT: true; the input reads as it did. -/
def pileNobodySpec : ChangeSpec := { name := "pileNobody", fn := fun _ => fun
  | [d1, d2] => { results := [.lit (.bool true)], args := [d1, d2] }
  | _ => none }
def pileNobodyRow : OpenClaim := { program := "ytdeefnhpechaiaa", sum := "4e28546e0fa1af71a04653abbd8f8ed7e81edcce3c475658898ef9a956bd17b0", func := "horarium/horariumlaw07.PileNobody", spec := "pileNobody", apart := false }
def PileNobodySaid : Prop := pileNobodyRow.holds Try.pinned (OpenSpec.ofChange pileNobodySpec)

/-- ITS FALSE NEIGHBOUR: 'it returns false'. Refute it at one input. -/
def pileNobodyWrong : ChangeSpec := { name := "pileNobody", fn := fun _ => fun
  | [d1, d2] => { results := [.lit (.bool false)], args := [d1, d2] }
  | _ => none }
def PileNobodyWrongFalsely : Prop := pileNobodyRow.holds Try.pinned (OpenSpec.ofChange pileNobodyWrong)

/- THE SECOND FORM. 'bulk': how many values and letters a reading holds, each counted each time it is reached (what is shared counts as often as it is met; a slice's spare places count too). A statement '..UptoSaid' is the law's where the arguments, and the package variables that the reading takes, are together of bulk at most 1048576: NARROWER than '..Said'. Prove '..Said' where nothing that the law and all that it calls make is longer than what came in: it says more and counts as full. Else prove '..UptoSaid'. A law counts once. -/
mutual
def uptoBulk {H : Type} : DataW H → Nat
  | .lit (.string bytes) => bytes.length + 1
  | .lit _ => 1
  | .nil => 1
  | .ptr d => uptoBulk d + 1
  | .slice elems spare => uptoBulkAll elems + uptoBulkAll spare + 1
  | .agg parts => uptoBulkAll parts + 1
  | .iface _ d => uptoBulk d + 1
  | .map entries => uptoBulkEntries entries + 1
  | .held _ => 1
def uptoBulkAll {H : Type} : List (DataW H) → Nat
  | [] => 0
  | d :: r => uptoBulk d + uptoBulkAll r
def uptoBulkEntries {H : Type} : List (Lit × DataW H) → Nat
  | [] => 0
  | x :: r => uptoBulkEntry x + uptoBulkEntries r
def uptoBulkEntry {H : Type} : Lit × DataW H → Nat
  | (.string bytes, d) => bytes.length + uptoBulk d + 1
  | (_, d) => uptoBulk d + 1
 end
def uptoSmall : (H : Type) → List (DataW H) → Bool := fun _ ds => decide (uptoBulkAll ds ≤ 1048576)
def OpenSpec.upto (s : _root_.Go.ChangeSpec) : _root_.Go.OpenSpec := { _root_.Go.OpenSpec.ofChange s with cond := some uptoSmall }

/-- 'horariumlaw07.PilePops', WHERE WHAT IT READS IS OF BULK AT MOST 1048576: true; the input reads as it did. -/
def pilePopsUptoRow : OpenClaim := { program := "ytdeefnhpechaiaa", sum := "4e28546e0fa1af71a04653abbd8f8ed7e81edcce3c475658898ef9a956bd17b0", func := "horarium/horariumlaw07.PilePops", spec := "pilePops", apart := false, narrowed := true }
def PilePopsUptoSaid : Prop := pilePopsUptoRow.holds Try.pinned (OpenSpec.upto pilePopsSpec)

/-- 'horariumlaw07.PileOrder', WHERE WHAT IT READS IS OF BULK AT MOST 1048576: true; the input reads as it did. -/
def pileOrderUptoRow : OpenClaim := { program := "ytdeefnhpechaiaa", sum := "4e28546e0fa1af71a04653abbd8f8ed7e81edcce3c475658898ef9a956bd17b0", func := "horarium/horariumlaw07.PileOrder", spec := "pileOrder", apart := false, narrowed := true }
def PileOrderUptoSaid : Prop := pileOrderUptoRow.holds Try.pinned (OpenSpec.upto pileOrderSpec)

/-- 'horariumlaw07.PileLives', WHERE WHAT IT READS IS OF BULK AT MOST 1048576: true; the input reads as it did. -/
def pileLivesUptoRow : OpenClaim := { program := "ytdeefnhpechaiaa", sum := "4e28546e0fa1af71a04653abbd8f8ed7e81edcce3c475658898ef9a956bd17b0", func := "horarium/horariumlaw07.PileLives", spec := "pileLives", apart := false, narrowed := true }
def PileLivesUptoSaid : Prop := pileLivesUptoRow.holds Try.pinned (OpenSpec.upto pileLivesSpec)

/-- 'horariumlaw07.PileMoves', WHERE WHAT IT READS IS OF BULK AT MOST 1048576: true; the input reads as it did. -/
def pileMovesUptoRow : OpenClaim := { program := "ytdeefnhpechaiaa", sum := "4e28546e0fa1af71a04653abbd8f8ed7e81edcce3c475658898ef9a956bd17b0", func := "horarium/horariumlaw07.PileMoves", spec := "pileMoves", apart := false, narrowed := true }
def PileMovesUptoSaid : Prop := pileMovesUptoRow.holds Try.pinned (OpenSpec.upto pileMovesSpec)

/-- 'horariumlaw07.PileNobody', WHERE WHAT IT READS IS OF BULK AT MOST 1048576: true; the input reads as it did. -/
def pileNobodyUptoRow : OpenClaim := { program := "ytdeefnhpechaiaa", sum := "4e28546e0fa1af71a04653abbd8f8ed7e81edcce3c475658898ef9a956bd17b0", func := "horarium/horariumlaw07.PileNobody", spec := "pileNobody", apart := false, narrowed := true }
def PileNobodyUptoSaid : Prop := pileNobodyUptoRow.holds Try.pinned (OpenSpec.upto pileNobodySpec)

end Rows
end Go.Proofs.Ytdeefnhpechaiaa
