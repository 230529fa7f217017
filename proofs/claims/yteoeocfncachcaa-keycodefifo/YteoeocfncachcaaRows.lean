/-
  No cell of these rows narrows 'for every input' (looked for: loops, veiled, ifaces, maps, wideKeys, modest, calm, conditions, laid).
  DERIVED. THE GIVEN ROWS OF THIS SEAT. 6 by the template 'for every input the law returns true; each argument reads behind the call as it read before'; 0 by the template 'total and deterministic' (their statements: YteoeocfncachcaaTotals.lean).
  GIVEN WITH THE SEED: the statements are not yours to turn. If you find one false, say at which input.
  Laid BY PROGRAM, IN A SANDBOX (cutbox-rows.mjs): the forced cells as the released guide's own fill.sh prints them over the translation d1b5c07fdb80a6da… (all of the seat's roots in one cut). By AI agents, Wed Nov 11 2026. No macro, syntax, notation, axiom, sorry.
-/
import Derived.Test.YteoeocfncachcaaChecked
import GoSem.Claim
import GoSem.ClaimJoined
import GoSem.ClaimMapViews
import Derived.JoinedTies
import Derived.KernelRfl
namespace Go.Proofs.Yteoeocfncachcaa
/- THE CELL 'sum', in the pinned program and in every row, IS THE sha256 OF THE DUMP (.gsa) THAT YteoeocfncachcaaProg.lean LOADS. Nothing in Lean hashes anything: it is a label: what it is worth is what the hold of that sum in a sandbox is worth. -/
noncomputable def Try.pinned : Pinned := { name := "yteoeocfncachcaa", sum := "d1b5c07fdb80a6da653b5f320ec8306433f0788942d0bb37b64a358f15434c2e", checked := Try.checked }
namespace Rows
def none {H : Type} : Left H := { results := [], args := [] }

/-- 'perilunelaw28.KeycodeCodes': WHATEVER THE INPUT: true; the input reads as it did. -/
def keycodeCodesSpec : ChangeSpec := { name := "keycodeCodes", fn := fun _ => fun
  | [] => { results := [.lit (.bool true)], args := [] }
  | _ => none }
def keycodeCodesRow : OpenClaim := { program := "yteoeocfncachcaa", sum := "d1b5c07fdb80a6da653b5f320ec8306433f0788942d0bb37b64a358f15434c2e", func := "perilune/perilunelaw28.KeycodeCodes", spec := "keycodeCodes", inPlace := ["internal/abi.NoEscape"], apart := false }
def KeycodeCodesSaid : Prop := keycodeCodesRow.holds Try.pinned (OpenSpec.ofChange keycodeCodesSpec)

/-- ITS FALSE NEIGHBOUR: 'it returns false'. Refute it at one input. -/
def keycodeCodesWrong : ChangeSpec := { name := "keycodeCodes", fn := fun _ => fun
  | [] => { results := [.lit (.bool false)], args := [] }
  | _ => none }
def KeycodeCodesWrongFalsely : Prop := keycodeCodesRow.holds Try.pinned (OpenSpec.ofChange keycodeCodesWrong)

/-- 'perilunelaw28.KeycodeTexts': WHATEVER THE INPUT: true; the input reads as it did. -/
def keycodeTextsSpec : ChangeSpec := { name := "keycodeTexts", fn := fun _ => fun
  | [d1, d2, d3] => { results := [.lit (.bool true)], args := [d1, d2, d3] }
  | _ => none }
def keycodeTextsRow : OpenClaim := { program := "yteoeocfncachcaa", sum := "d1b5c07fdb80a6da653b5f320ec8306433f0788942d0bb37b64a358f15434c2e", func := "perilune/perilunelaw28.KeycodeTexts", spec := "keycodeTexts", inPlace := ["internal/abi.NoEscape"], apart := false }
def KeycodeTextsSaid : Prop := keycodeTextsRow.holds Try.pinned (OpenSpec.ofChange keycodeTextsSpec)

/-- ITS FALSE NEIGHBOUR: 'it returns false'. Refute it at one input. -/
def keycodeTextsWrong : ChangeSpec := { name := "keycodeTexts", fn := fun _ => fun
  | [d1, d2, d3] => { results := [.lit (.bool false)], args := [d1, d2, d3] }
  | _ => none }
def KeycodeTextsWrongFalsely : Prop := keycodeTextsRow.holds Try.pinned (OpenSpec.ofChange keycodeTextsWrong)

/-- 'perilunelaw28.KeycodeRound': WHATEVER THE INPUT: true; the input reads as it did. -/
def keycodeRoundSpec : ChangeSpec := { name := "keycodeRound", fn := fun _ => fun
  | [d] => { results := [.lit (.bool true)], args := [d] }
  | _ => none }
def keycodeRoundRow : OpenClaim := { program := "yteoeocfncachcaa", sum := "d1b5c07fdb80a6da653b5f320ec8306433f0788942d0bb37b64a358f15434c2e", func := "perilune/perilunelaw28.KeycodeRound", spec := "keycodeRound", inPlace := ["internal/abi.NoEscape"], apart := false }
def KeycodeRoundSaid : Prop := keycodeRoundRow.holds Try.pinned (OpenSpec.ofChange keycodeRoundSpec)

/-- ITS FALSE NEIGHBOUR: 'it returns false'. Refute it at one input. -/
def keycodeRoundWrong : ChangeSpec := { name := "keycodeRound", fn := fun _ => fun
  | [d] => { results := [.lit (.bool false)], args := [d] }
  | _ => none }
def KeycodeRoundWrongFalsely : Prop := keycodeRoundRow.holds Try.pinned (OpenSpec.ofChange keycodeRoundWrong)

/-- 'perilunelaw28.KeycodeQueues': WHATEVER THE INPUT: true; the input reads as it did. -/
def keycodeQueuesSpec : ChangeSpec := { name := "keycodeQueues", fn := fun _ => fun
  | [d1, d2] => { results := [.lit (.bool true)], args := [d1, d2] }
  | _ => none }
def keycodeQueuesRow : OpenClaim := { program := "yteoeocfncachcaa", sum := "d1b5c07fdb80a6da653b5f320ec8306433f0788942d0bb37b64a358f15434c2e", func := "perilune/perilunelaw28.KeycodeQueues", spec := "keycodeQueues", inPlace := ["internal/abi.NoEscape"], apart := false }
def KeycodeQueuesSaid : Prop := keycodeQueuesRow.holds Try.pinned (OpenSpec.ofChange keycodeQueuesSpec)

/-- ITS FALSE NEIGHBOUR: 'it returns false'. Refute it at one input. -/
def keycodeQueuesWrong : ChangeSpec := { name := "keycodeQueues", fn := fun _ => fun
  | [d1, d2] => { results := [.lit (.bool false)], args := [d1, d2] }
  | _ => none }
def KeycodeQueuesWrongFalsely : Prop := keycodeQueuesRow.holds Try.pinned (OpenSpec.ofChange keycodeQueuesWrong)

/-- 'perilunelaw28.KeycodeFifo': WHATEVER THE INPUT: true; the input reads as it did. -/
def keycodeFifoSpec : ChangeSpec := { name := "keycodeFifo", fn := fun _ => fun
  | [d] => { results := [.lit (.bool true)], args := [d] }
  | _ => none }
def keycodeFifoRow : OpenClaim := { program := "yteoeocfncachcaa", sum := "d1b5c07fdb80a6da653b5f320ec8306433f0788942d0bb37b64a358f15434c2e", func := "perilune/perilunelaw28.KeycodeFifo", spec := "keycodeFifo", inPlace := ["internal/abi.NoEscape"], apart := false }
def KeycodeFifoSaid : Prop := keycodeFifoRow.holds Try.pinned (OpenSpec.ofChange keycodeFifoSpec)

/-- ITS FALSE NEIGHBOUR: 'it returns false'. Refute it at one input. -/
def keycodeFifoWrong : ChangeSpec := { name := "keycodeFifo", fn := fun _ => fun
  | [d] => { results := [.lit (.bool false)], args := [d] }
  | _ => none }
def KeycodeFifoWrongFalsely : Prop := keycodeFifoRow.holds Try.pinned (OpenSpec.ofChange keycodeFifoWrong)

/-- 'perilunelaw28.KeycodeKnown': WHATEVER THE INPUT: true; the input reads as it did. -/
def keycodeKnownSpec : ChangeSpec := { name := "keycodeKnown", fn := fun _ => fun
  | [] => { results := [.lit (.bool true)], args := [] }
  | _ => none }
def keycodeKnownRow : OpenClaim := { program := "yteoeocfncachcaa", sum := "d1b5c07fdb80a6da653b5f320ec8306433f0788942d0bb37b64a358f15434c2e", func := "perilune/perilunelaw28.KeycodeKnown", spec := "keycodeKnown", inPlace := ["internal/abi.NoEscape"], apart := false }
def KeycodeKnownSaid : Prop := keycodeKnownRow.holds Try.pinned (OpenSpec.ofChange keycodeKnownSpec)

/-- ITS FALSE NEIGHBOUR: 'it returns false'. Refute it at one input. -/
def keycodeKnownWrong : ChangeSpec := { name := "keycodeKnown", fn := fun _ => fun
  | [] => { results := [.lit (.bool false)], args := [] }
  | _ => none }
def KeycodeKnownWrongFalsely : Prop := keycodeKnownRow.holds Try.pinned (OpenSpec.ofChange keycodeKnownWrong)

/- THE SECOND FORM. 'bulk': how many values and letters a reading holds, each counted each time it is reached (what is shared counts as often as it is met; a slice's spare places count too). A statement '..UptoSaid' is the law's where the arguments, and the package variables that the reading takes, are together of bulk at most 1048576: NARROWER than '..Said'. Prove '..Said' where nothing that the law and all that it calls make is longer than what came in: it says more and counts as full. Else prove '..UptoSaid'. A law counts once. -/
mutual
def uptoBulk {H : Type} : DataW H → Nat
  | .lit (.string bytes) => bytes.length + 1
  | .lit _ => 1
  | .nil => 1
  | .ptr d => uptoBulk d + 1
  | .slice elems spare => uptoBulkAll elems + uptoBulkAll spare + 1
  | .agg parts => uptoBulkAll parts + 1
  | .iface _ d => uptoBulk d + 1
  | .map entries => uptoBulkEntries entries + 1
  | .held _ => 1
def uptoBulkAll {H : Type} : List (DataW H) → Nat
  | [] => 0
  | d :: r => uptoBulk d + uptoBulkAll r
def uptoBulkEntries {H : Type} : List (Lit × DataW H) → Nat
  | [] => 0
  | x :: r => uptoBulkEntry x + uptoBulkEntries r
def uptoBulkEntry {H : Type} : Lit × DataW H → Nat
  | (.string bytes, d) => bytes.length + uptoBulk d + 1
  | (_, d) => uptoBulk d + 1
 end
def uptoSmall : (H : Type) → List (DataW H) → Bool := fun _ ds => decide (uptoBulkAll ds ≤ 1048576)
def OpenSpec.upto (s : _root_.Go.ChangeSpec) : _root_.Go.OpenSpec := { _root_.Go.OpenSpec.ofChange s with cond := some uptoSmall }

/-- 'perilunelaw28.KeycodeCodes', WHERE WHAT IT READS IS OF BULK AT MOST 1048576: true; the input reads as it did. -/
def keycodeCodesUptoRow : OpenClaim := { program := "yteoeocfncachcaa", sum := "d1b5c07fdb80a6da653b5f320ec8306433f0788942d0bb37b64a358f15434c2e", func := "perilune/perilunelaw28.KeycodeCodes", spec := "keycodeCodes", inPlace := ["internal/abi.NoEscape"], apart := false, narrowed := true }
def KeycodeCodesUptoSaid : Prop := keycodeCodesUptoRow.holds Try.pinned (OpenSpec.upto keycodeCodesSpec)

/-- 'perilunelaw28.KeycodeTexts', WHERE WHAT IT READS IS OF BULK AT MOST 1048576: true; the input reads as it did. -/
def keycodeTextsUptoRow : OpenClaim := { program := "yteoeocfncachcaa", sum := "d1b5c07fdb80a6da653b5f320ec8306433f0788942d0bb37b64a358f15434c2e", func := "perilune/perilunelaw28.KeycodeTexts", spec := "keycodeTexts", inPlace := ["internal/abi.NoEscape"], apart := false, narrowed := true }
def KeycodeTextsUptoSaid : Prop := keycodeTextsUptoRow.holds Try.pinned (OpenSpec.upto keycodeTextsSpec)

/-- 'perilunelaw28.KeycodeRound', WHERE WHAT IT READS IS OF BULK AT MOST 1048576: true; the input reads as it did. -/
def keycodeRoundUptoRow : OpenClaim := { program := "yteoeocfncachcaa", sum := "d1b5c07fdb80a6da653b5f320ec8306433f0788942d0bb37b64a358f15434c2e", func := "perilune/perilunelaw28.KeycodeRound", spec := "keycodeRound", inPlace := ["internal/abi.NoEscape"], apart := false, narrowed := true }
def KeycodeRoundUptoSaid : Prop := keycodeRoundUptoRow.holds Try.pinned (OpenSpec.upto keycodeRoundSpec)

/-- 'perilunelaw28.KeycodeQueues', WHERE WHAT IT READS IS OF BULK AT MOST 1048576: true; the input reads as it did. -/
def keycodeQueuesUptoRow : OpenClaim := { program := "yteoeocfncachcaa", sum := "d1b5c07fdb80a6da653b5f320ec8306433f0788942d0bb37b64a358f15434c2e", func := "perilune/perilunelaw28.KeycodeQueues", spec := "keycodeQueues", inPlace := ["internal/abi.NoEscape"], apart := false, narrowed := true }
def KeycodeQueuesUptoSaid : Prop := keycodeQueuesUptoRow.holds Try.pinned (OpenSpec.upto keycodeQueuesSpec)

/-- 'perilunelaw28.KeycodeFifo', WHERE WHAT IT READS IS OF BULK AT MOST 1048576: true; the input reads as it did. -/
def keycodeFifoUptoRow : OpenClaim := { program := "yteoeocfncachcaa", sum := "d1b5c07fdb80a6da653b5f320ec8306433f0788942d0bb37b64a358f15434c2e", func := "perilune/perilunelaw28.KeycodeFifo", spec := "keycodeFifo", inPlace := ["internal/abi.NoEscape"], apart := false, narrowed := true }
def KeycodeFifoUptoSaid : Prop := keycodeFifoUptoRow.holds Try.pinned (OpenSpec.upto keycodeFifoSpec)

/-- 'perilunelaw28.KeycodeKnown', WHERE WHAT IT READS IS OF BULK AT MOST 1048576: true; the input reads as it did. -/
def keycodeKnownUptoRow : OpenClaim := { program := "yteoeocfncachcaa", sum := "d1b5c07fdb80a6da653b5f320ec8306433f0788942d0bb37b64a358f15434c2e", func := "perilune/perilunelaw28.KeycodeKnown", spec := "keycodeKnown", inPlace := ["internal/abi.NoEscape"], apart := false, narrowed := true }
def KeycodeKnownUptoSaid : Prop := keycodeKnownUptoRow.holds Try.pinned (OpenSpec.upto keycodeKnownSpec)

end Rows
end Go.Proofs.Yteoeocfncachcaa
