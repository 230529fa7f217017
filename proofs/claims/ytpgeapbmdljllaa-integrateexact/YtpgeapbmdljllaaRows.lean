/-
  No cell of these rows narrows 'for every input' (looked for: loops, veiled, ifaces, maps, wideKeys, modest, calm, conditions, laid).
  DERIVED. THE GIVEN ROWS OF THIS SEAT. 9 by the template 'for every input the law returns true; each argument reads behind the call as it read before'; 0 by the template 'total and deterministic' (their statements: YtpgeapbmdljllaaTotals.lean).
  GIVEN WITH THE SEED: the statements are not yours to turn. If you find one false, say at which input.
  Laid BY PROGRAM, IN A SANDBOX (cutbox-rows.mjs): the forced cells as the released guide's own fill.sh prints them over the translation 3adf50870f8ce8ac… (all of the seat's roots in one cut). By AI agents, Wed Nov 11 2026. No macro, syntax, notation, axiom, sorry.
-/
import Derived.Test.YtpgeapbmdljllaaChecked
import GoSem.Claim
import GoSem.ClaimJoined
import GoSem.ClaimMapViews
import Derived.JoinedTies
import Derived.KernelRfl
namespace Go.Proofs.Ytpgeapbmdljllaa
/- THE CELL 'sum', in the pinned program and in every row, IS THE sha256 OF THE DUMP (.gsa) THAT YtpgeapbmdljllaaProg.lean LOADS. Nothing in Lean hashes anything: it is a label: what it is worth is what the hold of that sum in a sandbox is worth. -/
noncomputable def Try.pinned : Pinned := { name := "ytpgeapbmdljllaa", sum := "3adf50870f8ce8ac02eeebf8ab7389b5bc75f28971832775862786c17c79d8e6", checked := Try.checked }
namespace Rows
def none {H : Type} : Left H := { results := [], args := [] }

/-- 'perilunelaw33.IntegrateSteps': WHATEVER THE INPUT: true; the input reads as it did. -/
def integrateStepsSpec : ChangeSpec := { name := "integrateSteps", fn := fun _ => fun
  | [d1, d2, d3] => { results := [.lit (.bool true)], args := [d1, d2, d3] }
  | _ => none }
def integrateStepsRow : OpenClaim := { program := "ytpgeapbmdljllaa", sum := "3adf50870f8ce8ac02eeebf8ab7389b5bc75f28971832775862786c17c79d8e6", func := "perilune/perilunelaw33.IntegrateSteps", spec := "integrateSteps", unfollowed := true, recurses := true, apart := false }
def IntegrateStepsSaid : Prop := integrateStepsRow.holds Try.pinned (OpenSpec.ofChange integrateStepsSpec)

/-- ITS FALSE NEIGHBOUR: 'it returns false'. Refute it at one input. -/
def integrateStepsWrong : ChangeSpec := { name := "integrateSteps", fn := fun _ => fun
  | [d1, d2, d3] => { results := [.lit (.bool false)], args := [d1, d2, d3] }
  | _ => none }
def IntegrateStepsWrongFalsely : Prop := integrateStepsRow.holds Try.pinned (OpenSpec.ofChange integrateStepsWrong)

/-- 'perilunelaw33.IntegrateBounds': WHATEVER THE INPUT: true; the input reads as it did. -/
def integrateBoundsSpec : ChangeSpec := { name := "integrateBounds", fn := fun _ => fun
  | [d1, d2] => { results := [.lit (.bool true)], args := [d1, d2] }
  | _ => none }
def integrateBoundsRow : OpenClaim := { program := "ytpgeapbmdljllaa", sum := "3adf50870f8ce8ac02eeebf8ab7389b5bc75f28971832775862786c17c79d8e6", func := "perilune/perilunelaw33.IntegrateBounds", spec := "integrateBounds", unfollowed := true, recurses := true, apart := false }
def IntegrateBoundsSaid : Prop := integrateBoundsRow.holds Try.pinned (OpenSpec.ofChange integrateBoundsSpec)

/-- ITS FALSE NEIGHBOUR: 'it returns false'. Refute it at one input. -/
def integrateBoundsWrong : ChangeSpec := { name := "integrateBounds", fn := fun _ => fun
  | [d1, d2] => { results := [.lit (.bool false)], args := [d1, d2] }
  | _ => none }
def IntegrateBoundsWrongFalsely : Prop := integrateBoundsRow.holds Try.pinned (OpenSpec.ofChange integrateBoundsWrong)

/-- 'perilunelaw33.IntegrateRuns': WHATEVER THE INPUT: true; the input reads as it did. -/
def integrateRunsSpec : ChangeSpec := { name := "integrateRuns", fn := fun _ => fun
  | [d1, d2, d3] => { results := [.lit (.bool true)], args := [d1, d2, d3] }
  | _ => none }
def integrateRunsRow : OpenClaim := { program := "ytpgeapbmdljllaa", sum := "3adf50870f8ce8ac02eeebf8ab7389b5bc75f28971832775862786c17c79d8e6", func := "perilune/perilunelaw33.IntegrateRuns", spec := "integrateRuns", unfollowed := true, recurses := true, apart := false }
def IntegrateRunsSaid : Prop := integrateRunsRow.holds Try.pinned (OpenSpec.ofChange integrateRunsSpec)

/-- ITS FALSE NEIGHBOUR: 'it returns false'. Refute it at one input. -/
def integrateRunsWrong : ChangeSpec := { name := "integrateRuns", fn := fun _ => fun
  | [d1, d2, d3] => { results := [.lit (.bool false)], args := [d1, d2, d3] }
  | _ => none }
def IntegrateRunsWrongFalsely : Prop := integrateRunsRow.holds Try.pinned (OpenSpec.ofChange integrateRunsWrong)

/-- 'perilunelaw33.IntegrateError': WHATEVER THE INPUT: true; the input reads as it did. -/
def integrateErrorSpec : ChangeSpec := { name := "integrateError", fn := fun _ => fun
  | [d1, d2, d3] => { results := [.lit (.bool true)], args := [d1, d2, d3] }
  | _ => none }
def integrateErrorRow : OpenClaim := { program := "ytpgeapbmdljllaa", sum := "3adf50870f8ce8ac02eeebf8ab7389b5bc75f28971832775862786c17c79d8e6", func := "perilune/perilunelaw33.IntegrateError", spec := "integrateError", unfollowed := true, recurses := true, apart := false }
def IntegrateErrorSaid : Prop := integrateErrorRow.holds Try.pinned (OpenSpec.ofChange integrateErrorSpec)

/-- ITS FALSE NEIGHBOUR: 'it returns false'. Refute it at one input. -/
def integrateErrorWrong : ChangeSpec := { name := "integrateError", fn := fun _ => fun
  | [d1, d2, d3] => { results := [.lit (.bool false)], args := [d1, d2, d3] }
  | _ => none }
def IntegrateErrorWrongFalsely : Prop := integrateErrorRow.holds Try.pinned (OpenSpec.ofChange integrateErrorWrong)

/-- 'perilunelaw33.IntegrateDivides': WHATEVER THE INPUT: true; the input reads as it did. -/
def integrateDividesSpec : ChangeSpec := { name := "integrateDivides", fn := fun _ => fun
  | [d1, d2, d3, d4] => { results := [.lit (.bool true)], args := [d1, d2, d3, d4] }
  | _ => none }
def integrateDividesRow : OpenClaim := { program := "ytpgeapbmdljllaa", sum := "3adf50870f8ce8ac02eeebf8ab7389b5bc75f28971832775862786c17c79d8e6", func := "perilune/perilunelaw33.IntegrateDivides", spec := "integrateDivides", unfollowed := true, recurses := true, apart := false }
def IntegrateDividesSaid : Prop := integrateDividesRow.holds Try.pinned (OpenSpec.ofChange integrateDividesSpec)

/-- ITS FALSE NEIGHBOUR: 'it returns false'. Refute it at one input. -/
def integrateDividesWrong : ChangeSpec := { name := "integrateDivides", fn := fun _ => fun
  | [d1, d2, d3, d4] => { results := [.lit (.bool false)], args := [d1, d2, d3, d4] }
  | _ => none }
def IntegrateDividesWrongFalsely : Prop := integrateDividesRow.holds Try.pinned (OpenSpec.ofChange integrateDividesWrong)

/-- 'perilunelaw33.IntegrateFree': WHATEVER THE INPUT: true; the input reads as it did. -/
def integrateFreeSpec : ChangeSpec := { name := "integrateFree", fn := fun _ => fun
  | [d1, d2, d3] => { results := [.lit (.bool true)], args := [d1, d2, d3] }
  | _ => none }
def integrateFreeRow : OpenClaim := { program := "ytpgeapbmdljllaa", sum := "3adf50870f8ce8ac02eeebf8ab7389b5bc75f28971832775862786c17c79d8e6", func := "perilune/perilunelaw33.IntegrateFree", spec := "integrateFree", unfollowed := true, recurses := true, apart := false }
def IntegrateFreeSaid : Prop := integrateFreeRow.holds Try.pinned (OpenSpec.ofChange integrateFreeSpec)

/-- ITS FALSE NEIGHBOUR: 'it returns false'. Refute it at one input. -/
def integrateFreeWrong : ChangeSpec := { name := "integrateFree", fn := fun _ => fun
  | [d1, d2, d3] => { results := [.lit (.bool false)], args := [d1, d2, d3] }
  | _ => none }
def IntegrateFreeWrongFalsely : Prop := integrateFreeRow.holds Try.pinned (OpenSpec.ofChange integrateFreeWrong)

/-- 'perilunelaw33.IntegrateKnown': WHATEVER THE INPUT: true; the input reads as it did. -/
def integrateKnownSpec : ChangeSpec := { name := "integrateKnown", fn := fun _ => fun
  | [] => { results := [.lit (.bool true)], args := [] }
  | _ => none }
def integrateKnownRow : OpenClaim := { program := "ytpgeapbmdljllaa", sum := "3adf50870f8ce8ac02eeebf8ab7389b5bc75f28971832775862786c17c79d8e6", func := "perilune/perilunelaw33.IntegrateKnown", spec := "integrateKnown", unfollowed := true, recurses := true, apart := false }
def IntegrateKnownSaid : Prop := integrateKnownRow.holds Try.pinned (OpenSpec.ofChange integrateKnownSpec)

/-- ITS FALSE NEIGHBOUR: 'it returns false'. Refute it at one input. -/
def integrateKnownWrong : ChangeSpec := { name := "integrateKnown", fn := fun _ => fun
  | [] => { results := [.lit (.bool false)], args := [] }
  | _ => none }
def IntegrateKnownWrongFalsely : Prop := integrateKnownRow.holds Try.pinned (OpenSpec.ofChange integrateKnownWrong)

/-- 'perilunelaw33.IntegrateTurned': WHATEVER THE INPUT: true; the input reads as it did. -/
def integrateTurnedSpec : ChangeSpec := { name := "integrateTurned", fn := fun _ => fun
  | [d1, d2, d3] => { results := [.lit (.bool true)], args := [d1, d2, d3] }
  | _ => none }
def integrateTurnedRow : OpenClaim := { program := "ytpgeapbmdljllaa", sum := "3adf50870f8ce8ac02eeebf8ab7389b5bc75f28971832775862786c17c79d8e6", func := "perilune/perilunelaw33.IntegrateTurned", spec := "integrateTurned", unfollowed := true, recurses := true, apart := false }
def IntegrateTurnedSaid : Prop := integrateTurnedRow.holds Try.pinned (OpenSpec.ofChange integrateTurnedSpec)

/-- ITS FALSE NEIGHBOUR: 'it returns false'. Refute it at one input. -/
def integrateTurnedWrong : ChangeSpec := { name := "integrateTurned", fn := fun _ => fun
  | [d1, d2, d3] => { results := [.lit (.bool false)], args := [d1, d2, d3] }
  | _ => none }
def IntegrateTurnedWrongFalsely : Prop := integrateTurnedRow.holds Try.pinned (OpenSpec.ofChange integrateTurnedWrong)

/-- 'perilunelaw33.IntegrateExact': WHATEVER THE INPUT: true; the input reads as it did. -/
def integrateExactSpec : ChangeSpec := { name := "integrateExact", fn := fun _ => fun
  | [d1, d2, d3] => { results := [.lit (.bool true)], args := [d1, d2, d3] }
  | _ => none }
def integrateExactRow : OpenClaim := { program := "ytpgeapbmdljllaa", sum := "3adf50870f8ce8ac02eeebf8ab7389b5bc75f28971832775862786c17c79d8e6", func := "perilune/perilunelaw33.IntegrateExact", spec := "integrateExact", unfollowed := true, recurses := true, apart := false }
def IntegrateExactSaid : Prop := integrateExactRow.holds Try.pinned (OpenSpec.ofChange integrateExactSpec)

/-- ITS FALSE NEIGHBOUR: 'it returns false'. Refute it at one input. -/
def integrateExactWrong : ChangeSpec := { name := "integrateExact", fn := fun _ => fun
  | [d1, d2, d3] => { results := [.lit (.bool false)], args := [d1, d2, d3] }
  | _ => none }
def IntegrateExactWrongFalsely : Prop := integrateExactRow.holds Try.pinned (OpenSpec.ofChange integrateExactWrong)

/- THE SECOND FORM. 'bulk': how many values and letters a reading holds, each counted each time it is reached (what is shared counts as often as it is met; a slice's spare places count too). A statement '..UptoSaid' is the law's where the arguments, and the package variables that the reading takes, are together of bulk at most 1048576: NARROWER than '..Said'. Prove '..Said' where nothing that the law and all that it calls make is longer than what came in: it says more and counts as full. Else prove '..UptoSaid'. A law counts once. -/
mutual
def uptoBulk {H : Type} : DataW H → Nat
  | .lit (.string bytes) => bytes.length + 1
  | .lit _ => 1
  | .nil => 1
  | .ptr d => uptoBulk d + 1
  | .slice elems spare => uptoBulkAll elems + uptoBulkAll spare + 1
  | .agg parts => uptoBulkAll parts + 1
  | .iface _ d => uptoBulk d + 1
  | .map entries => uptoBulkEntries entries + 1
  | .held _ => 1
def uptoBulkAll {H : Type} : List (DataW H) → Nat
  | [] => 0
  | d :: r => uptoBulk d + uptoBulkAll r
def uptoBulkEntries {H : Type} : List (Lit × DataW H) → Nat
  | [] => 0
  | x :: r => uptoBulkEntry x + uptoBulkEntries r
def uptoBulkEntry {H : Type} : Lit × DataW H → Nat
  | (.string bytes, d) => bytes.length + uptoBulk d + 1
  | (_, d) => uptoBulk d + 1
 end
def uptoSmall : (H : Type) → List (DataW H) → Bool := fun _ ds => decide (uptoBulkAll ds ≤ 1048576)
def OpenSpec.upto (s : _root_.Go.ChangeSpec) : _root_.Go.OpenSpec := { _root_.Go.OpenSpec.ofChange s with cond := some uptoSmall }

/-- 'perilunelaw33.IntegrateSteps', WHERE WHAT IT READS IS OF BULK AT MOST 1048576: true; the input reads as it did. -/
def integrateStepsUptoRow : OpenClaim := { program := "ytpgeapbmdljllaa", sum := "3adf50870f8ce8ac02eeebf8ab7389b5bc75f28971832775862786c17c79d8e6", func := "perilune/perilunelaw33.IntegrateSteps", spec := "integrateSteps", unfollowed := true, recurses := true, apart := false, narrowed := true }
def IntegrateStepsUptoSaid : Prop := integrateStepsUptoRow.holds Try.pinned (OpenSpec.upto integrateStepsSpec)

/-- 'perilunelaw33.IntegrateBounds', WHERE WHAT IT READS IS OF BULK AT MOST 1048576: true; the input reads as it did. -/
def integrateBoundsUptoRow : OpenClaim := { program := "ytpgeapbmdljllaa", sum := "3adf50870f8ce8ac02eeebf8ab7389b5bc75f28971832775862786c17c79d8e6", func := "perilune/perilunelaw33.IntegrateBounds", spec := "integrateBounds", unfollowed := true, recurses := true, apart := false, narrowed := true }
def IntegrateBoundsUptoSaid : Prop := integrateBoundsUptoRow.holds Try.pinned (OpenSpec.upto integrateBoundsSpec)

/-- 'perilunelaw33.IntegrateRuns', WHERE WHAT IT READS IS OF BULK AT MOST 1048576: true; the input reads as it did. -/
def integrateRunsUptoRow : OpenClaim := { program := "ytpgeapbmdljllaa", sum := "3adf50870f8ce8ac02eeebf8ab7389b5bc75f28971832775862786c17c79d8e6", func := "perilune/perilunelaw33.IntegrateRuns", spec := "integrateRuns", unfollowed := true, recurses := true, apart := false, narrowed := true }
def IntegrateRunsUptoSaid : Prop := integrateRunsUptoRow.holds Try.pinned (OpenSpec.upto integrateRunsSpec)

/-- 'perilunelaw33.IntegrateError', WHERE WHAT IT READS IS OF BULK AT MOST 1048576: true; the input reads as it did. -/
def integrateErrorUptoRow : OpenClaim := { program := "ytpgeapbmdljllaa", sum := "3adf50870f8ce8ac02eeebf8ab7389b5bc75f28971832775862786c17c79d8e6", func := "perilune/perilunelaw33.IntegrateError", spec := "integrateError", unfollowed := true, recurses := true, apart := false, narrowed := true }
def IntegrateErrorUptoSaid : Prop := integrateErrorUptoRow.holds Try.pinned (OpenSpec.upto integrateErrorSpec)

/-- 'perilunelaw33.IntegrateDivides', WHERE WHAT IT READS IS OF BULK AT MOST 1048576: true; the input reads as it did. -/
def integrateDividesUptoRow : OpenClaim := { program := "ytpgeapbmdljllaa", sum := "3adf50870f8ce8ac02eeebf8ab7389b5bc75f28971832775862786c17c79d8e6", func := "perilune/perilunelaw33.IntegrateDivides", spec := "integrateDivides", unfollowed := true, recurses := true, apart := false, narrowed := true }
def IntegrateDividesUptoSaid : Prop := integrateDividesUptoRow.holds Try.pinned (OpenSpec.upto integrateDividesSpec)

/-- 'perilunelaw33.IntegrateFree', WHERE WHAT IT READS IS OF BULK AT MOST 1048576: true; the input reads as it did. -/
def integrateFreeUptoRow : OpenClaim := { program := "ytpgeapbmdljllaa", sum := "3adf50870f8ce8ac02eeebf8ab7389b5bc75f28971832775862786c17c79d8e6", func := "perilune/perilunelaw33.IntegrateFree", spec := "integrateFree", unfollowed := true, recurses := true, apart := false, narrowed := true }
def IntegrateFreeUptoSaid : Prop := integrateFreeUptoRow.holds Try.pinned (OpenSpec.upto integrateFreeSpec)

/-- 'perilunelaw33.IntegrateKnown', WHERE WHAT IT READS IS OF BULK AT MOST 1048576: true; the input reads as it did. -/
def integrateKnownUptoRow : OpenClaim := { program := "ytpgeapbmdljllaa", sum := "3adf50870f8ce8ac02eeebf8ab7389b5bc75f28971832775862786c17c79d8e6", func := "perilune/perilunelaw33.IntegrateKnown", spec := "integrateKnown", unfollowed := true, recurses := true, apart := false, narrowed := true }
def IntegrateKnownUptoSaid : Prop := integrateKnownUptoRow.holds Try.pinned (OpenSpec.upto integrateKnownSpec)

/-- 'perilunelaw33.IntegrateTurned', WHERE WHAT IT READS IS OF BULK AT MOST 1048576: true; the input reads as it did. -/
def integrateTurnedUptoRow : OpenClaim := { program := "ytpgeapbmdljllaa", sum := "3adf50870f8ce8ac02eeebf8ab7389b5bc75f28971832775862786c17c79d8e6", func := "perilune/perilunelaw33.IntegrateTurned", spec := "integrateTurned", unfollowed := true, recurses := true, apart := false, narrowed := true }
def IntegrateTurnedUptoSaid : Prop := integrateTurnedUptoRow.holds Try.pinned (OpenSpec.upto integrateTurnedSpec)

/-- 'perilunelaw33.IntegrateExact', WHERE WHAT IT READS IS OF BULK AT MOST 1048576: true; the input reads as it did. -/
def integrateExactUptoRow : OpenClaim := { program := "ytpgeapbmdljllaa", sum := "3adf50870f8ce8ac02eeebf8ab7389b5bc75f28971832775862786c17c79d8e6", func := "perilune/perilunelaw33.IntegrateExact", spec := "integrateExact", unfollowed := true, recurses := true, apart := false, narrowed := true }
def IntegrateExactUptoSaid : Prop := integrateExactUptoRow.holds Try.pinned (OpenSpec.upto integrateExactSpec)

end Rows
end Go.Proofs.Ytpgeapbmdljllaa
