/-
  No cell of these rows narrows 'for every input' (looked for: loops, veiled, ifaces, maps, wideKeys, modest, calm, conditions, laid).
  DERIVED. THE GIVEN ROWS OF THIS SEAT. 6 by the template 'for every input the law returns true; each argument reads behind the call as it read before'; 0 by the template 'total and deterministic' (their statements: YtdbdppoecijdhaaTotals.lean).
  GIVEN WITH THE SEED: the statements are not yours to turn. If you find one false, say at which input.
  Laid BY PROGRAM, IN A SANDBOX (cutbox-rows.mjs): the forced cells as the released guide's own fill.sh prints them over the translation f8d28f48868a339c… (all of the seat's roots in one cut). By AI agents, Wed Nov 11 2026. No macro, syntax, notation, axiom, sorry.
-/
import Derived.Test.YtdbdppoecijdhaaChecked
import GoSem.Claim
import GoSem.ClaimJoined
import GoSem.ClaimMapViews
import Derived.JoinedTies
import Derived.KernelRfl
namespace Go.Proofs.Ytdbdppoecijdhaa
/- THE CELL 'sum', in the pinned program and in every row, IS THE sha256 OF THE DUMP (.gsa) THAT YtdbdppoecijdhaaProg.lean LOADS. Nothing in Lean hashes anything: it is a label: what it is worth is what the hold of that sum in a sandbox is worth. -/
noncomputable def Try.pinned : Pinned := { name := "ytdbdppoecijdhaa", sum := "f8d28f48868a339ce780a38599a0226d90615839a684c024f8601037698a5ac3", checked := Try.checked }
namespace Rows
def none {H : Type} : Left H := { results := [], args := [] }

/-- 'perilunelaw27.RelayOnce': WHATEVER THE INPUT: true; the input reads as it did. -/
def relayOnceSpec : ChangeSpec := { name := "relayOnce", fn := fun _ => fun
  | [d1, d2, d3] => { results := [.lit (.bool true)], args := [d1, d2, d3] }
  | _ => none }
def relayOnceRow : OpenClaim := { program := "ytdbdppoecijdhaa", sum := "f8d28f48868a339ce780a38599a0226d90615839a684c024f8601037698a5ac3", func := "perilune/perilunelaw27.RelayOnce", spec := "relayOnce", apart := false }
def RelayOnceSaid : Prop := relayOnceRow.holds Try.pinned (OpenSpec.ofChange relayOnceSpec)

/-- ITS FALSE NEIGHBOUR: 'it returns false'. Refute it at one input. -/
def relayOnceWrong : ChangeSpec := { name := "relayOnce", fn := fun _ => fun
  | [d1, d2, d3] => { results := [.lit (.bool false)], args := [d1, d2, d3] }
  | _ => none }
def RelayOnceWrongFalsely : Prop := relayOnceRow.holds Try.pinned (OpenSpec.ofChange relayOnceWrong)

/-- 'perilunelaw27.RelayDigits': WHATEVER THE INPUT: true; the input reads as it did. -/
def relayDigitsSpec : ChangeSpec := { name := "relayDigits", fn := fun _ => fun
  | [] => { results := [.lit (.bool true)], args := [] }
  | _ => none }
def relayDigitsRow : OpenClaim := { program := "ytdbdppoecijdhaa", sum := "f8d28f48868a339ce780a38599a0226d90615839a684c024f8601037698a5ac3", func := "perilune/perilunelaw27.RelayDigits", spec := "relayDigits", apart := false }
def RelayDigitsSaid : Prop := relayDigitsRow.holds Try.pinned (OpenSpec.ofChange relayDigitsSpec)

/-- ITS FALSE NEIGHBOUR: 'it returns false'. Refute it at one input. -/
def relayDigitsWrong : ChangeSpec := { name := "relayDigits", fn := fun _ => fun
  | [] => { results := [.lit (.bool false)], args := [] }
  | _ => none }
def RelayDigitsWrongFalsely : Prop := relayDigitsRow.holds Try.pinned (OpenSpec.ofChange relayDigitsWrong)

/-- 'perilunelaw27.RelayApplies': WHATEVER THE INPUT: true; the input reads as it did. -/
def relayAppliesSpec : ChangeSpec := { name := "relayApplies", fn := fun _ => fun
  | [d1, d2, d3] => { results := [.lit (.bool true)], args := [d1, d2, d3] }
  | _ => none }
def relayAppliesRow : OpenClaim := { program := "ytdbdppoecijdhaa", sum := "f8d28f48868a339ce780a38599a0226d90615839a684c024f8601037698a5ac3", func := "perilune/perilunelaw27.RelayApplies", spec := "relayApplies", apart := false }
def RelayAppliesSaid : Prop := relayAppliesRow.holds Try.pinned (OpenSpec.ofChange relayAppliesSpec)

/-- ITS FALSE NEIGHBOUR: 'it returns false'. Refute it at one input. -/
def relayAppliesWrong : ChangeSpec := { name := "relayApplies", fn := fun _ => fun
  | [d1, d2, d3] => { results := [.lit (.bool false)], args := [d1, d2, d3] }
  | _ => none }
def RelayAppliesWrongFalsely : Prop := relayAppliesRow.holds Try.pinned (OpenSpec.ofChange relayAppliesWrong)

/-- 'perilunelaw27.RelayShows': WHATEVER THE INPUT: true; the input reads as it did. -/
def relayShowsSpec : ChangeSpec := { name := "relayShows", fn := fun _ => fun
  | [d1, d2] => { results := [.lit (.bool true)], args := [d1, d2] }
  | _ => none }
def relayShowsRow : OpenClaim := { program := "ytdbdppoecijdhaa", sum := "f8d28f48868a339ce780a38599a0226d90615839a684c024f8601037698a5ac3", func := "perilune/perilunelaw27.RelayShows", spec := "relayShows", apart := false }
def RelayShowsSaid : Prop := relayShowsRow.holds Try.pinned (OpenSpec.ofChange relayShowsSpec)

/-- ITS FALSE NEIGHBOUR: 'it returns false'. Refute it at one input. -/
def relayShowsWrong : ChangeSpec := { name := "relayShows", fn := fun _ => fun
  | [d1, d2] => { results := [.lit (.bool false)], args := [d1, d2] }
  | _ => none }
def RelayShowsWrongFalsely : Prop := relayShowsRow.holds Try.pinned (OpenSpec.ofChange relayShowsWrong)

/-- 'perilunelaw27.RelayRows': WHATEVER THE INPUT: true; the input reads as it did. -/
def relayRowsSpec : ChangeSpec := { name := "relayRows", fn := fun _ => fun
  | [d1, d2, d3] => { results := [.lit (.bool true)], args := [d1, d2, d3] }
  | _ => none }
def relayRowsRow : OpenClaim := { program := "ytdbdppoecijdhaa", sum := "f8d28f48868a339ce780a38599a0226d90615839a684c024f8601037698a5ac3", func := "perilune/perilunelaw27.RelayRows", spec := "relayRows", inPlace := ["internal/abi.NoEscape"], apart := false }
def RelayRowsSaid : Prop := relayRowsRow.holds Try.pinned (OpenSpec.ofChange relayRowsSpec)

/-- ITS FALSE NEIGHBOUR: 'it returns false'. Refute it at one input. -/
def relayRowsWrong : ChangeSpec := { name := "relayRows", fn := fun _ => fun
  | [d1, d2, d3] => { results := [.lit (.bool false)], args := [d1, d2, d3] }
  | _ => none }
def RelayRowsWrongFalsely : Prop := relayRowsRow.holds Try.pinned (OpenSpec.ofChange relayRowsWrong)

/-- 'perilunelaw27.RelayKnown': WHATEVER THE INPUT: true; the input reads as it did. -/
def relayKnownSpec : ChangeSpec := { name := "relayKnown", fn := fun _ => fun
  | [] => { results := [.lit (.bool true)], args := [] }
  | _ => none }
def relayKnownRow : OpenClaim := { program := "ytdbdppoecijdhaa", sum := "f8d28f48868a339ce780a38599a0226d90615839a684c024f8601037698a5ac3", func := "perilune/perilunelaw27.RelayKnown", spec := "relayKnown", inPlace := ["internal/abi.NoEscape"], apart := false }
def RelayKnownSaid : Prop := relayKnownRow.holds Try.pinned (OpenSpec.ofChange relayKnownSpec)

/-- ITS FALSE NEIGHBOUR: 'it returns false'. Refute it at one input. -/
def relayKnownWrong : ChangeSpec := { name := "relayKnown", fn := fun _ => fun
  | [] => { results := [.lit (.bool false)], args := [] }
  | _ => none }
def RelayKnownWrongFalsely : Prop := relayKnownRow.holds Try.pinned (OpenSpec.ofChange relayKnownWrong)

/- THE SECOND FORM. 'bulk': how many values and letters a reading holds, each counted each time it is reached (what is shared counts as often as it is met; a slice's spare places count too). A statement '..UptoSaid' is the law's where the arguments, and the package variables that the reading takes, are together of bulk at most 1048576: NARROWER than '..Said'. Prove '..Said' where nothing that the law and all that it calls make is longer than what came in: it says more and counts as full. Else prove '..UptoSaid'. A law counts once. -/
mutual
def uptoBulk {H : Type} : DataW H → Nat
  | .lit (.string bytes) => bytes.length + 1
  | .lit _ => 1
  | .nil => 1
  | .ptr d => uptoBulk d + 1
  | .slice elems spare => uptoBulkAll elems + uptoBulkAll spare + 1
  | .agg parts => uptoBulkAll parts + 1
  | .iface _ d => uptoBulk d + 1
  | .map entries => uptoBulkEntries entries + 1
  | .held _ => 1
def uptoBulkAll {H : Type} : List (DataW H) → Nat
  | [] => 0
  | d :: r => uptoBulk d + uptoBulkAll r
def uptoBulkEntries {H : Type} : List (Lit × DataW H) → Nat
  | [] => 0
  | x :: r => uptoBulkEntry x + uptoBulkEntries r
def uptoBulkEntry {H : Type} : Lit × DataW H → Nat
  | (.string bytes, d) => bytes.length + uptoBulk d + 1
  | (_, d) => uptoBulk d + 1
 end
def uptoSmall : (H : Type) → List (DataW H) → Bool := fun _ ds => decide (uptoBulkAll ds ≤ 1048576)
def OpenSpec.upto (s : _root_.Go.ChangeSpec) : _root_.Go.OpenSpec := { _root_.Go.OpenSpec.ofChange s with cond := some uptoSmall }

/-- 'perilunelaw27.RelayOnce', WHERE WHAT IT READS IS OF BULK AT MOST 1048576: true; the input reads as it did. -/
def relayOnceUptoRow : OpenClaim := { program := "ytdbdppoecijdhaa", sum := "f8d28f48868a339ce780a38599a0226d90615839a684c024f8601037698a5ac3", func := "perilune/perilunelaw27.RelayOnce", spec := "relayOnce", apart := false, narrowed := true }
def RelayOnceUptoSaid : Prop := relayOnceUptoRow.holds Try.pinned (OpenSpec.upto relayOnceSpec)

/-- 'perilunelaw27.RelayDigits', WHERE WHAT IT READS IS OF BULK AT MOST 1048576: true; the input reads as it did. -/
def relayDigitsUptoRow : OpenClaim := { program := "ytdbdppoecijdhaa", sum := "f8d28f48868a339ce780a38599a0226d90615839a684c024f8601037698a5ac3", func := "perilune/perilunelaw27.RelayDigits", spec := "relayDigits", apart := false, narrowed := true }
def RelayDigitsUptoSaid : Prop := relayDigitsUptoRow.holds Try.pinned (OpenSpec.upto relayDigitsSpec)

/-- 'perilunelaw27.RelayApplies', WHERE WHAT IT READS IS OF BULK AT MOST 1048576: true; the input reads as it did. -/
def relayAppliesUptoRow : OpenClaim := { program := "ytdbdppoecijdhaa", sum := "f8d28f48868a339ce780a38599a0226d90615839a684c024f8601037698a5ac3", func := "perilune/perilunelaw27.RelayApplies", spec := "relayApplies", apart := false, narrowed := true }
def RelayAppliesUptoSaid : Prop := relayAppliesUptoRow.holds Try.pinned (OpenSpec.upto relayAppliesSpec)

/-- 'perilunelaw27.RelayShows', WHERE WHAT IT READS IS OF BULK AT MOST 1048576: true; the input reads as it did. -/
def relayShowsUptoRow : OpenClaim := { program := "ytdbdppoecijdhaa", sum := "f8d28f48868a339ce780a38599a0226d90615839a684c024f8601037698a5ac3", func := "perilune/perilunelaw27.RelayShows", spec := "relayShows", apart := false, narrowed := true }
def RelayShowsUptoSaid : Prop := relayShowsUptoRow.holds Try.pinned (OpenSpec.upto relayShowsSpec)

/-- 'perilunelaw27.RelayRows', WHERE WHAT IT READS IS OF BULK AT MOST 1048576: true; the input reads as it did. -/
def relayRowsUptoRow : OpenClaim := { program := "ytdbdppoecijdhaa", sum := "f8d28f48868a339ce780a38599a0226d90615839a684c024f8601037698a5ac3", func := "perilune/perilunelaw27.RelayRows", spec := "relayRows", inPlace := ["internal/abi.NoEscape"], apart := false, narrowed := true }
def RelayRowsUptoSaid : Prop := relayRowsUptoRow.holds Try.pinned (OpenSpec.upto relayRowsSpec)

/-- 'perilunelaw27.RelayKnown', WHERE WHAT IT READS IS OF BULK AT MOST 1048576: true; the input reads as it did. -/
def relayKnownUptoRow : OpenClaim := { program := "ytdbdppoecijdhaa", sum := "f8d28f48868a339ce780a38599a0226d90615839a684c024f8601037698a5ac3", func := "perilune/perilunelaw27.RelayKnown", spec := "relayKnown", inPlace := ["internal/abi.NoEscape"], apart := false, narrowed := true }
def RelayKnownUptoSaid : Prop := relayKnownUptoRow.holds Try.pinned (OpenSpec.upto relayKnownSpec)

end Rows
end Go.Proofs.Ytdbdppoecijdhaa
