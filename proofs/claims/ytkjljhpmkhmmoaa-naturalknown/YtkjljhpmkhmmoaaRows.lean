/-
  No cell of these rows narrows 'for every input' (looked for: loops, veiled, ifaces, maps, wideKeys, modest, calm, conditions, laid).
  DERIVED. THE GIVEN ROWS OF THIS SEAT. 11 by the template 'for every input the law returns true; each argument reads behind the call as it read before'; 0 by the template 'total and deterministic' (their statements: YtkjljhpmkhmmoaaTotals.lean).
  GIVEN WITH THE SEED: the statements are not yours to turn. If you find one false, say at which input.
  Laid BY PROGRAM, IN A SANDBOX (cutbox-rows.mjs): the forced cells as the released guide's own fill.sh prints them over the translation bbccad8de0fd73f2… (all of the seat's roots in one cut). By AI agents, Wed Nov 11 2026. No macro, syntax, notation, axiom, sorry.
-/
import Derived.Test.YtkjljhpmkhmmoaaChecked
import GoSem.Claim
import GoSem.ClaimJoined
import GoSem.ClaimMapViews
import Derived.JoinedTies
import Derived.KernelRfl
namespace Go.Proofs.Ytkjljhpmkhmmoaa
/- THE CELL 'sum', in the pinned program and in every row, IS THE sha256 OF THE DUMP (.gsa) THAT YtkjljhpmkhmmoaaProg.lean LOADS. Nothing in Lean hashes anything: it is a label: what it is worth is what the hold of that sum in a sandbox is worth. -/
noncomputable def Try.pinned : Pinned := { name := "ytkjljhpmkhmmoaa", sum := "bbccad8de0fd73f27a7a20194b6d9feaba8cd286776188d9f2b2ebda5aab662f", checked := Try.checked }
namespace Rows
def none {H : Type} : Left H := { results := [], args := [] }

/-- 'perilunelaw13.NaturalSums': WHATEVER THE INPUT: true; the input reads as it did. -/
def naturalSumsSpec : ChangeSpec := { name := "naturalSums", fn := fun _ => fun
  | [d1, d2] => { results := [.lit (.bool true)], args := [d1, d2] }
  | _ => none }
def naturalSumsRow : OpenClaim := { program := "ytkjljhpmkhmmoaa", sum := "bbccad8de0fd73f27a7a20194b6d9feaba8cd286776188d9f2b2ebda5aab662f", func := "perilune/perilunelaw13.NaturalSums", spec := "naturalSums", unfollowed := true, recurses := true, apart := false }
def NaturalSumsSaid : Prop := naturalSumsRow.holds Try.pinned (OpenSpec.ofChange naturalSumsSpec)

/-- ITS FALSE NEIGHBOUR: 'it returns false'. Refute it at one input. -/
def naturalSumsWrong : ChangeSpec := { name := "naturalSums", fn := fun _ => fun
  | [d1, d2] => { results := [.lit (.bool false)], args := [d1, d2] }
  | _ => none }
def NaturalSumsWrongFalsely : Prop := naturalSumsRow.holds Try.pinned (OpenSpec.ofChange naturalSumsWrong)

/-- 'perilunelaw13.NaturalRing': WHATEVER THE INPUT: true; the input reads as it did. -/
def naturalRingSpec : ChangeSpec := { name := "naturalRing", fn := fun _ => fun
  | [d1, d2, d3] => { results := [.lit (.bool true)], args := [d1, d2, d3] }
  | _ => none }
def naturalRingRow : OpenClaim := { program := "ytkjljhpmkhmmoaa", sum := "bbccad8de0fd73f27a7a20194b6d9feaba8cd286776188d9f2b2ebda5aab662f", func := "perilune/perilunelaw13.NaturalRing", spec := "naturalRing", unfollowed := true, recurses := true, apart := false }
def NaturalRingSaid : Prop := naturalRingRow.holds Try.pinned (OpenSpec.ofChange naturalRingSpec)

/-- ITS FALSE NEIGHBOUR: 'it returns false'. Refute it at one input. -/
def naturalRingWrong : ChangeSpec := { name := "naturalRing", fn := fun _ => fun
  | [d1, d2, d3] => { results := [.lit (.bool false)], args := [d1, d2, d3] }
  | _ => none }
def NaturalRingWrongFalsely : Prop := naturalRingRow.holds Try.pinned (OpenSpec.ofChange naturalRingWrong)

/-- 'perilunelaw13.NaturalDivides': WHATEVER THE INPUT: true; the input reads as it did. -/
def naturalDividesSpec : ChangeSpec := { name := "naturalDivides", fn := fun _ => fun
  | [d1, d2] => { results := [.lit (.bool true)], args := [d1, d2] }
  | _ => none }
def naturalDividesRow : OpenClaim := { program := "ytkjljhpmkhmmoaa", sum := "bbccad8de0fd73f27a7a20194b6d9feaba8cd286776188d9f2b2ebda5aab662f", func := "perilune/perilunelaw13.NaturalDivides", spec := "naturalDivides", unfollowed := true, recurses := true, apart := false }
def NaturalDividesSaid : Prop := naturalDividesRow.holds Try.pinned (OpenSpec.ofChange naturalDividesSpec)

/-- ITS FALSE NEIGHBOUR: 'it returns false'. Refute it at one input. -/
def naturalDividesWrong : ChangeSpec := { name := "naturalDivides", fn := fun _ => fun
  | [d1, d2] => { results := [.lit (.bool false)], args := [d1, d2] }
  | _ => none }
def NaturalDividesWrongFalsely : Prop := naturalDividesRow.holds Try.pinned (OpenSpec.ofChange naturalDividesWrong)

/-- 'perilunelaw13.NaturalProducts': WHATEVER THE INPUT: true; the input reads as it did. -/
def naturalProductsSpec : ChangeSpec := { name := "naturalProducts", fn := fun _ => fun
  | [d1, d2, d3] => { results := [.lit (.bool true)], args := [d1, d2, d3] }
  | _ => none }
def naturalProductsRow : OpenClaim := { program := "ytkjljhpmkhmmoaa", sum := "bbccad8de0fd73f27a7a20194b6d9feaba8cd286776188d9f2b2ebda5aab662f", func := "perilune/perilunelaw13.NaturalProducts", spec := "naturalProducts", unfollowed := true, recurses := true, apart := false }
def NaturalProductsSaid : Prop := naturalProductsRow.holds Try.pinned (OpenSpec.ofChange naturalProductsSpec)

/-- ITS FALSE NEIGHBOUR: 'it returns false'. Refute it at one input. -/
def naturalProductsWrong : ChangeSpec := { name := "naturalProducts", fn := fun _ => fun
  | [d1, d2, d3] => { results := [.lit (.bool false)], args := [d1, d2, d3] }
  | _ => none }
def NaturalProductsWrongFalsely : Prop := naturalProductsRow.holds Try.pinned (OpenSpec.ofChange naturalProductsWrong)

/-- 'perilunelaw13.NaturalEdge': WHATEVER THE INPUT: true; the input reads as it did. -/
def naturalEdgeSpec : ChangeSpec := { name := "naturalEdge", fn := fun _ => fun
  | [d1, d2] => { results := [.lit (.bool true)], args := [d1, d2] }
  | _ => none }
def naturalEdgeRow : OpenClaim := { program := "ytkjljhpmkhmmoaa", sum := "bbccad8de0fd73f27a7a20194b6d9feaba8cd286776188d9f2b2ebda5aab662f", func := "perilune/perilunelaw13.NaturalEdge", spec := "naturalEdge", unfollowed := true, recurses := true, apart := false }
def NaturalEdgeSaid : Prop := naturalEdgeRow.holds Try.pinned (OpenSpec.ofChange naturalEdgeSpec)

/-- ITS FALSE NEIGHBOUR: 'it returns false'. Refute it at one input. -/
def naturalEdgeWrong : ChangeSpec := { name := "naturalEdge", fn := fun _ => fun
  | [d1, d2] => { results := [.lit (.bool false)], args := [d1, d2] }
  | _ => none }
def NaturalEdgeWrongFalsely : Prop := naturalEdgeRow.holds Try.pinned (OpenSpec.ofChange naturalEdgeWrong)

/-- 'perilunelaw13.NaturalTexts': WHATEVER THE INPUT: true; the input reads as it did. -/
def naturalTextsSpec : ChangeSpec := { name := "naturalTexts", fn := fun _ => fun
  | [d1, d2] => { results := [.lit (.bool true)], args := [d1, d2] }
  | _ => none }
def naturalTextsRow : OpenClaim := { program := "ytkjljhpmkhmmoaa", sum := "bbccad8de0fd73f27a7a20194b6d9feaba8cd286776188d9f2b2ebda5aab662f", func := "perilune/perilunelaw13.NaturalTexts", spec := "naturalTexts", unfollowed := true, recurses := true, apart := false }
def NaturalTextsSaid : Prop := naturalTextsRow.holds Try.pinned (OpenSpec.ofChange naturalTextsSpec)

/-- ITS FALSE NEIGHBOUR: 'it returns false'. Refute it at one input. -/
def naturalTextsWrong : ChangeSpec := { name := "naturalTexts", fn := fun _ => fun
  | [d1, d2] => { results := [.lit (.bool false)], args := [d1, d2] }
  | _ => none }
def NaturalTextsWrongFalsely : Prop := naturalTextsRow.holds Try.pinned (OpenSpec.ofChange naturalTextsWrong)

/-- 'perilunelaw13.NaturalShifts': WHATEVER THE INPUT: true; the input reads as it did. -/
def naturalShiftsSpec : ChangeSpec := { name := "naturalShifts", fn := fun _ => fun
  | [d1, d2] => { results := [.lit (.bool true)], args := [d1, d2] }
  | _ => none }
def naturalShiftsRow : OpenClaim := { program := "ytkjljhpmkhmmoaa", sum := "bbccad8de0fd73f27a7a20194b6d9feaba8cd286776188d9f2b2ebda5aab662f", func := "perilune/perilunelaw13.NaturalShifts", spec := "naturalShifts", unfollowed := true, recurses := true, apart := false }
def NaturalShiftsSaid : Prop := naturalShiftsRow.holds Try.pinned (OpenSpec.ofChange naturalShiftsSpec)

/-- ITS FALSE NEIGHBOUR: 'it returns false'. Refute it at one input. -/
def naturalShiftsWrong : ChangeSpec := { name := "naturalShifts", fn := fun _ => fun
  | [d1, d2] => { results := [.lit (.bool false)], args := [d1, d2] }
  | _ => none }
def NaturalShiftsWrongFalsely : Prop := naturalShiftsRow.holds Try.pinned (OpenSpec.ofChange naturalShiftsWrong)

/-- 'perilunelaw13.NaturalPowers': WHATEVER THE INPUT: true; the input reads as it did. -/
def naturalPowersSpec : ChangeSpec := { name := "naturalPowers", fn := fun _ => fun
  | [d1, d2] => { results := [.lit (.bool true)], args := [d1, d2] }
  | _ => none }
def naturalPowersRow : OpenClaim := { program := "ytkjljhpmkhmmoaa", sum := "bbccad8de0fd73f27a7a20194b6d9feaba8cd286776188d9f2b2ebda5aab662f", func := "perilune/perilunelaw13.NaturalPowers", spec := "naturalPowers", unfollowed := true, recurses := true, apart := false }
def NaturalPowersSaid : Prop := naturalPowersRow.holds Try.pinned (OpenSpec.ofChange naturalPowersSpec)

/-- ITS FALSE NEIGHBOUR: 'it returns false'. Refute it at one input. -/
def naturalPowersWrong : ChangeSpec := { name := "naturalPowers", fn := fun _ => fun
  | [d1, d2] => { results := [.lit (.bool false)], args := [d1, d2] }
  | _ => none }
def NaturalPowersWrongFalsely : Prop := naturalPowersRow.holds Try.pinned (OpenSpec.ofChange naturalPowersWrong)

/-- 'perilunelaw13.NaturalKeeps': WHATEVER THE INPUT: true; the input reads as it did. -/
def naturalKeepsSpec : ChangeSpec := { name := "naturalKeeps", fn := fun _ => fun
  | [d1, d2, d3] => { results := [.lit (.bool true)], args := [d1, d2, d3] }
  | _ => none }
def naturalKeepsRow : OpenClaim := { program := "ytkjljhpmkhmmoaa", sum := "bbccad8de0fd73f27a7a20194b6d9feaba8cd286776188d9f2b2ebda5aab662f", func := "perilune/perilunelaw13.NaturalKeeps", spec := "naturalKeeps", unfollowed := true, recurses := true, apart := false }
def NaturalKeepsSaid : Prop := naturalKeepsRow.holds Try.pinned (OpenSpec.ofChange naturalKeepsSpec)

/-- ITS FALSE NEIGHBOUR: 'it returns false'. Refute it at one input. -/
def naturalKeepsWrong : ChangeSpec := { name := "naturalKeeps", fn := fun _ => fun
  | [d1, d2, d3] => { results := [.lit (.bool false)], args := [d1, d2, d3] }
  | _ => none }
def NaturalKeepsWrongFalsely : Prop := naturalKeepsRow.holds Try.pinned (OpenSpec.ofChange naturalKeepsWrong)

/-- 'perilunelaw13.NaturalDecimals': WHATEVER THE INPUT: true; the input reads as it did. -/
def naturalDecimalsSpec : ChangeSpec := { name := "naturalDecimals", fn := fun _ => fun
  | [d1, d2] => { results := [.lit (.bool true)], args := [d1, d2] }
  | _ => none }
def naturalDecimalsRow : OpenClaim := { program := "ytkjljhpmkhmmoaa", sum := "bbccad8de0fd73f27a7a20194b6d9feaba8cd286776188d9f2b2ebda5aab662f", func := "perilune/perilunelaw13.NaturalDecimals", spec := "naturalDecimals", unfollowed := true, recurses := true, apart := false }
def NaturalDecimalsSaid : Prop := naturalDecimalsRow.holds Try.pinned (OpenSpec.ofChange naturalDecimalsSpec)

/-- ITS FALSE NEIGHBOUR: 'it returns false'. Refute it at one input. -/
def naturalDecimalsWrong : ChangeSpec := { name := "naturalDecimals", fn := fun _ => fun
  | [d1, d2] => { results := [.lit (.bool false)], args := [d1, d2] }
  | _ => none }
def NaturalDecimalsWrongFalsely : Prop := naturalDecimalsRow.holds Try.pinned (OpenSpec.ofChange naturalDecimalsWrong)

/-- 'perilunelaw13.NaturalKnown': WHATEVER THE INPUT: true; the input reads as it did. -/
def naturalKnownSpec : ChangeSpec := { name := "naturalKnown", fn := fun _ => fun
  | [] => { results := [.lit (.bool true)], args := [] }
  | _ => none }
def naturalKnownRow : OpenClaim := { program := "ytkjljhpmkhmmoaa", sum := "bbccad8de0fd73f27a7a20194b6d9feaba8cd286776188d9f2b2ebda5aab662f", func := "perilune/perilunelaw13.NaturalKnown", spec := "naturalKnown", unfollowed := true, recurses := true, apart := false }
def NaturalKnownSaid : Prop := naturalKnownRow.holds Try.pinned (OpenSpec.ofChange naturalKnownSpec)

/-- ITS FALSE NEIGHBOUR: 'it returns false'. Refute it at one input. -/
def naturalKnownWrong : ChangeSpec := { name := "naturalKnown", fn := fun _ => fun
  | [] => { results := [.lit (.bool false)], args := [] }
  | _ => none }
def NaturalKnownWrongFalsely : Prop := naturalKnownRow.holds Try.pinned (OpenSpec.ofChange naturalKnownWrong)

/- THE SECOND FORM. 'bulk': how many values and letters a reading holds, each counted each time it is reached (what is shared counts as often as it is met; a slice's spare places count too). A statement '..UptoSaid' is the law's where the arguments, and the package variables that the reading takes, are together of bulk at most 1048576: NARROWER than '..Said'. Prove '..Said' where nothing that the law and all that it calls make is longer than what came in: it says more and counts as full. Else prove '..UptoSaid'. A law counts once. -/
mutual
def uptoBulk {H : Type} : DataW H → Nat
  | .lit (.string bytes) => bytes.length + 1
  | .lit _ => 1
  | .nil => 1
  | .ptr d => uptoBulk d + 1
  | .slice elems spare => uptoBulkAll elems + uptoBulkAll spare + 1
  | .agg parts => uptoBulkAll parts + 1
  | .iface _ d => uptoBulk d + 1
  | .map entries => uptoBulkEntries entries + 1
  | .held _ => 1
def uptoBulkAll {H : Type} : List (DataW H) → Nat
  | [] => 0
  | d :: r => uptoBulk d + uptoBulkAll r
def uptoBulkEntries {H : Type} : List (Lit × DataW H) → Nat
  | [] => 0
  | x :: r => uptoBulkEntry x + uptoBulkEntries r
def uptoBulkEntry {H : Type} : Lit × DataW H → Nat
  | (.string bytes, d) => bytes.length + uptoBulk d + 1
  | (_, d) => uptoBulk d + 1
 end
def uptoSmall : (H : Type) → List (DataW H) → Bool := fun _ ds => decide (uptoBulkAll ds ≤ 1048576)
def OpenSpec.upto (s : _root_.Go.ChangeSpec) : _root_.Go.OpenSpec := { _root_.Go.OpenSpec.ofChange s with cond := some uptoSmall }

/-- 'perilunelaw13.NaturalSums', WHERE WHAT IT READS IS OF BULK AT MOST 1048576: true; the input reads as it did. -/
def naturalSumsUptoRow : OpenClaim := { program := "ytkjljhpmkhmmoaa", sum := "bbccad8de0fd73f27a7a20194b6d9feaba8cd286776188d9f2b2ebda5aab662f", func := "perilune/perilunelaw13.NaturalSums", spec := "naturalSums", unfollowed := true, recurses := true, apart := false, narrowed := true }
def NaturalSumsUptoSaid : Prop := naturalSumsUptoRow.holds Try.pinned (OpenSpec.upto naturalSumsSpec)

/-- 'perilunelaw13.NaturalRing', WHERE WHAT IT READS IS OF BULK AT MOST 1048576: true; the input reads as it did. -/
def naturalRingUptoRow : OpenClaim := { program := "ytkjljhpmkhmmoaa", sum := "bbccad8de0fd73f27a7a20194b6d9feaba8cd286776188d9f2b2ebda5aab662f", func := "perilune/perilunelaw13.NaturalRing", spec := "naturalRing", unfollowed := true, recurses := true, apart := false, narrowed := true }
def NaturalRingUptoSaid : Prop := naturalRingUptoRow.holds Try.pinned (OpenSpec.upto naturalRingSpec)

/-- 'perilunelaw13.NaturalDivides', WHERE WHAT IT READS IS OF BULK AT MOST 1048576: true; the input reads as it did. -/
def naturalDividesUptoRow : OpenClaim := { program := "ytkjljhpmkhmmoaa", sum := "bbccad8de0fd73f27a7a20194b6d9feaba8cd286776188d9f2b2ebda5aab662f", func := "perilune/perilunelaw13.NaturalDivides", spec := "naturalDivides", unfollowed := true, recurses := true, apart := false, narrowed := true }
def NaturalDividesUptoSaid : Prop := naturalDividesUptoRow.holds Try.pinned (OpenSpec.upto naturalDividesSpec)

/-- 'perilunelaw13.NaturalProducts', WHERE WHAT IT READS IS OF BULK AT MOST 1048576: true; the input reads as it did. -/
def naturalProductsUptoRow : OpenClaim := { program := "ytkjljhpmkhmmoaa", sum := "bbccad8de0fd73f27a7a20194b6d9feaba8cd286776188d9f2b2ebda5aab662f", func := "perilune/perilunelaw13.NaturalProducts", spec := "naturalProducts", unfollowed := true, recurses := true, apart := false, narrowed := true }
def NaturalProductsUptoSaid : Prop := naturalProductsUptoRow.holds Try.pinned (OpenSpec.upto naturalProductsSpec)

/-- 'perilunelaw13.NaturalEdge', WHERE WHAT IT READS IS OF BULK AT MOST 1048576: true; the input reads as it did. -/
def naturalEdgeUptoRow : OpenClaim := { program := "ytkjljhpmkhmmoaa", sum := "bbccad8de0fd73f27a7a20194b6d9feaba8cd286776188d9f2b2ebda5aab662f", func := "perilune/perilunelaw13.NaturalEdge", spec := "naturalEdge", unfollowed := true, recurses := true, apart := false, narrowed := true }
def NaturalEdgeUptoSaid : Prop := naturalEdgeUptoRow.holds Try.pinned (OpenSpec.upto naturalEdgeSpec)

/-- 'perilunelaw13.NaturalTexts', WHERE WHAT IT READS IS OF BULK AT MOST 1048576: true; the input reads as it did. -/
def naturalTextsUptoRow : OpenClaim := { program := "ytkjljhpmkhmmoaa", sum := "bbccad8de0fd73f27a7a20194b6d9feaba8cd286776188d9f2b2ebda5aab662f", func := "perilune/perilunelaw13.NaturalTexts", spec := "naturalTexts", unfollowed := true, recurses := true, apart := false, narrowed := true }
def NaturalTextsUptoSaid : Prop := naturalTextsUptoRow.holds Try.pinned (OpenSpec.upto naturalTextsSpec)

/-- 'perilunelaw13.NaturalShifts', WHERE WHAT IT READS IS OF BULK AT MOST 1048576: true; the input reads as it did. -/
def naturalShiftsUptoRow : OpenClaim := { program := "ytkjljhpmkhmmoaa", sum := "bbccad8de0fd73f27a7a20194b6d9feaba8cd286776188d9f2b2ebda5aab662f", func := "perilune/perilunelaw13.NaturalShifts", spec := "naturalShifts", unfollowed := true, recurses := true, apart := false, narrowed := true }
def NaturalShiftsUptoSaid : Prop := naturalShiftsUptoRow.holds Try.pinned (OpenSpec.upto naturalShiftsSpec)

/-- 'perilunelaw13.NaturalPowers', WHERE WHAT IT READS IS OF BULK AT MOST 1048576: true; the input reads as it did. -/
def naturalPowersUptoRow : OpenClaim := { program := "ytkjljhpmkhmmoaa", sum := "bbccad8de0fd73f27a7a20194b6d9feaba8cd286776188d9f2b2ebda5aab662f", func := "perilune/perilunelaw13.NaturalPowers", spec := "naturalPowers", unfollowed := true, recurses := true, apart := false, narrowed := true }
def NaturalPowersUptoSaid : Prop := naturalPowersUptoRow.holds Try.pinned (OpenSpec.upto naturalPowersSpec)

/-- 'perilunelaw13.NaturalKeeps', WHERE WHAT IT READS IS OF BULK AT MOST 1048576: true; the input reads as it did. -/
def naturalKeepsUptoRow : OpenClaim := { program := "ytkjljhpmkhmmoaa", sum := "bbccad8de0fd73f27a7a20194b6d9feaba8cd286776188d9f2b2ebda5aab662f", func := "perilune/perilunelaw13.NaturalKeeps", spec := "naturalKeeps", unfollowed := true, recurses := true, apart := false, narrowed := true }
def NaturalKeepsUptoSaid : Prop := naturalKeepsUptoRow.holds Try.pinned (OpenSpec.upto naturalKeepsSpec)

/-- 'perilunelaw13.NaturalDecimals', WHERE WHAT IT READS IS OF BULK AT MOST 1048576: true; the input reads as it did. -/
def naturalDecimalsUptoRow : OpenClaim := { program := "ytkjljhpmkhmmoaa", sum := "bbccad8de0fd73f27a7a20194b6d9feaba8cd286776188d9f2b2ebda5aab662f", func := "perilune/perilunelaw13.NaturalDecimals", spec := "naturalDecimals", unfollowed := true, recurses := true, apart := false, narrowed := true }
def NaturalDecimalsUptoSaid : Prop := naturalDecimalsUptoRow.holds Try.pinned (OpenSpec.upto naturalDecimalsSpec)

/-- 'perilunelaw13.NaturalKnown', WHERE WHAT IT READS IS OF BULK AT MOST 1048576: true; the input reads as it did. -/
def naturalKnownUptoRow : OpenClaim := { program := "ytkjljhpmkhmmoaa", sum := "bbccad8de0fd73f27a7a20194b6d9feaba8cd286776188d9f2b2ebda5aab662f", func := "perilune/perilunelaw13.NaturalKnown", spec := "naturalKnown", unfollowed := true, recurses := true, apart := false, narrowed := true }
def NaturalKnownUptoSaid : Prop := naturalKnownUptoRow.holds Try.pinned (OpenSpec.upto naturalKnownSpec)

end Rows
end Go.Proofs.Ytkjljhpmkhmmoaa
