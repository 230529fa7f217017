/-
  No cell of these rows narrows 'for every input' (looked for: loops, veiled, ifaces, maps, wideKeys, modest, calm, conditions, laid).
  DERIVED. THE GIVEN ROWS OF THIS SEAT. 8 by the template 'for every input the law returns true; each argument reads behind the call as it read before'; 0 by the template 'total and deterministic' (their statements: YtbbgfinnhaekjaaTotals.lean).
  GIVEN WITH THE SEED: the statements are not yours to turn. If you find one false, say at which input.
  Laid BY PROGRAM, IN A SANDBOX (cutbox-rows.mjs): the forced cells as the released guide's own fill.sh prints them over the translation f26d2a595cca168f… (all of the seat's roots in one cut). By AI agents, Wed Nov 11 2026. No macro, syntax, notation, axiom, sorry.
-/
import Derived.Test.YtbbgfinnhaekjaaChecked
import GoSem.Claim
import GoSem.ClaimJoined
import GoSem.ClaimMapViews
import Derived.JoinedTies
import Derived.KernelRfl
namespace Go.Proofs.Ytbbgfinnhaekjaa
/- THE CELL 'sum', in the pinned program and in every row, IS THE sha256 OF THE DUMP (.gsa) THAT YtbbgfinnhaekjaaProg.lean LOADS. Nothing in Lean hashes anything: it is a label: what it is worth is what the hold of that sum in a sandbox is worth. -/
noncomputable def Try.pinned : Pinned := { name := "ytbbgfinnhaekjaa", sum := "f26d2a595cca168f60bcfa0bc2fdc29bfa1f4f662c53d3212bf70edd24a155bb", checked := Try.checked }
namespace Rows
def none {H : Type} : Left H := { results := [], args := [] }

/-- 'perilunelaw29.NounForms': WHATEVER THE INPUT: true; the input reads as it did. -/
def nounFormsSpec : ChangeSpec := { name := "nounForms", fn := fun _ => fun
  | [d1, d2, d3] => { results := [.lit (.bool true)], args := [d1, d2, d3] }
  | _ => none }
def nounFormsRow : OpenClaim := { program := "ytbbgfinnhaekjaa", sum := "f26d2a595cca168f60bcfa0bc2fdc29bfa1f4f662c53d3212bf70edd24a155bb", func := "perilune/perilunelaw29.NounForms", spec := "nounForms", unfollowed := true, recurses := true, apart := false }
def NounFormsSaid : Prop := nounFormsRow.holds Try.pinned (OpenSpec.ofChange nounFormsSpec)

/-- ITS FALSE NEIGHBOUR: 'it returns false'. Refute it at one input. -/
def nounFormsWrong : ChangeSpec := { name := "nounForms", fn := fun _ => fun
  | [d1, d2, d3] => { results := [.lit (.bool false)], args := [d1, d2, d3] }
  | _ => none }
def NounFormsWrongFalsely : Prop := nounFormsRow.holds Try.pinned (OpenSpec.ofChange nounFormsWrong)

/-- 'perilunelaw29.NounRound': WHATEVER THE INPUT: true; the input reads as it did. -/
def nounRoundSpec : ChangeSpec := { name := "nounRound", fn := fun _ => fun
  | [d1, d2, d3] => { results := [.lit (.bool true)], args := [d1, d2, d3] }
  | _ => none }
def nounRoundRow : OpenClaim := { program := "ytbbgfinnhaekjaa", sum := "f26d2a595cca168f60bcfa0bc2fdc29bfa1f4f662c53d3212bf70edd24a155bb", func := "perilune/perilunelaw29.NounRound", spec := "nounRound", unfollowed := true, recurses := true, apart := false }
def NounRoundSaid : Prop := nounRoundRow.holds Try.pinned (OpenSpec.ofChange nounRoundSpec)

/-- ITS FALSE NEIGHBOUR: 'it returns false'. Refute it at one input. -/
def nounRoundWrong : ChangeSpec := { name := "nounRound", fn := fun _ => fun
  | [d1, d2, d3] => { results := [.lit (.bool false)], args := [d1, d2, d3] }
  | _ => none }
def NounRoundWrongFalsely : Prop := nounRoundRow.holds Try.pinned (OpenSpec.ofChange nounRoundWrong)

/-- 'perilunelaw29.NounOctals': WHATEVER THE INPUT: true; the input reads as it did. -/
def nounOctalsSpec : ChangeSpec := { name := "nounOctals", fn := fun _ => fun
  | [d1, d2] => { results := [.lit (.bool true)], args := [d1, d2] }
  | _ => none }
def nounOctalsRow : OpenClaim := { program := "ytbbgfinnhaekjaa", sum := "f26d2a595cca168f60bcfa0bc2fdc29bfa1f4f662c53d3212bf70edd24a155bb", func := "perilune/perilunelaw29.NounOctals", spec := "nounOctals", unfollowed := true, recurses := true, apart := false }
def NounOctalsSaid : Prop := nounOctalsRow.holds Try.pinned (OpenSpec.ofChange nounOctalsSpec)

/-- ITS FALSE NEIGHBOUR: 'it returns false'. Refute it at one input. -/
def nounOctalsWrong : ChangeSpec := { name := "nounOctals", fn := fun _ => fun
  | [d1, d2] => { results := [.lit (.bool false)], args := [d1, d2] }
  | _ => none }
def NounOctalsWrongFalsely : Prop := nounOctalsRow.holds Try.pinned (OpenSpec.ofChange nounOctalsWrong)

/-- 'perilunelaw29.NounOrder': WHATEVER THE INPUT: true; the input reads as it did. -/
def nounOrderSpec : ChangeSpec := { name := "nounOrder", fn := fun _ => fun
  | [d1, d2, d3] => { results := [.lit (.bool true)], args := [d1, d2, d3] }
  | _ => none }
def nounOrderRow : OpenClaim := { program := "ytbbgfinnhaekjaa", sum := "f26d2a595cca168f60bcfa0bc2fdc29bfa1f4f662c53d3212bf70edd24a155bb", func := "perilune/perilunelaw29.NounOrder", spec := "nounOrder", unfollowed := true, recurses := true, apart := false }
def NounOrderSaid : Prop := nounOrderRow.holds Try.pinned (OpenSpec.ofChange nounOrderSpec)

/-- ITS FALSE NEIGHBOUR: 'it returns false'. Refute it at one input. -/
def nounOrderWrong : ChangeSpec := { name := "nounOrder", fn := fun _ => fun
  | [d1, d2, d3] => { results := [.lit (.bool false)], args := [d1, d2, d3] }
  | _ => none }
def NounOrderWrongFalsely : Prop := nounOrderRow.holds Try.pinned (OpenSpec.ofChange nounOrderWrong)

/-- 'perilunelaw29.NounTables': WHATEVER THE INPUT: true; the input reads as it did. -/
def nounTablesSpec : ChangeSpec := { name := "nounTables", fn := fun _ => fun
  | [d1, d2] => { results := [.lit (.bool true)], args := [d1, d2] }
  | _ => none }
def nounTablesRow : OpenClaim := { program := "ytbbgfinnhaekjaa", sum := "f26d2a595cca168f60bcfa0bc2fdc29bfa1f4f662c53d3212bf70edd24a155bb", func := "perilune/perilunelaw29.NounTables", spec := "nounTables", unfollowed := true, recurses := true, apart := false }
def NounTablesSaid : Prop := nounTablesRow.holds Try.pinned (OpenSpec.ofChange nounTablesSpec)

/-- ITS FALSE NEIGHBOUR: 'it returns false'. Refute it at one input. -/
def nounTablesWrong : ChangeSpec := { name := "nounTables", fn := fun _ => fun
  | [d1, d2] => { results := [.lit (.bool false)], args := [d1, d2] }
  | _ => none }
def NounTablesWrongFalsely : Prop := nounTablesRow.holds Try.pinned (OpenSpec.ofChange nounTablesWrong)

/-- 'perilunelaw29.NounWords': WHATEVER THE INPUT: true; the input reads as it did. -/
def nounWordsSpec : ChangeSpec := { name := "nounWords", fn := fun _ => fun
  | [d1, d2, d3] => { results := [.lit (.bool true)], args := [d1, d2, d3] }
  | _ => none }
def nounWordsRow : OpenClaim := { program := "ytbbgfinnhaekjaa", sum := "f26d2a595cca168f60bcfa0bc2fdc29bfa1f4f662c53d3212bf70edd24a155bb", func := "perilune/perilunelaw29.NounWords", spec := "nounWords", unfollowed := true, recurses := true, apart := false }
def NounWordsSaid : Prop := nounWordsRow.holds Try.pinned (OpenSpec.ofChange nounWordsSpec)

/-- ITS FALSE NEIGHBOUR: 'it returns false'. Refute it at one input. -/
def nounWordsWrong : ChangeSpec := { name := "nounWords", fn := fun _ => fun
  | [d1, d2, d3] => { results := [.lit (.bool false)], args := [d1, d2, d3] }
  | _ => none }
def NounWordsWrongFalsely : Prop := nounWordsRow.holds Try.pinned (OpenSpec.ofChange nounWordsWrong)

/-- 'perilunelaw29.NounStores': WHATEVER THE INPUT: true; the input reads as it did. -/
def nounStoresSpec : ChangeSpec := { name := "nounStores", fn := fun _ => fun
  | [d1, d2] => { results := [.lit (.bool true)], args := [d1, d2] }
  | _ => none }
def nounStoresRow : OpenClaim := { program := "ytbbgfinnhaekjaa", sum := "f26d2a595cca168f60bcfa0bc2fdc29bfa1f4f662c53d3212bf70edd24a155bb", func := "perilune/perilunelaw29.NounStores", spec := "nounStores", unfollowed := true, recurses := true, apart := false }
def NounStoresSaid : Prop := nounStoresRow.holds Try.pinned (OpenSpec.ofChange nounStoresSpec)

/-- ITS FALSE NEIGHBOUR: 'it returns false'. Refute it at one input. -/
def nounStoresWrong : ChangeSpec := { name := "nounStores", fn := fun _ => fun
  | [d1, d2] => { results := [.lit (.bool false)], args := [d1, d2] }
  | _ => none }
def NounStoresWrongFalsely : Prop := nounStoresRow.holds Try.pinned (OpenSpec.ofChange nounStoresWrong)

/-- 'perilunelaw29.NounKnown': WHATEVER THE INPUT: true; the input reads as it did. -/
def nounKnownSpec : ChangeSpec := { name := "nounKnown", fn := fun _ => fun
  | [] => { results := [.lit (.bool true)], args := [] }
  | _ => none }
def nounKnownRow : OpenClaim := { program := "ytbbgfinnhaekjaa", sum := "f26d2a595cca168f60bcfa0bc2fdc29bfa1f4f662c53d3212bf70edd24a155bb", func := "perilune/perilunelaw29.NounKnown", spec := "nounKnown", unfollowed := true, recurses := true, apart := false }
def NounKnownSaid : Prop := nounKnownRow.holds Try.pinned (OpenSpec.ofChange nounKnownSpec)

/-- ITS FALSE NEIGHBOUR: 'it returns false'. Refute it at one input. -/
def nounKnownWrong : ChangeSpec := { name := "nounKnown", fn := fun _ => fun
  | [] => { results := [.lit (.bool false)], args := [] }
  | _ => none }
def NounKnownWrongFalsely : Prop := nounKnownRow.holds Try.pinned (OpenSpec.ofChange nounKnownWrong)

/- THE SECOND FORM. 'bulk': how many values and letters a reading holds, each counted each time it is reached (what is shared counts as often as it is met; a slice's spare places count too). A statement '..UptoSaid' is the law's where the arguments, and the package variables that the reading takes, are together of bulk at most 1048576: NARROWER than '..Said'. Prove '..Said' where nothing that the law and all that it calls make is longer than what came in: it says more and counts as full. Else prove '..UptoSaid'. A law counts once. -/
mutual
def uptoBulk {H : Type} : DataW H → Nat
  | .lit (.string bytes) => bytes.length + 1
  | .lit _ => 1
  | .nil => 1
  | .ptr d => uptoBulk d + 1
  | .slice elems spare => uptoBulkAll elems + uptoBulkAll spare + 1
  | .agg parts => uptoBulkAll parts + 1
  | .iface _ d => uptoBulk d + 1
  | .map entries => uptoBulkEntries entries + 1
  | .held _ => 1
def uptoBulkAll {H : Type} : List (DataW H) → Nat
  | [] => 0
  | d :: r => uptoBulk d + uptoBulkAll r
def uptoBulkEntries {H : Type} : List (Lit × DataW H) → Nat
  | [] => 0
  | x :: r => uptoBulkEntry x + uptoBulkEntries r
def uptoBulkEntry {H : Type} : Lit × DataW H → Nat
  | (.string bytes, d) => bytes.length + uptoBulk d + 1
  | (_, d) => uptoBulk d + 1
 end
def uptoSmall : (H : Type) → List (DataW H) → Bool := fun _ ds => decide (uptoBulkAll ds ≤ 1048576)
def OpenSpec.upto (s : _root_.Go.ChangeSpec) : _root_.Go.OpenSpec := { _root_.Go.OpenSpec.ofChange s with cond := some uptoSmall }

/-- 'perilunelaw29.NounForms', WHERE WHAT IT READS IS OF BULK AT MOST 1048576: true; the input reads as it did. -/
def nounFormsUptoRow : OpenClaim := { program := "ytbbgfinnhaekjaa", sum := "f26d2a595cca168f60bcfa0bc2fdc29bfa1f4f662c53d3212bf70edd24a155bb", func := "perilune/perilunelaw29.NounForms", spec := "nounForms", unfollowed := true, recurses := true, apart := false, narrowed := true }
def NounFormsUptoSaid : Prop := nounFormsUptoRow.holds Try.pinned (OpenSpec.upto nounFormsSpec)

/-- 'perilunelaw29.NounRound', WHERE WHAT IT READS IS OF BULK AT MOST 1048576: true; the input reads as it did. -/
def nounRoundUptoRow : OpenClaim := { program := "ytbbgfinnhaekjaa", sum := "f26d2a595cca168f60bcfa0bc2fdc29bfa1f4f662c53d3212bf70edd24a155bb", func := "perilune/perilunelaw29.NounRound", spec := "nounRound", unfollowed := true, recurses := true, apart := false, narrowed := true }
def NounRoundUptoSaid : Prop := nounRoundUptoRow.holds Try.pinned (OpenSpec.upto nounRoundSpec)

/-- 'perilunelaw29.NounOctals', WHERE WHAT IT READS IS OF BULK AT MOST 1048576: true; the input reads as it did. -/
def nounOctalsUptoRow : OpenClaim := { program := "ytbbgfinnhaekjaa", sum := "f26d2a595cca168f60bcfa0bc2fdc29bfa1f4f662c53d3212bf70edd24a155bb", func := "perilune/perilunelaw29.NounOctals", spec := "nounOctals", unfollowed := true, recurses := true, apart := false, narrowed := true }
def NounOctalsUptoSaid : Prop := nounOctalsUptoRow.holds Try.pinned (OpenSpec.upto nounOctalsSpec)

/-- 'perilunelaw29.NounOrder', WHERE WHAT IT READS IS OF BULK AT MOST 1048576: true; the input reads as it did. -/
def nounOrderUptoRow : OpenClaim := { program := "ytbbgfinnhaekjaa", sum := "f26d2a595cca168f60bcfa0bc2fdc29bfa1f4f662c53d3212bf70edd24a155bb", func := "perilune/perilunelaw29.NounOrder", spec := "nounOrder", unfollowed := true, recurses := true, apart := false, narrowed := true }
def NounOrderUptoSaid : Prop := nounOrderUptoRow.holds Try.pinned (OpenSpec.upto nounOrderSpec)

/-- 'perilunelaw29.NounTables', WHERE WHAT IT READS IS OF BULK AT MOST 1048576: true; the input reads as it did. -/
def nounTablesUptoRow : OpenClaim := { program := "ytbbgfinnhaekjaa", sum := "f26d2a595cca168f60bcfa0bc2fdc29bfa1f4f662c53d3212bf70edd24a155bb", func := "perilune/perilunelaw29.NounTables", spec := "nounTables", unfollowed := true, recurses := true, apart := false, narrowed := true }
def NounTablesUptoSaid : Prop := nounTablesUptoRow.holds Try.pinned (OpenSpec.upto nounTablesSpec)

/-- 'perilunelaw29.NounWords', WHERE WHAT IT READS IS OF BULK AT MOST 1048576: true; the input reads as it did. -/
def nounWordsUptoRow : OpenClaim := { program := "ytbbgfinnhaekjaa", sum := "f26d2a595cca168f60bcfa0bc2fdc29bfa1f4f662c53d3212bf70edd24a155bb", func := "perilune/perilunelaw29.NounWords", spec := "nounWords", unfollowed := true, recurses := true, apart := false, narrowed := true }
def NounWordsUptoSaid : Prop := nounWordsUptoRow.holds Try.pinned (OpenSpec.upto nounWordsSpec)

/-- 'perilunelaw29.NounStores', WHERE WHAT IT READS IS OF BULK AT MOST 1048576: true; the input reads as it did. -/
def nounStoresUptoRow : OpenClaim := { program := "ytbbgfinnhaekjaa", sum := "f26d2a595cca168f60bcfa0bc2fdc29bfa1f4f662c53d3212bf70edd24a155bb", func := "perilune/perilunelaw29.NounStores", spec := "nounStores", unfollowed := true, recurses := true, apart := false, narrowed := true }
def NounStoresUptoSaid : Prop := nounStoresUptoRow.holds Try.pinned (OpenSpec.upto nounStoresSpec)

/-- 'perilunelaw29.NounKnown', WHERE WHAT IT READS IS OF BULK AT MOST 1048576: true; the input reads as it did. -/
def nounKnownUptoRow : OpenClaim := { program := "ytbbgfinnhaekjaa", sum := "f26d2a595cca168f60bcfa0bc2fdc29bfa1f4f662c53d3212bf70edd24a155bb", func := "perilune/perilunelaw29.NounKnown", spec := "nounKnown", unfollowed := true, recurses := true, apart := false, narrowed := true }
def NounKnownUptoSaid : Prop := nounKnownUptoRow.holds Try.pinned (OpenSpec.upto nounKnownSpec)

end Rows
end Go.Proofs.Ytbbgfinnhaekjaa
