/-
  No cell of these rows narrows 'for every input' (looked for: loops, veiled, ifaces, maps, wideKeys, modest, calm, conditions, laid).
  DERIVED. THE GIVEN ROWS OF THIS SEAT. 5 by the template 'for every input the law returns true; each argument reads behind the call as it read before'; 0 by the template 'total and deterministic' (their statements: YtblgcojannjmcaaTotals.lean).
  GIVEN WITH THE SEED: the statements are not yours to turn. If you find one false, say at which input.
  Laid BY PROGRAM, IN A SANDBOX (cutbox-rows.mjs): the forced cells as the released guide's own fill.sh prints them over the translation 14cc59a79a56744a… (all of the seat's roots in one cut). By AI agents, Wed Nov 11 2026. No macro, syntax, notation, axiom, sorry.
-/
import Derived.Test.YtblgcojannjmcaaChecked
import GoSem.Claim
import GoSem.ClaimJoined
import GoSem.ClaimMapViews
import Derived.JoinedTies
import Derived.KernelRfl
namespace Go.Proofs.Ytblgcojannjmcaa
/- THE CELL 'sum', in the pinned program and in every row, IS THE sha256 OF THE DUMP (.gsa) THAT YtblgcojannjmcaaProg.lean LOADS. Nothing in Lean hashes anything: it is a label: what it is worth is what the hold of that sum in a sandbox is worth. -/
noncomputable def Try.pinned : Pinned := { name := "ytblgcojannjmcaa", sum := "14cc59a79a56744a68e8fcaaa29f9e6c1e7a2f2704f6ad6f44a6eb4b9db3e58d", checked := Try.checked }
namespace Rows
def none {H : Type} : Left H := { results := [], args := [] }

/-- 'perilunelaw30.PanelRefuses': WHATEVER THE INPUT: true; the input reads as it did. -/
def panelRefusesSpec : ChangeSpec := { name := "panelRefuses", fn := fun _ => fun
  | [d1, d2] => { results := [.lit (.bool true)], args := [d1, d2] }
  | _ => none }
def panelRefusesRow : OpenClaim := { program := "ytblgcojannjmcaa", sum := "14cc59a79a56744a68e8fcaaa29f9e6c1e7a2f2704f6ad6f44a6eb4b9db3e58d", func := "perilune/perilunelaw30.PanelRefuses", spec := "panelRefuses", unfollowed := true, recurses := true, apart := false }
def PanelRefusesSaid : Prop := panelRefusesRow.holds Try.pinned (OpenSpec.ofChange panelRefusesSpec)

/-- ITS FALSE NEIGHBOUR: 'it returns false'. Refute it at one input. -/
def panelRefusesWrong : ChangeSpec := { name := "panelRefuses", fn := fun _ => fun
  | [d1, d2] => { results := [.lit (.bool false)], args := [d1, d2] }
  | _ => none }
def PanelRefusesWrongFalsely : Prop := panelRefusesRow.holds Try.pinned (OpenSpec.ofChange panelRefusesWrong)

/-- 'perilunelaw30.PanelLoads': WHATEVER THE INPUT: true; the input reads as it did. -/
def panelLoadsSpec : ChangeSpec := { name := "panelLoads", fn := fun _ => fun
  | [d1, d2, d3] => { results := [.lit (.bool true)], args := [d1, d2, d3] }
  | _ => none }
def panelLoadsRow : OpenClaim := { program := "ytblgcojannjmcaa", sum := "14cc59a79a56744a68e8fcaaa29f9e6c1e7a2f2704f6ad6f44a6eb4b9db3e58d", func := "perilune/perilunelaw30.PanelLoads", spec := "panelLoads", unfollowed := true, recurses := true, apart := false }
def PanelLoadsSaid : Prop := panelLoadsRow.holds Try.pinned (OpenSpec.ofChange panelLoadsSpec)

/-- ITS FALSE NEIGHBOUR: 'it returns false'. Refute it at one input. -/
def panelLoadsWrong : ChangeSpec := { name := "panelLoads", fn := fun _ => fun
  | [d1, d2, d3] => { results := [.lit (.bool false)], args := [d1, d2, d3] }
  | _ => none }
def PanelLoadsWrongFalsely : Prop := panelLoadsRow.holds Try.pinned (OpenSpec.ofChange panelLoadsWrong)

/-- 'perilunelaw30.PanelAsks': WHATEVER THE INPUT: true; the input reads as it did. -/
def panelAsksSpec : ChangeSpec := { name := "panelAsks", fn := fun _ => fun
  | [d1, d2] => { results := [.lit (.bool true)], args := [d1, d2] }
  | _ => none }
def panelAsksRow : OpenClaim := { program := "ytblgcojannjmcaa", sum := "14cc59a79a56744a68e8fcaaa29f9e6c1e7a2f2704f6ad6f44a6eb4b9db3e58d", func := "perilune/perilunelaw30.PanelAsks", spec := "panelAsks", unfollowed := true, recurses := true, apart := false }
def PanelAsksSaid : Prop := panelAsksRow.holds Try.pinned (OpenSpec.ofChange panelAsksSpec)

/-- ITS FALSE NEIGHBOUR: 'it returns false'. Refute it at one input. -/
def panelAsksWrong : ChangeSpec := { name := "panelAsks", fn := fun _ => fun
  | [d1, d2] => { results := [.lit (.bool false)], args := [d1, d2] }
  | _ => none }
def PanelAsksWrongFalsely : Prop := panelAsksRow.holds Try.pinned (OpenSpec.ofChange panelAsksWrong)

/-- 'perilunelaw30.PanelKnown': WHATEVER THE INPUT: true; the input reads as it did. -/
def panelKnownSpec : ChangeSpec := { name := "panelKnown", fn := fun _ => fun
  | [] => { results := [.lit (.bool true)], args := [] }
  | _ => none }
def panelKnownRow : OpenClaim := { program := "ytblgcojannjmcaa", sum := "14cc59a79a56744a68e8fcaaa29f9e6c1e7a2f2704f6ad6f44a6eb4b9db3e58d", func := "perilune/perilunelaw30.PanelKnown", spec := "panelKnown", unfollowed := true, recurses := true, apart := false }
def PanelKnownSaid : Prop := panelKnownRow.holds Try.pinned (OpenSpec.ofChange panelKnownSpec)

/-- ITS FALSE NEIGHBOUR: 'it returns false'. Refute it at one input. -/
def panelKnownWrong : ChangeSpec := { name := "panelKnown", fn := fun _ => fun
  | [] => { results := [.lit (.bool false)], args := [] }
  | _ => none }
def PanelKnownWrongFalsely : Prop := panelKnownRow.holds Try.pinned (OpenSpec.ofChange panelKnownWrong)

/-- 'perilunelaw30.PanelValid': WHATEVER THE INPUT: true; the input reads as it did. -/
def panelValidSpec : ChangeSpec := { name := "panelValid", fn := fun _ => fun
  | [d1, d2, d3] => { results := [.lit (.bool true)], args := [d1, d2, d3] }
  | _ => none }
def panelValidRow : OpenClaim := { program := "ytblgcojannjmcaa", sum := "14cc59a79a56744a68e8fcaaa29f9e6c1e7a2f2704f6ad6f44a6eb4b9db3e58d", func := "perilune/perilunelaw30.PanelValid", spec := "panelValid", unfollowed := true, recurses := true, apart := false }
def PanelValidSaid : Prop := panelValidRow.holds Try.pinned (OpenSpec.ofChange panelValidSpec)

/-- ITS FALSE NEIGHBOUR: 'it returns false'. Refute it at one input. -/
def panelValidWrong : ChangeSpec := { name := "panelValid", fn := fun _ => fun
  | [d1, d2, d3] => { results := [.lit (.bool false)], args := [d1, d2, d3] }
  | _ => none }
def PanelValidWrongFalsely : Prop := panelValidRow.holds Try.pinned (OpenSpec.ofChange panelValidWrong)

/- THE SECOND FORM. 'bulk': how many values and letters a reading holds, each counted each time it is reached (what is shared counts as often as it is met; a slice's spare places count too). A statement '..UptoSaid' is the law's where the arguments, and the package variables that the reading takes, are together of bulk at most 1048576: NARROWER than '..Said'. Prove '..Said' where nothing that the law and all that it calls make is longer than what came in: it says more and counts as full. Else prove '..UptoSaid'. A law counts once. -/
mutual
def uptoBulk {H : Type} : DataW H → Nat
  | .lit (.string bytes) => bytes.length + 1
  | .lit _ => 1
  | .nil => 1
  | .ptr d => uptoBulk d + 1
  | .slice elems spare => uptoBulkAll elems + uptoBulkAll spare + 1
  | .agg parts => uptoBulkAll parts + 1
  | .iface _ d => uptoBulk d + 1
  | .map entries => uptoBulkEntries entries + 1
  | .held _ => 1
def uptoBulkAll {H : Type} : List (DataW H) → Nat
  | [] => 0
  | d :: r => uptoBulk d + uptoBulkAll r
def uptoBulkEntries {H : Type} : List (Lit × DataW H) → Nat
  | [] => 0
  | x :: r => uptoBulkEntry x + uptoBulkEntries r
def uptoBulkEntry {H : Type} : Lit × DataW H → Nat
  | (.string bytes, d) => bytes.length + uptoBulk d + 1
  | (_, d) => uptoBulk d + 1
 end
def uptoSmall : (H : Type) → List (DataW H) → Bool := fun _ ds => decide (uptoBulkAll ds ≤ 1048576)
def OpenSpec.upto (s : _root_.Go.ChangeSpec) : _root_.Go.OpenSpec := { _root_.Go.OpenSpec.ofChange s with cond := some uptoSmall }

/-- 'perilunelaw30.PanelRefuses', WHERE WHAT IT READS IS OF BULK AT MOST 1048576: true; the input reads as it did. -/
def panelRefusesUptoRow : OpenClaim := { program := "ytblgcojannjmcaa", sum := "14cc59a79a56744a68e8fcaaa29f9e6c1e7a2f2704f6ad6f44a6eb4b9db3e58d", func := "perilune/perilunelaw30.PanelRefuses", spec := "panelRefuses", unfollowed := true, recurses := true, apart := false, narrowed := true }
def PanelRefusesUptoSaid : Prop := panelRefusesUptoRow.holds Try.pinned (OpenSpec.upto panelRefusesSpec)

/-- 'perilunelaw30.PanelLoads', WHERE WHAT IT READS IS OF BULK AT MOST 1048576: true; the input reads as it did. -/
def panelLoadsUptoRow : OpenClaim := { program := "ytblgcojannjmcaa", sum := "14cc59a79a56744a68e8fcaaa29f9e6c1e7a2f2704f6ad6f44a6eb4b9db3e58d", func := "perilune/perilunelaw30.PanelLoads", spec := "panelLoads", unfollowed := true, recurses := true, apart := false, narrowed := true }
def PanelLoadsUptoSaid : Prop := panelLoadsUptoRow.holds Try.pinned (OpenSpec.upto panelLoadsSpec)

/-- 'perilunelaw30.PanelAsks', WHERE WHAT IT READS IS OF BULK AT MOST 1048576: true; the input reads as it did. -/
def panelAsksUptoRow : OpenClaim := { program := "ytblgcojannjmcaa", sum := "14cc59a79a56744a68e8fcaaa29f9e6c1e7a2f2704f6ad6f44a6eb4b9db3e58d", func := "perilune/perilunelaw30.PanelAsks", spec := "panelAsks", unfollowed := true, recurses := true, apart := false, narrowed := true }
def PanelAsksUptoSaid : Prop := panelAsksUptoRow.holds Try.pinned (OpenSpec.upto panelAsksSpec)

/-- 'perilunelaw30.PanelKnown', WHERE WHAT IT READS IS OF BULK AT MOST 1048576: true; the input reads as it did. -/
def panelKnownUptoRow : OpenClaim := { program := "ytblgcojannjmcaa", sum := "14cc59a79a56744a68e8fcaaa29f9e6c1e7a2f2704f6ad6f44a6eb4b9db3e58d", func := "perilune/perilunelaw30.PanelKnown", spec := "panelKnown", unfollowed := true, recurses := true, apart := false, narrowed := true }
def PanelKnownUptoSaid : Prop := panelKnownUptoRow.holds Try.pinned (OpenSpec.upto panelKnownSpec)

/-- 'perilunelaw30.PanelValid', WHERE WHAT IT READS IS OF BULK AT MOST 1048576: true; the input reads as it did. -/
def panelValidUptoRow : OpenClaim := { program := "ytblgcojannjmcaa", sum := "14cc59a79a56744a68e8fcaaa29f9e6c1e7a2f2704f6ad6f44a6eb4b9db3e58d", func := "perilune/perilunelaw30.PanelValid", spec := "panelValid", unfollowed := true, recurses := true, apart := false, narrowed := true }
def PanelValidUptoSaid : Prop := panelValidUptoRow.holds Try.pinned (OpenSpec.upto panelValidSpec)

end Rows
end Go.Proofs.Ytblgcojannjmcaa
