/-
  NARROWER THAN 'FOR EVERY INPUT', by the rows' own cells (each row's printed sentence says how): DyadicRounds: laid · DyadicForms: laid · DyadicDoubles: laid · DyadicOrder: laid · DyadicDistance: laid · DyadicProducts: laid · DyadicSums: laid · DyadicEdges: laid · DyadicNearest: laid · DyadicRing: laid · DyadicKeeps: laid · DyadicKnown: laid.
  DERIVED. THE GIVEN ROWS OF THIS SEAT. 12 by the template 'for every input the law returns true; each argument reads behind the call as it read before'; 0 by the template 'total and deterministic' (their statements: YtjdmcooghikhhaaDoorTotals.lean).
  GIVEN WITH THE SEED: the statements are not yours to turn. If you find one false, say at which input.
  Laid BY PROGRAM, IN A SANDBOX (cutbox-rows.mjs): the forced cells as the released guide's own fill.sh prints them over the translation 1965fe96e582568c… (all of the seat's roots in one cut). By AI agents, Wed Nov 11 2026. No macro, syntax, notation, axiom, sorry.
-/
import Derived.Test.YtjdmcooghikhhaaDoorChecked
import GoSem.Claim
import GoSem.ClaimJoined
import GoSem.ClaimMapViews
import Derived.JoinedTies
import Derived.KernelRfl
namespace Go.Proofs.YtjdmcooghikhhaaDoor
/- THE CELL 'sum', in the pinned program and in every row, IS THE sha256 OF THE DUMP (.gsa) THAT YtjdmcooghikhhaaDoorProg.lean LOADS. Nothing in Lean hashes anything: it is a label: what it is worth is what the hold of that sum in a sandbox is worth. -/
noncomputable def Tryd.pinned : Pinned := { name := "ytjdmcooghikhhaadoor", sum := "1965fe96e582568c88ae73ec9eeb18ee98a1d0c59c5eb8d28540e6c3888691f0", checked := Tryd.checked }
namespace Rows
def none {H : Type} : Left H := { results := [], args := [] }

/- WHAT THE LISTED PACKAGE-LEVEL VARIABLES READ AS WHEN THE CALL BEGINS. Each datum BY PROGRAM (the guide's laid-datum.mjs) off the statement by which the dump's own 'gosem.cut.vars' lays the variable. In a bare row this is a premise. The card (YtjdmcooghikhhaaDoorCards.lean) ties it to the program's text. -/
def laid_math_bits_deBruijn32tab {H : Type} : DataW H := .agg [.lit (.int .u8 0), .lit (.int .u8 1), .lit (.int .u8 28), .lit (.int .u8 2), .lit (.int .u8 29), .lit (.int .u8 14), .lit (.int .u8 24), .lit (.int .u8 3), .lit (.int .u8 30), .lit (.int .u8 22), .lit (.int .u8 20), .lit (.int .u8 15), .lit (.int .u8 25), .lit (.int .u8 17), .lit (.int .u8 4), .lit (.int .u8 8), .lit (.int .u8 31), .lit (.int .u8 27), .lit (.int .u8 13), .lit (.int .u8 23), .lit (.int .u8 21), .lit (.int .u8 19), .lit (.int .u8 16), .lit (.int .u8 7), .lit (.int .u8 26), .lit (.int .u8 12), .lit (.int .u8 18), .lit (.int .u8 6), .lit (.int .u8 11), .lit (.int .u8 5), .lit (.int .u8 10), .lit (.int .u8 9)]
def laid_math_bits_deBruijn64tab {H : Type} : DataW H := .agg [.lit (.int .u8 0), .lit (.int .u8 1), .lit (.int .u8 56), .lit (.int .u8 2), .lit (.int .u8 57), .lit (.int .u8 49), .lit (.int .u8 28), .lit (.int .u8 3), .lit (.int .u8 61), .lit (.int .u8 58), .lit (.int .u8 42), .lit (.int .u8 50), .lit (.int .u8 38), .lit (.int .u8 29), .lit (.int .u8 17), .lit (.int .u8 4), .lit (.int .u8 62), .lit (.int .u8 47), .lit (.int .u8 59), .lit (.int .u8 36), .lit (.int .u8 45), .lit (.int .u8 43), .lit (.int .u8 51), .lit (.int .u8 22), .lit (.int .u8 53), .lit (.int .u8 39), .lit (.int .u8 33), .lit (.int .u8 30), .lit (.int .u8 24), .lit (.int .u8 18), .lit (.int .u8 12), .lit (.int .u8 5), .lit (.int .u8 63), .lit (.int .u8 55), .lit (.int .u8 48), .lit (.int .u8 27), .lit (.int .u8 60), .lit (.int .u8 41), .lit (.int .u8 37), .lit (.int .u8 16), .lit (.int .u8 46), .lit (.int .u8 35), .lit (.int .u8 44), .lit (.int .u8 21), .lit (.int .u8 52), .lit (.int .u8 32), .lit (.int .u8 23), .lit (.int .u8 11), .lit (.int .u8 54), .lit (.int .u8 26), .lit (.int .u8 40), .lit (.int .u8 15), .lit (.int .u8 34), .lit (.int .u8 20), .lit (.int .u8 31), .lit (.int .u8 10), .lit (.int .u8 25), .lit (.int .u8 14), .lit (.int .u8 19), .lit (.int .u8 9), .lit (.int .u8 13), .lit (.int .u8 8), .lit (.int .u8 7), .lit (.int .u8 6)]
def laid_internal_strconv_uint64pow10 {H : Type} : DataW H := .agg [.lit (.int .u64 1), .lit (.int .u64 10), .lit (.int .u64 100), .lit (.int .u64 1000), .lit (.int .u64 10000), .lit (.int .u64 100000), .lit (.int .u64 1000000), .lit (.int .u64 10000000), .lit (.int .u64 100000000), .lit (.int .u64 1000000000), .lit (.int .u64 10000000000), .lit (.int .u64 100000000000), .lit (.int .u64 1000000000000), .lit (.int .u64 10000000000000), .lit (.int .u64 100000000000000), .lit (.int .u64 1000000000000000), .lit (.int .u64 10000000000000000), .lit (.int .u64 100000000000000000), .lit (.int .u64 1000000000000000000), .lit (.int .u64 10000000000000000000)]

/-- 'perilunelaw14.DyadicRounds': WHATEVER THE INPUT: true; the input reads as it did. -/
def dyadicRoundsSpec : ChangeSpec := { name := "dyadicRounds", fn := fun _ => fun
  | [d1, d2] => { results := [.lit (.bool true)], args := [d1, d2] }
  | _ => none }
def dyadicRoundsRow : OpenClaim := { program := "ytjdmcooghikhhaadoor", sum := "1965fe96e582568c88ae73ec9eeb18ee98a1d0c59c5eb8d28540e6c3888691f0", func := "perilune/perilunelaw14.DyadicRounds", spec := "dyadicRounds", unfollowed := true, recurses := true, named := ["internal/strconv.uint64pow10", "math/bits.deBruijn32tab", "math/bits.deBruijn64tab"], apart := false, laid := [("math/bits.deBruijn32tab", laid_math_bits_deBruijn32tab), ("math/bits.deBruijn64tab", laid_math_bits_deBruijn64tab), ("internal/strconv.uint64pow10", laid_internal_strconv_uint64pow10)] }
def DyadicRoundsSaid : Prop := dyadicRoundsRow.holds Tryd.pinned (OpenSpec.ofChange dyadicRoundsSpec)

/-- ITS FALSE NEIGHBOUR: 'it returns false'. Refute it at one input. -/
def dyadicRoundsWrong : ChangeSpec := { name := "dyadicRounds", fn := fun _ => fun
  | [d1, d2] => { results := [.lit (.bool false)], args := [d1, d2] }
  | _ => none }
def DyadicRoundsWrongFalsely : Prop := dyadicRoundsRow.holds Tryd.pinned (OpenSpec.ofChange dyadicRoundsWrong)

/-- 'perilunelaw14.DyadicForms': WHATEVER THE INPUT: true; the input reads as it did. -/
def dyadicFormsSpec : ChangeSpec := { name := "dyadicForms", fn := fun _ => fun
  | [d1, d2, d3] => { results := [.lit (.bool true)], args := [d1, d2, d3] }
  | _ => none }
def dyadicFormsRow : OpenClaim := { program := "ytjdmcooghikhhaadoor", sum := "1965fe96e582568c88ae73ec9eeb18ee98a1d0c59c5eb8d28540e6c3888691f0", func := "perilune/perilunelaw14.DyadicForms", spec := "dyadicForms", unfollowed := true, recurses := true, named := ["internal/strconv.uint64pow10", "math/bits.deBruijn32tab", "math/bits.deBruijn64tab"], apart := false, laid := [("math/bits.deBruijn32tab", laid_math_bits_deBruijn32tab), ("math/bits.deBruijn64tab", laid_math_bits_deBruijn64tab), ("internal/strconv.uint64pow10", laid_internal_strconv_uint64pow10)] }
def DyadicFormsSaid : Prop := dyadicFormsRow.holds Tryd.pinned (OpenSpec.ofChange dyadicFormsSpec)

/-- ITS FALSE NEIGHBOUR: 'it returns false'. Refute it at one input. -/
def dyadicFormsWrong : ChangeSpec := { name := "dyadicForms", fn := fun _ => fun
  | [d1, d2, d3] => { results := [.lit (.bool false)], args := [d1, d2, d3] }
  | _ => none }
def DyadicFormsWrongFalsely : Prop := dyadicFormsRow.holds Tryd.pinned (OpenSpec.ofChange dyadicFormsWrong)

/-- 'perilunelaw14.DyadicDoubles': WHATEVER THE INPUT: true; the input reads as it did. -/
def dyadicDoublesSpec : ChangeSpec := { name := "dyadicDoubles", fn := fun _ => fun
  | [d] => { results := [.lit (.bool true)], args := [d] }
  | _ => none }
def dyadicDoublesRow : OpenClaim := { program := "ytjdmcooghikhhaadoor", sum := "1965fe96e582568c88ae73ec9eeb18ee98a1d0c59c5eb8d28540e6c3888691f0", func := "perilune/perilunelaw14.DyadicDoubles", spec := "dyadicDoubles", unfollowed := true, recurses := true, named := ["internal/strconv.uint64pow10", "math/bits.deBruijn32tab", "math/bits.deBruijn64tab"], apart := false, laid := [("math/bits.deBruijn32tab", laid_math_bits_deBruijn32tab), ("math/bits.deBruijn64tab", laid_math_bits_deBruijn64tab), ("internal/strconv.uint64pow10", laid_internal_strconv_uint64pow10)] }
def DyadicDoublesSaid : Prop := dyadicDoublesRow.holds Tryd.pinned (OpenSpec.ofChange dyadicDoublesSpec)

/-- ITS FALSE NEIGHBOUR: 'it returns false'. Refute it at one input. -/
def dyadicDoublesWrong : ChangeSpec := { name := "dyadicDoubles", fn := fun _ => fun
  | [d] => { results := [.lit (.bool false)], args := [d] }
  | _ => none }
def DyadicDoublesWrongFalsely : Prop := dyadicDoublesRow.holds Tryd.pinned (OpenSpec.ofChange dyadicDoublesWrong)

/-- 'perilunelaw14.DyadicOrder': WHATEVER THE INPUT: true; the input reads as it did. -/
def dyadicOrderSpec : ChangeSpec := { name := "dyadicOrder", fn := fun _ => fun
  | [d1, d2, d3] => { results := [.lit (.bool true)], args := [d1, d2, d3] }
  | _ => none }
def dyadicOrderRow : OpenClaim := { program := "ytjdmcooghikhhaadoor", sum := "1965fe96e582568c88ae73ec9eeb18ee98a1d0c59c5eb8d28540e6c3888691f0", func := "perilune/perilunelaw14.DyadicOrder", spec := "dyadicOrder", unfollowed := true, recurses := true, named := ["internal/strconv.uint64pow10", "math/bits.deBruijn32tab", "math/bits.deBruijn64tab"], apart := false, laid := [("math/bits.deBruijn32tab", laid_math_bits_deBruijn32tab), ("math/bits.deBruijn64tab", laid_math_bits_deBruijn64tab), ("internal/strconv.uint64pow10", laid_internal_strconv_uint64pow10)] }
def DyadicOrderSaid : Prop := dyadicOrderRow.holds Tryd.pinned (OpenSpec.ofChange dyadicOrderSpec)

/-- ITS FALSE NEIGHBOUR: 'it returns false'. Refute it at one input. -/
def dyadicOrderWrong : ChangeSpec := { name := "dyadicOrder", fn := fun _ => fun
  | [d1, d2, d3] => { results := [.lit (.bool false)], args := [d1, d2, d3] }
  | _ => none }
def DyadicOrderWrongFalsely : Prop := dyadicOrderRow.holds Tryd.pinned (OpenSpec.ofChange dyadicOrderWrong)

/-- 'perilunelaw14.DyadicDistance': WHATEVER THE INPUT: true; the input reads as it did. -/
def dyadicDistanceSpec : ChangeSpec := { name := "dyadicDistance", fn := fun _ => fun
  | [d1, d2, d3] => { results := [.lit (.bool true)], args := [d1, d2, d3] }
  | _ => none }
def dyadicDistanceRow : OpenClaim := { program := "ytjdmcooghikhhaadoor", sum := "1965fe96e582568c88ae73ec9eeb18ee98a1d0c59c5eb8d28540e6c3888691f0", func := "perilune/perilunelaw14.DyadicDistance", spec := "dyadicDistance", unfollowed := true, recurses := true, named := ["internal/strconv.uint64pow10", "math/bits.deBruijn32tab", "math/bits.deBruijn64tab"], apart := false, laid := [("math/bits.deBruijn32tab", laid_math_bits_deBruijn32tab), ("math/bits.deBruijn64tab", laid_math_bits_deBruijn64tab), ("internal/strconv.uint64pow10", laid_internal_strconv_uint64pow10)] }
def DyadicDistanceSaid : Prop := dyadicDistanceRow.holds Tryd.pinned (OpenSpec.ofChange dyadicDistanceSpec)

/-- ITS FALSE NEIGHBOUR: 'it returns false'. Refute it at one input. -/
def dyadicDistanceWrong : ChangeSpec := { name := "dyadicDistance", fn := fun _ => fun
  | [d1, d2, d3] => { results := [.lit (.bool false)], args := [d1, d2, d3] }
  | _ => none }
def DyadicDistanceWrongFalsely : Prop := dyadicDistanceRow.holds Tryd.pinned (OpenSpec.ofChange dyadicDistanceWrong)

/-- 'perilunelaw14.DyadicProducts': WHATEVER THE INPUT: true; the input reads as it did. -/
def dyadicProductsSpec : ChangeSpec := { name := "dyadicProducts", fn := fun _ => fun
  | [d1, d2] => { results := [.lit (.bool true)], args := [d1, d2] }
  | _ => none }
def dyadicProductsRow : OpenClaim := { program := "ytjdmcooghikhhaadoor", sum := "1965fe96e582568c88ae73ec9eeb18ee98a1d0c59c5eb8d28540e6c3888691f0", func := "perilune/perilunelaw14.DyadicProducts", spec := "dyadicProducts", unfollowed := true, recurses := true, named := ["internal/strconv.uint64pow10", "math/bits.deBruijn32tab", "math/bits.deBruijn64tab"], apart := false, laid := [("math/bits.deBruijn32tab", laid_math_bits_deBruijn32tab), ("math/bits.deBruijn64tab", laid_math_bits_deBruijn64tab), ("internal/strconv.uint64pow10", laid_internal_strconv_uint64pow10)] }
def DyadicProductsSaid : Prop := dyadicProductsRow.holds Tryd.pinned (OpenSpec.ofChange dyadicProductsSpec)

/-- ITS FALSE NEIGHBOUR: 'it returns false'. Refute it at one input. -/
def dyadicProductsWrong : ChangeSpec := { name := "dyadicProducts", fn := fun _ => fun
  | [d1, d2] => { results := [.lit (.bool false)], args := [d1, d2] }
  | _ => none }
def DyadicProductsWrongFalsely : Prop := dyadicProductsRow.holds Tryd.pinned (OpenSpec.ofChange dyadicProductsWrong)

/-- 'perilunelaw14.DyadicSums': WHATEVER THE INPUT: true; the input reads as it did. -/
def dyadicSumsSpec : ChangeSpec := { name := "dyadicSums", fn := fun _ => fun
  | [d1, d2] => { results := [.lit (.bool true)], args := [d1, d2] }
  | _ => none }
def dyadicSumsRow : OpenClaim := { program := "ytjdmcooghikhhaadoor", sum := "1965fe96e582568c88ae73ec9eeb18ee98a1d0c59c5eb8d28540e6c3888691f0", func := "perilune/perilunelaw14.DyadicSums", spec := "dyadicSums", unfollowed := true, recurses := true, named := ["internal/strconv.uint64pow10", "math/bits.deBruijn32tab", "math/bits.deBruijn64tab"], apart := false, laid := [("math/bits.deBruijn32tab", laid_math_bits_deBruijn32tab), ("math/bits.deBruijn64tab", laid_math_bits_deBruijn64tab), ("internal/strconv.uint64pow10", laid_internal_strconv_uint64pow10)] }
def DyadicSumsSaid : Prop := dyadicSumsRow.holds Tryd.pinned (OpenSpec.ofChange dyadicSumsSpec)

/-- ITS FALSE NEIGHBOUR: 'it returns false'. Refute it at one input. -/
def dyadicSumsWrong : ChangeSpec := { name := "dyadicSums", fn := fun _ => fun
  | [d1, d2] => { results := [.lit (.bool false)], args := [d1, d2] }
  | _ => none }
def DyadicSumsWrongFalsely : Prop := dyadicSumsRow.holds Tryd.pinned (OpenSpec.ofChange dyadicSumsWrong)

/-- 'perilunelaw14.DyadicEdges': WHATEVER THE INPUT: true; the input reads as it did. -/
def dyadicEdgesSpec : ChangeSpec := { name := "dyadicEdges", fn := fun _ => fun
  | [d] => { results := [.lit (.bool true)], args := [d] }
  | _ => none }
def dyadicEdgesRow : OpenClaim := { program := "ytjdmcooghikhhaadoor", sum := "1965fe96e582568c88ae73ec9eeb18ee98a1d0c59c5eb8d28540e6c3888691f0", func := "perilune/perilunelaw14.DyadicEdges", spec := "dyadicEdges", unfollowed := true, recurses := true, named := ["internal/strconv.uint64pow10", "math/bits.deBruijn32tab", "math/bits.deBruijn64tab"], apart := false, laid := [("math/bits.deBruijn32tab", laid_math_bits_deBruijn32tab), ("math/bits.deBruijn64tab", laid_math_bits_deBruijn64tab), ("internal/strconv.uint64pow10", laid_internal_strconv_uint64pow10)] }
def DyadicEdgesSaid : Prop := dyadicEdgesRow.holds Tryd.pinned (OpenSpec.ofChange dyadicEdgesSpec)

/-- ITS FALSE NEIGHBOUR: 'it returns false'. Refute it at one input. -/
def dyadicEdgesWrong : ChangeSpec := { name := "dyadicEdges", fn := fun _ => fun
  | [d] => { results := [.lit (.bool false)], args := [d] }
  | _ => none }
def DyadicEdgesWrongFalsely : Prop := dyadicEdgesRow.holds Tryd.pinned (OpenSpec.ofChange dyadicEdgesWrong)

/-- 'perilunelaw14.DyadicNearest': WHATEVER THE INPUT: true; the input reads as it did. -/
def dyadicNearestSpec : ChangeSpec := { name := "dyadicNearest", fn := fun _ => fun
  | [d1, d2] => { results := [.lit (.bool true)], args := [d1, d2] }
  | _ => none }
def dyadicNearestRow : OpenClaim := { program := "ytjdmcooghikhhaadoor", sum := "1965fe96e582568c88ae73ec9eeb18ee98a1d0c59c5eb8d28540e6c3888691f0", func := "perilune/perilunelaw14.DyadicNearest", spec := "dyadicNearest", unfollowed := true, recurses := true, named := ["internal/strconv.uint64pow10", "math/bits.deBruijn32tab", "math/bits.deBruijn64tab"], apart := false, laid := [("math/bits.deBruijn32tab", laid_math_bits_deBruijn32tab), ("math/bits.deBruijn64tab", laid_math_bits_deBruijn64tab), ("internal/strconv.uint64pow10", laid_internal_strconv_uint64pow10)] }
def DyadicNearestSaid : Prop := dyadicNearestRow.holds Tryd.pinned (OpenSpec.ofChange dyadicNearestSpec)

/-- ITS FALSE NEIGHBOUR: 'it returns false'. Refute it at one input. -/
def dyadicNearestWrong : ChangeSpec := { name := "dyadicNearest", fn := fun _ => fun
  | [d1, d2] => { results := [.lit (.bool false)], args := [d1, d2] }
  | _ => none }
def DyadicNearestWrongFalsely : Prop := dyadicNearestRow.holds Tryd.pinned (OpenSpec.ofChange dyadicNearestWrong)

/-- 'perilunelaw14.DyadicRing': WHATEVER THE INPUT: true; the input reads as it did. -/
def dyadicRingSpec : ChangeSpec := { name := "dyadicRing", fn := fun _ => fun
  | [d1, d2, d3] => { results := [.lit (.bool true)], args := [d1, d2, d3] }
  | _ => none }
def dyadicRingRow : OpenClaim := { program := "ytjdmcooghikhhaadoor", sum := "1965fe96e582568c88ae73ec9eeb18ee98a1d0c59c5eb8d28540e6c3888691f0", func := "perilune/perilunelaw14.DyadicRing", spec := "dyadicRing", unfollowed := true, recurses := true, named := ["internal/strconv.uint64pow10", "math/bits.deBruijn32tab", "math/bits.deBruijn64tab"], apart := false, laid := [("math/bits.deBruijn32tab", laid_math_bits_deBruijn32tab), ("math/bits.deBruijn64tab", laid_math_bits_deBruijn64tab), ("internal/strconv.uint64pow10", laid_internal_strconv_uint64pow10)] }
def DyadicRingSaid : Prop := dyadicRingRow.holds Tryd.pinned (OpenSpec.ofChange dyadicRingSpec)

/-- ITS FALSE NEIGHBOUR: 'it returns false'. Refute it at one input. -/
def dyadicRingWrong : ChangeSpec := { name := "dyadicRing", fn := fun _ => fun
  | [d1, d2, d3] => { results := [.lit (.bool false)], args := [d1, d2, d3] }
  | _ => none }
def DyadicRingWrongFalsely : Prop := dyadicRingRow.holds Tryd.pinned (OpenSpec.ofChange dyadicRingWrong)

/-- 'perilunelaw14.DyadicKeeps': WHATEVER THE INPUT: true; the input reads as it did. -/
def dyadicKeepsSpec : ChangeSpec := { name := "dyadicKeeps", fn := fun _ => fun
  | [d1, d2, d3] => { results := [.lit (.bool true)], args := [d1, d2, d3] }
  | _ => none }
def dyadicKeepsRow : OpenClaim := { program := "ytjdmcooghikhhaadoor", sum := "1965fe96e582568c88ae73ec9eeb18ee98a1d0c59c5eb8d28540e6c3888691f0", func := "perilune/perilunelaw14.DyadicKeeps", spec := "dyadicKeeps", unfollowed := true, recurses := true, named := ["internal/strconv.uint64pow10", "math/bits.deBruijn32tab", "math/bits.deBruijn64tab"], apart := false, laid := [("math/bits.deBruijn32tab", laid_math_bits_deBruijn32tab), ("math/bits.deBruijn64tab", laid_math_bits_deBruijn64tab), ("internal/strconv.uint64pow10", laid_internal_strconv_uint64pow10)] }
def DyadicKeepsSaid : Prop := dyadicKeepsRow.holds Tryd.pinned (OpenSpec.ofChange dyadicKeepsSpec)

/-- ITS FALSE NEIGHBOUR: 'it returns false'. Refute it at one input. -/
def dyadicKeepsWrong : ChangeSpec := { name := "dyadicKeeps", fn := fun _ => fun
  | [d1, d2, d3] => { results := [.lit (.bool false)], args := [d1, d2, d3] }
  | _ => none }
def DyadicKeepsWrongFalsely : Prop := dyadicKeepsRow.holds Tryd.pinned (OpenSpec.ofChange dyadicKeepsWrong)

/-- 'perilunelaw14.DyadicKnown': WHATEVER THE INPUT: true; the input reads as it did. -/
def dyadicKnownSpec : ChangeSpec := { name := "dyadicKnown", fn := fun _ => fun
  | [] => { results := [.lit (.bool true)], args := [] }
  | _ => none }
def dyadicKnownRow : OpenClaim := { program := "ytjdmcooghikhhaadoor", sum := "1965fe96e582568c88ae73ec9eeb18ee98a1d0c59c5eb8d28540e6c3888691f0", func := "perilune/perilunelaw14.DyadicKnown", spec := "dyadicKnown", unfollowed := true, recurses := true, named := ["internal/strconv.uint64pow10", "math/bits.deBruijn32tab", "math/bits.deBruijn64tab"], apart := false, laid := [("math/bits.deBruijn32tab", laid_math_bits_deBruijn32tab), ("math/bits.deBruijn64tab", laid_math_bits_deBruijn64tab), ("internal/strconv.uint64pow10", laid_internal_strconv_uint64pow10)] }
def DyadicKnownSaid : Prop := dyadicKnownRow.holds Tryd.pinned (OpenSpec.ofChange dyadicKnownSpec)

/-- ITS FALSE NEIGHBOUR: 'it returns false'. Refute it at one input. -/
def dyadicKnownWrong : ChangeSpec := { name := "dyadicKnown", fn := fun _ => fun
  | [] => { results := [.lit (.bool false)], args := [] }
  | _ => none }
def DyadicKnownWrongFalsely : Prop := dyadicKnownRow.holds Tryd.pinned (OpenSpec.ofChange dyadicKnownWrong)

/- THE SECOND FORM. 'bulk': how many values and letters a reading holds, each counted each time it is reached (what is shared counts as often as it is met; a slice's spare places count too). A statement '..UptoSaid' is the law's where the arguments, and the package variables that the reading takes, are together of bulk at most 1048576: NARROWER than '..Said'. Prove '..Said' where nothing that the law and all that it calls make is longer than what came in: it says more and counts as full. Else prove '..UptoSaid'. A law counts once. -/
mutual
def uptoBulk {H : Type} : DataW H → Nat
  | .lit (.string bytes) => bytes.length + 1
  | .lit _ => 1
  | .nil => 1
  | .ptr d => uptoBulk d + 1
  | .slice elems spare => uptoBulkAll elems + uptoBulkAll spare + 1
  | .agg parts => uptoBulkAll parts + 1
  | .iface _ d => uptoBulk d + 1
  | .map entries => uptoBulkEntries entries + 1
  | .held _ => 1
def uptoBulkAll {H : Type} : List (DataW H) → Nat
  | [] => 0
  | d :: r => uptoBulk d + uptoBulkAll r
def uptoBulkEntries {H : Type} : List (Lit × DataW H) → Nat
  | [] => 0
  | x :: r => uptoBulkEntry x + uptoBulkEntries r
def uptoBulkEntry {H : Type} : Lit × DataW H → Nat
  | (.string bytes, d) => bytes.length + uptoBulk d + 1
  | (_, d) => uptoBulk d + 1
 end
def uptoSmall : (H : Type) → List (DataW H) → Bool := fun _ ds => decide (uptoBulkAll ds ≤ 1048576)
def OpenSpec.upto (s : _root_.Go.ChangeSpec) : _root_.Go.OpenSpec := { _root_.Go.OpenSpec.ofChange s with cond := some uptoSmall }

/-- 'perilunelaw14.DyadicRounds', WHERE WHAT IT READS IS OF BULK AT MOST 1048576: true; the input reads as it did. -/
def dyadicRoundsUptoRow : OpenClaim := { program := "ytjdmcooghikhhaadoor", sum := "1965fe96e582568c88ae73ec9eeb18ee98a1d0c59c5eb8d28540e6c3888691f0", func := "perilune/perilunelaw14.DyadicRounds", spec := "dyadicRounds", unfollowed := true, recurses := true, named := ["internal/strconv.uint64pow10", "math/bits.deBruijn32tab", "math/bits.deBruijn64tab"], apart := false, laid := [("math/bits.deBruijn32tab", laid_math_bits_deBruijn32tab), ("math/bits.deBruijn64tab", laid_math_bits_deBruijn64tab), ("internal/strconv.uint64pow10", laid_internal_strconv_uint64pow10)], narrowed := true }
def DyadicRoundsUptoSaid : Prop := dyadicRoundsUptoRow.holds Tryd.pinned (OpenSpec.upto dyadicRoundsSpec)

/-- 'perilunelaw14.DyadicForms', WHERE WHAT IT READS IS OF BULK AT MOST 1048576: true; the input reads as it did. -/
def dyadicFormsUptoRow : OpenClaim := { program := "ytjdmcooghikhhaadoor", sum := "1965fe96e582568c88ae73ec9eeb18ee98a1d0c59c5eb8d28540e6c3888691f0", func := "perilune/perilunelaw14.DyadicForms", spec := "dyadicForms", unfollowed := true, recurses := true, named := ["internal/strconv.uint64pow10", "math/bits.deBruijn32tab", "math/bits.deBruijn64tab"], apart := false, laid := [("math/bits.deBruijn32tab", laid_math_bits_deBruijn32tab), ("math/bits.deBruijn64tab", laid_math_bits_deBruijn64tab), ("internal/strconv.uint64pow10", laid_internal_strconv_uint64pow10)], narrowed := true }
def DyadicFormsUptoSaid : Prop := dyadicFormsUptoRow.holds Tryd.pinned (OpenSpec.upto dyadicFormsSpec)

/-- 'perilunelaw14.DyadicDoubles', WHERE WHAT IT READS IS OF BULK AT MOST 1048576: true; the input reads as it did. -/
def dyadicDoublesUptoRow : OpenClaim := { program := "ytjdmcooghikhhaadoor", sum := "1965fe96e582568c88ae73ec9eeb18ee98a1d0c59c5eb8d28540e6c3888691f0", func := "perilune/perilunelaw14.DyadicDoubles", spec := "dyadicDoubles", unfollowed := true, recurses := true, named := ["internal/strconv.uint64pow10", "math/bits.deBruijn32tab", "math/bits.deBruijn64tab"], apart := false, laid := [("math/bits.deBruijn32tab", laid_math_bits_deBruijn32tab), ("math/bits.deBruijn64tab", laid_math_bits_deBruijn64tab), ("internal/strconv.uint64pow10", laid_internal_strconv_uint64pow10)], narrowed := true }
def DyadicDoublesUptoSaid : Prop := dyadicDoublesUptoRow.holds Tryd.pinned (OpenSpec.upto dyadicDoublesSpec)

/-- 'perilunelaw14.DyadicOrder', WHERE WHAT IT READS IS OF BULK AT MOST 1048576: true; the input reads as it did. -/
def dyadicOrderUptoRow : OpenClaim := { program := "ytjdmcooghikhhaadoor", sum := "1965fe96e582568c88ae73ec9eeb18ee98a1d0c59c5eb8d28540e6c3888691f0", func := "perilune/perilunelaw14.DyadicOrder", spec := "dyadicOrder", unfollowed := true, recurses := true, named := ["internal/strconv.uint64pow10", "math/bits.deBruijn32tab", "math/bits.deBruijn64tab"], apart := false, laid := [("math/bits.deBruijn32tab", laid_math_bits_deBruijn32tab), ("math/bits.deBruijn64tab", laid_math_bits_deBruijn64tab), ("internal/strconv.uint64pow10", laid_internal_strconv_uint64pow10)], narrowed := true }
def DyadicOrderUptoSaid : Prop := dyadicOrderUptoRow.holds Tryd.pinned (OpenSpec.upto dyadicOrderSpec)

/-- 'perilunelaw14.DyadicDistance', WHERE WHAT IT READS IS OF BULK AT MOST 1048576: true; the input reads as it did. -/
def dyadicDistanceUptoRow : OpenClaim := { program := "ytjdmcooghikhhaadoor", sum := "1965fe96e582568c88ae73ec9eeb18ee98a1d0c59c5eb8d28540e6c3888691f0", func := "perilune/perilunelaw14.DyadicDistance", spec := "dyadicDistance", unfollowed := true, recurses := true, named := ["internal/strconv.uint64pow10", "math/bits.deBruijn32tab", "math/bits.deBruijn64tab"], apart := false, laid := [("math/bits.deBruijn32tab", laid_math_bits_deBruijn32tab), ("math/bits.deBruijn64tab", laid_math_bits_deBruijn64tab), ("internal/strconv.uint64pow10", laid_internal_strconv_uint64pow10)], narrowed := true }
def DyadicDistanceUptoSaid : Prop := dyadicDistanceUptoRow.holds Tryd.pinned (OpenSpec.upto dyadicDistanceSpec)

/-- 'perilunelaw14.DyadicProducts', WHERE WHAT IT READS IS OF BULK AT MOST 1048576: true; the input reads as it did. -/
def dyadicProductsUptoRow : OpenClaim := { program := "ytjdmcooghikhhaadoor", sum := "1965fe96e582568c88ae73ec9eeb18ee98a1d0c59c5eb8d28540e6c3888691f0", func := "perilune/perilunelaw14.DyadicProducts", spec := "dyadicProducts", unfollowed := true, recurses := true, named := ["internal/strconv.uint64pow10", "math/bits.deBruijn32tab", "math/bits.deBruijn64tab"], apart := false, laid := [("math/bits.deBruijn32tab", laid_math_bits_deBruijn32tab), ("math/bits.deBruijn64tab", laid_math_bits_deBruijn64tab), ("internal/strconv.uint64pow10", laid_internal_strconv_uint64pow10)], narrowed := true }
def DyadicProductsUptoSaid : Prop := dyadicProductsUptoRow.holds Tryd.pinned (OpenSpec.upto dyadicProductsSpec)

/-- 'perilunelaw14.DyadicSums', WHERE WHAT IT READS IS OF BULK AT MOST 1048576: true; the input reads as it did. -/
def dyadicSumsUptoRow : OpenClaim := { program := "ytjdmcooghikhhaadoor", sum := "1965fe96e582568c88ae73ec9eeb18ee98a1d0c59c5eb8d28540e6c3888691f0", func := "perilune/perilunelaw14.DyadicSums", spec := "dyadicSums", unfollowed := true, recurses := true, named := ["internal/strconv.uint64pow10", "math/bits.deBruijn32tab", "math/bits.deBruijn64tab"], apart := false, laid := [("math/bits.deBruijn32tab", laid_math_bits_deBruijn32tab), ("math/bits.deBruijn64tab", laid_math_bits_deBruijn64tab), ("internal/strconv.uint64pow10", laid_internal_strconv_uint64pow10)], narrowed := true }
def DyadicSumsUptoSaid : Prop := dyadicSumsUptoRow.holds Tryd.pinned (OpenSpec.upto dyadicSumsSpec)

/-- 'perilunelaw14.DyadicEdges', WHERE WHAT IT READS IS OF BULK AT MOST 1048576: true; the input reads as it did. -/
def dyadicEdgesUptoRow : OpenClaim := { program := "ytjdmcooghikhhaadoor", sum := "1965fe96e582568c88ae73ec9eeb18ee98a1d0c59c5eb8d28540e6c3888691f0", func := "perilune/perilunelaw14.DyadicEdges", spec := "dyadicEdges", unfollowed := true, recurses := true, named := ["internal/strconv.uint64pow10", "math/bits.deBruijn32tab", "math/bits.deBruijn64tab"], apart := false, laid := [("math/bits.deBruijn32tab", laid_math_bits_deBruijn32tab), ("math/bits.deBruijn64tab", laid_math_bits_deBruijn64tab), ("internal/strconv.uint64pow10", laid_internal_strconv_uint64pow10)], narrowed := true }
def DyadicEdgesUptoSaid : Prop := dyadicEdgesUptoRow.holds Tryd.pinned (OpenSpec.upto dyadicEdgesSpec)

/-- 'perilunelaw14.DyadicNearest', WHERE WHAT IT READS IS OF BULK AT MOST 1048576: true; the input reads as it did. -/
def dyadicNearestUptoRow : OpenClaim := { program := "ytjdmcooghikhhaadoor", sum := "1965fe96e582568c88ae73ec9eeb18ee98a1d0c59c5eb8d28540e6c3888691f0", func := "perilune/perilunelaw14.DyadicNearest", spec := "dyadicNearest", unfollowed := true, recurses := true, named := ["internal/strconv.uint64pow10", "math/bits.deBruijn32tab", "math/bits.deBruijn64tab"], apart := false, laid := [("math/bits.deBruijn32tab", laid_math_bits_deBruijn32tab), ("math/bits.deBruijn64tab", laid_math_bits_deBruijn64tab), ("internal/strconv.uint64pow10", laid_internal_strconv_uint64pow10)], narrowed := true }
def DyadicNearestUptoSaid : Prop := dyadicNearestUptoRow.holds Tryd.pinned (OpenSpec.upto dyadicNearestSpec)

/-- 'perilunelaw14.DyadicRing', WHERE WHAT IT READS IS OF BULK AT MOST 1048576: true; the input reads as it did. -/
def dyadicRingUptoRow : OpenClaim := { program := "ytjdmcooghikhhaadoor", sum := "1965fe96e582568c88ae73ec9eeb18ee98a1d0c59c5eb8d28540e6c3888691f0", func := "perilune/perilunelaw14.DyadicRing", spec := "dyadicRing", unfollowed := true, recurses := true, named := ["internal/strconv.uint64pow10", "math/bits.deBruijn32tab", "math/bits.deBruijn64tab"], apart := false, laid := [("math/bits.deBruijn32tab", laid_math_bits_deBruijn32tab), ("math/bits.deBruijn64tab", laid_math_bits_deBruijn64tab), ("internal/strconv.uint64pow10", laid_internal_strconv_uint64pow10)], narrowed := true }
def DyadicRingUptoSaid : Prop := dyadicRingUptoRow.holds Tryd.pinned (OpenSpec.upto dyadicRingSpec)

/-- 'perilunelaw14.DyadicKeeps', WHERE WHAT IT READS IS OF BULK AT MOST 1048576: true; the input reads as it did. -/
def dyadicKeepsUptoRow : OpenClaim := { program := "ytjdmcooghikhhaadoor", sum := "1965fe96e582568c88ae73ec9eeb18ee98a1d0c59c5eb8d28540e6c3888691f0", func := "perilune/perilunelaw14.DyadicKeeps", spec := "dyadicKeeps", unfollowed := true, recurses := true, named := ["internal/strconv.uint64pow10", "math/bits.deBruijn32tab", "math/bits.deBruijn64tab"], apart := false, laid := [("math/bits.deBruijn32tab", laid_math_bits_deBruijn32tab), ("math/bits.deBruijn64tab", laid_math_bits_deBruijn64tab), ("internal/strconv.uint64pow10", laid_internal_strconv_uint64pow10)], narrowed := true }
def DyadicKeepsUptoSaid : Prop := dyadicKeepsUptoRow.holds Tryd.pinned (OpenSpec.upto dyadicKeepsSpec)

/-- 'perilunelaw14.DyadicKnown', WHERE WHAT IT READS IS OF BULK AT MOST 1048576: true; the input reads as it did. -/
def dyadicKnownUptoRow : OpenClaim := { program := "ytjdmcooghikhhaadoor", sum := "1965fe96e582568c88ae73ec9eeb18ee98a1d0c59c5eb8d28540e6c3888691f0", func := "perilune/perilunelaw14.DyadicKnown", spec := "dyadicKnown", unfollowed := true, recurses := true, named := ["internal/strconv.uint64pow10", "math/bits.deBruijn32tab", "math/bits.deBruijn64tab"], apart := false, laid := [("math/bits.deBruijn32tab", laid_math_bits_deBruijn32tab), ("math/bits.deBruijn64tab", laid_math_bits_deBruijn64tab), ("internal/strconv.uint64pow10", laid_internal_strconv_uint64pow10)], narrowed := true }
def DyadicKnownUptoSaid : Prop := dyadicKnownUptoRow.holds Tryd.pinned (OpenSpec.upto dyadicKnownSpec)

end Rows
end Go.Proofs.YtjdmcooghikhhaaDoor
