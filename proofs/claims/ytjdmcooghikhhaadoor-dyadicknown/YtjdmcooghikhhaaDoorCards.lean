/-
  DERIVED. GIVEN WITH THE SEED: THE CARDS: each row of YtjdmcooghikhhaaDoorRows.lean that lists a variable, with what it lists TIED to the program's text (the seventh form; the later family's looks); each row that meets fmt, with fmt's text TOLD by the authors' own Lean function (tested against real Go, not proved from fmt's source: count such statements apart). THE CARD IS WHAT COUNTS. Prove the row's statement (the work); the ties are given (YtjdmcooghikhhaaDoorTie.lean); close each card by the builder's one call (the guide's Derived/Test/ToyasCard.lean, 'card_holds'). Laid BY PROGRAM, IN A SANDBOX (cutbox-door.mjs). By AI agents, Wed Nov 11 2026. No macro, syntax, notation, axiom, sorry.
-/
import Derived.Test.YtjdmcooghikhhaaDoorRows
import GoSem.ClaimSeven
namespace Go.Proofs.YtjdmcooghikhhaaDoor
namespace Rows

/-- THE TIED CARD OF 'perilunelaw14.DyadicRounds'. -/
def dyadicRoundsCard : Claim7 := { stood := { row := dyadicRoundsRow, standIns := [], harness := (true, "4b3f8d4f96ee3bb26e1b26298eb1b6f0edfe896dc8890d332d3669fd21b1ff8c"), looks := false }, kinds := [], alts := [], laidByText := true, laidKinds := [.data, .data, .data], laidTests := true, laidLooks := .later }
def DyadicRoundsCardSaid : Prop := Claim7.holds Tryd.pinned (.plain (OpenSpec.ofChange dyadicRoundsSpec)) dyadicRoundsCard

/-- THE TIED CARD OF 'perilunelaw14.DyadicForms'. -/
def dyadicFormsCard : Claim7 := { stood := { row := dyadicFormsRow, standIns := [], harness := (true, "4b3f8d4f96ee3bb26e1b26298eb1b6f0edfe896dc8890d332d3669fd21b1ff8c"), looks := false }, kinds := [], alts := [], laidByText := true, laidKinds := [.data, .data, .data], laidTests := true, laidLooks := .later }
def DyadicFormsCardSaid : Prop := Claim7.holds Tryd.pinned (.plain (OpenSpec.ofChange dyadicFormsSpec)) dyadicFormsCard

/-- THE TIED CARD OF 'perilunelaw14.DyadicDoubles'. -/
def dyadicDoublesCard : Claim7 := { stood := { row := dyadicDoublesRow, standIns := [], harness := (true, "4b3f8d4f96ee3bb26e1b26298eb1b6f0edfe896dc8890d332d3669fd21b1ff8c"), looks := false }, kinds := [], alts := [], laidByText := true, laidKinds := [.data, .data, .data], laidTests := true, laidLooks := .later }
def DyadicDoublesCardSaid : Prop := Claim7.holds Tryd.pinned (.plain (OpenSpec.ofChange dyadicDoublesSpec)) dyadicDoublesCard

/-- THE TIED CARD OF 'perilunelaw14.DyadicOrder'. -/
def dyadicOrderCard : Claim7 := { stood := { row := dyadicOrderRow, standIns := [], harness := (true, "4b3f8d4f96ee3bb26e1b26298eb1b6f0edfe896dc8890d332d3669fd21b1ff8c"), looks := false }, kinds := [], alts := [], laidByText := true, laidKinds := [.data, .data, .data], laidTests := true, laidLooks := .later }
def DyadicOrderCardSaid : Prop := Claim7.holds Tryd.pinned (.plain (OpenSpec.ofChange dyadicOrderSpec)) dyadicOrderCard

/-- THE TIED CARD OF 'perilunelaw14.DyadicDistance'. -/
def dyadicDistanceCard : Claim7 := { stood := { row := dyadicDistanceRow, standIns := [], harness := (true, "4b3f8d4f96ee3bb26e1b26298eb1b6f0edfe896dc8890d332d3669fd21b1ff8c"), looks := false }, kinds := [], alts := [], laidByText := true, laidKinds := [.data, .data, .data], laidTests := true, laidLooks := .later }
def DyadicDistanceCardSaid : Prop := Claim7.holds Tryd.pinned (.plain (OpenSpec.ofChange dyadicDistanceSpec)) dyadicDistanceCard

/-- THE TIED CARD OF 'perilunelaw14.DyadicProducts'. -/
def dyadicProductsCard : Claim7 := { stood := { row := dyadicProductsRow, standIns := [], harness := (true, "4b3f8d4f96ee3bb26e1b26298eb1b6f0edfe896dc8890d332d3669fd21b1ff8c"), looks := false }, kinds := [], alts := [], laidByText := true, laidKinds := [.data, .data, .data], laidTests := true, laidLooks := .later }
def DyadicProductsCardSaid : Prop := Claim7.holds Tryd.pinned (.plain (OpenSpec.ofChange dyadicProductsSpec)) dyadicProductsCard

/-- THE TIED CARD OF 'perilunelaw14.DyadicSums'. -/
def dyadicSumsCard : Claim7 := { stood := { row := dyadicSumsRow, standIns := [], harness := (true, "4b3f8d4f96ee3bb26e1b26298eb1b6f0edfe896dc8890d332d3669fd21b1ff8c"), looks := false }, kinds := [], alts := [], laidByText := true, laidKinds := [.data, .data, .data], laidTests := true, laidLooks := .later }
def DyadicSumsCardSaid : Prop := Claim7.holds Tryd.pinned (.plain (OpenSpec.ofChange dyadicSumsSpec)) dyadicSumsCard

/-- THE TIED CARD OF 'perilunelaw14.DyadicEdges'. -/
def dyadicEdgesCard : Claim7 := { stood := { row := dyadicEdgesRow, standIns := [], harness := (true, "4b3f8d4f96ee3bb26e1b26298eb1b6f0edfe896dc8890d332d3669fd21b1ff8c"), looks := false }, kinds := [], alts := [], laidByText := true, laidKinds := [.data, .data, .data], laidTests := true, laidLooks := .later }
def DyadicEdgesCardSaid : Prop := Claim7.holds Tryd.pinned (.plain (OpenSpec.ofChange dyadicEdgesSpec)) dyadicEdgesCard

/-- THE TIED CARD OF 'perilunelaw14.DyadicNearest'. -/
def dyadicNearestCard : Claim7 := { stood := { row := dyadicNearestRow, standIns := [], harness := (true, "4b3f8d4f96ee3bb26e1b26298eb1b6f0edfe896dc8890d332d3669fd21b1ff8c"), looks := false }, kinds := [], alts := [], laidByText := true, laidKinds := [.data, .data, .data], laidTests := true, laidLooks := .later }
def DyadicNearestCardSaid : Prop := Claim7.holds Tryd.pinned (.plain (OpenSpec.ofChange dyadicNearestSpec)) dyadicNearestCard

/-- THE TIED CARD OF 'perilunelaw14.DyadicRing'. -/
def dyadicRingCard : Claim7 := { stood := { row := dyadicRingRow, standIns := [], harness := (true, "4b3f8d4f96ee3bb26e1b26298eb1b6f0edfe896dc8890d332d3669fd21b1ff8c"), looks := false }, kinds := [], alts := [], laidByText := true, laidKinds := [.data, .data, .data], laidTests := true, laidLooks := .later }
def DyadicRingCardSaid : Prop := Claim7.holds Tryd.pinned (.plain (OpenSpec.ofChange dyadicRingSpec)) dyadicRingCard

/-- THE TIED CARD OF 'perilunelaw14.DyadicKeeps'. -/
def dyadicKeepsCard : Claim7 := { stood := { row := dyadicKeepsRow, standIns := [], harness := (true, "4b3f8d4f96ee3bb26e1b26298eb1b6f0edfe896dc8890d332d3669fd21b1ff8c"), looks := false }, kinds := [], alts := [], laidByText := true, laidKinds := [.data, .data, .data], laidTests := true, laidLooks := .later }
def DyadicKeepsCardSaid : Prop := Claim7.holds Tryd.pinned (.plain (OpenSpec.ofChange dyadicKeepsSpec)) dyadicKeepsCard

/-- THE TIED CARD OF 'perilunelaw14.DyadicKnown'. -/
def dyadicKnownCard : Claim7 := { stood := { row := dyadicKnownRow, standIns := [], harness := (true, "4b3f8d4f96ee3bb26e1b26298eb1b6f0edfe896dc8890d332d3669fd21b1ff8c"), looks := false }, kinds := [], alts := [], laidByText := true, laidKinds := [.data, .data, .data], laidTests := true, laidLooks := .later }
def DyadicKnownCardSaid : Prop := Claim7.holds Tryd.pinned (.plain (OpenSpec.ofChange dyadicKnownSpec)) dyadicKnownCard

/-- THE SECOND FORM's CARD OF 'perilunelaw14.DyadicRounds'. -/
def dyadicRoundsUptoCard : Claim7 := { stood := { row := dyadicRoundsUptoRow, standIns := [], harness := (true, "4b3f8d4f96ee3bb26e1b26298eb1b6f0edfe896dc8890d332d3669fd21b1ff8c"), looks := false }, kinds := [], alts := [], laidByText := true, laidKinds := [.data, .data, .data], laidTests := true, laidLooks := .later }
def DyadicRoundsUptoCardSaid : Prop := Claim7.holds Tryd.pinned (.plain (OpenSpec.upto dyadicRoundsSpec)) dyadicRoundsUptoCard

/-- THE SECOND FORM's CARD OF 'perilunelaw14.DyadicForms'. -/
def dyadicFormsUptoCard : Claim7 := { stood := { row := dyadicFormsUptoRow, standIns := [], harness := (true, "4b3f8d4f96ee3bb26e1b26298eb1b6f0edfe896dc8890d332d3669fd21b1ff8c"), looks := false }, kinds := [], alts := [], laidByText := true, laidKinds := [.data, .data, .data], laidTests := true, laidLooks := .later }
def DyadicFormsUptoCardSaid : Prop := Claim7.holds Tryd.pinned (.plain (OpenSpec.upto dyadicFormsSpec)) dyadicFormsUptoCard

/-- THE SECOND FORM's CARD OF 'perilunelaw14.DyadicDoubles'. -/
def dyadicDoublesUptoCard : Claim7 := { stood := { row := dyadicDoublesUptoRow, standIns := [], harness := (true, "4b3f8d4f96ee3bb26e1b26298eb1b6f0edfe896dc8890d332d3669fd21b1ff8c"), looks := false }, kinds := [], alts := [], laidByText := true, laidKinds := [.data, .data, .data], laidTests := true, laidLooks := .later }
def DyadicDoublesUptoCardSaid : Prop := Claim7.holds Tryd.pinned (.plain (OpenSpec.upto dyadicDoublesSpec)) dyadicDoublesUptoCard

/-- THE SECOND FORM's CARD OF 'perilunelaw14.DyadicOrder'. -/
def dyadicOrderUptoCard : Claim7 := { stood := { row := dyadicOrderUptoRow, standIns := [], harness := (true, "4b3f8d4f96ee3bb26e1b26298eb1b6f0edfe896dc8890d332d3669fd21b1ff8c"), looks := false }, kinds := [], alts := [], laidByText := true, laidKinds := [.data, .data, .data], laidTests := true, laidLooks := .later }
def DyadicOrderUptoCardSaid : Prop := Claim7.holds Tryd.pinned (.plain (OpenSpec.upto dyadicOrderSpec)) dyadicOrderUptoCard

/-- THE SECOND FORM's CARD OF 'perilunelaw14.DyadicDistance'. -/
def dyadicDistanceUptoCard : Claim7 := { stood := { row := dyadicDistanceUptoRow, standIns := [], harness := (true, "4b3f8d4f96ee3bb26e1b26298eb1b6f0edfe896dc8890d332d3669fd21b1ff8c"), looks := false }, kinds := [], alts := [], laidByText := true, laidKinds := [.data, .data, .data], laidTests := true, laidLooks := .later }
def DyadicDistanceUptoCardSaid : Prop := Claim7.holds Tryd.pinned (.plain (OpenSpec.upto dyadicDistanceSpec)) dyadicDistanceUptoCard

/-- THE SECOND FORM's CARD OF 'perilunelaw14.DyadicProducts'. -/
def dyadicProductsUptoCard : Claim7 := { stood := { row := dyadicProductsUptoRow, standIns := [], harness := (true, "4b3f8d4f96ee3bb26e1b26298eb1b6f0edfe896dc8890d332d3669fd21b1ff8c"), looks := false }, kinds := [], alts := [], laidByText := true, laidKinds := [.data, .data, .data], laidTests := true, laidLooks := .later }
def DyadicProductsUptoCardSaid : Prop := Claim7.holds Tryd.pinned (.plain (OpenSpec.upto dyadicProductsSpec)) dyadicProductsUptoCard

/-- THE SECOND FORM's CARD OF 'perilunelaw14.DyadicSums'. -/
def dyadicSumsUptoCard : Claim7 := { stood := { row := dyadicSumsUptoRow, standIns := [], harness := (true, "4b3f8d4f96ee3bb26e1b26298eb1b6f0edfe896dc8890d332d3669fd21b1ff8c"), looks := false }, kinds := [], alts := [], laidByText := true, laidKinds := [.data, .data, .data], laidTests := true, laidLooks := .later }
def DyadicSumsUptoCardSaid : Prop := Claim7.holds Tryd.pinned (.plain (OpenSpec.upto dyadicSumsSpec)) dyadicSumsUptoCard

/-- THE SECOND FORM's CARD OF 'perilunelaw14.DyadicEdges'. -/
def dyadicEdgesUptoCard : Claim7 := { stood := { row := dyadicEdgesUptoRow, standIns := [], harness := (true, "4b3f8d4f96ee3bb26e1b26298eb1b6f0edfe896dc8890d332d3669fd21b1ff8c"), looks := false }, kinds := [], alts := [], laidByText := true, laidKinds := [.data, .data, .data], laidTests := true, laidLooks := .later }
def DyadicEdgesUptoCardSaid : Prop := Claim7.holds Tryd.pinned (.plain (OpenSpec.upto dyadicEdgesSpec)) dyadicEdgesUptoCard

/-- THE SECOND FORM's CARD OF 'perilunelaw14.DyadicNearest'. -/
def dyadicNearestUptoCard : Claim7 := { stood := { row := dyadicNearestUptoRow, standIns := [], harness := (true, "4b3f8d4f96ee3bb26e1b26298eb1b6f0edfe896dc8890d332d3669fd21b1ff8c"), looks := false }, kinds := [], alts := [], laidByText := true, laidKinds := [.data, .data, .data], laidTests := true, laidLooks := .later }
def DyadicNearestUptoCardSaid : Prop := Claim7.holds Tryd.pinned (.plain (OpenSpec.upto dyadicNearestSpec)) dyadicNearestUptoCard

/-- THE SECOND FORM's CARD OF 'perilunelaw14.DyadicRing'. -/
def dyadicRingUptoCard : Claim7 := { stood := { row := dyadicRingUptoRow, standIns := [], harness := (true, "4b3f8d4f96ee3bb26e1b26298eb1b6f0edfe896dc8890d332d3669fd21b1ff8c"), looks := false }, kinds := [], alts := [], laidByText := true, laidKinds := [.data, .data, .data], laidTests := true, laidLooks := .later }
def DyadicRingUptoCardSaid : Prop := Claim7.holds Tryd.pinned (.plain (OpenSpec.upto dyadicRingSpec)) dyadicRingUptoCard

/-- THE SECOND FORM's CARD OF 'perilunelaw14.DyadicKeeps'. -/
def dyadicKeepsUptoCard : Claim7 := { stood := { row := dyadicKeepsUptoRow, standIns := [], harness := (true, "4b3f8d4f96ee3bb26e1b26298eb1b6f0edfe896dc8890d332d3669fd21b1ff8c"), looks := false }, kinds := [], alts := [], laidByText := true, laidKinds := [.data, .data, .data], laidTests := true, laidLooks := .later }
def DyadicKeepsUptoCardSaid : Prop := Claim7.holds Tryd.pinned (.plain (OpenSpec.upto dyadicKeepsSpec)) dyadicKeepsUptoCard

/-- THE SECOND FORM's CARD OF 'perilunelaw14.DyadicKnown'. -/
def dyadicKnownUptoCard : Claim7 := { stood := { row := dyadicKnownUptoRow, standIns := [], harness := (true, "4b3f8d4f96ee3bb26e1b26298eb1b6f0edfe896dc8890d332d3669fd21b1ff8c"), looks := false }, kinds := [], alts := [], laidByText := true, laidKinds := [.data, .data, .data], laidTests := true, laidLooks := .later }
def DyadicKnownUptoCardSaid : Prop := Claim7.holds Tryd.pinned (.plain (OpenSpec.upto dyadicKnownSpec)) dyadicKnownUptoCard
end Rows
end Go.Proofs.YtjdmcooghikhhaaDoor
