/-
  DERIVED. GIVEN WITH THE SEED: THE CARDS: each row of YthijephffgoieaaGreatDoorRows.lean that lists a variable, with what it lists TIED to the program's text (the seventh form; the later family's looks); each row that meets fmt, with fmt's text TOLD by the authors' own Lean function (tested against real Go, not proved from fmt's source: count such statements apart). THE CARD IS WHAT COUNTS. Prove the row's statement (the work); the ties are given (YthijephffgoieaaGreatDoorTie.lean); close each card by the builder's one call (the guide's Derived/Test/ToyasCard.lean, 'card_holds'). Laid BY PROGRAM, IN A SANDBOX (cutbox-door.mjs). By AI agents, Wed Nov 11 2026. No macro, syntax, notation, axiom, sorry.
-/
import Derived.Test.YthijephffgoieaaGreatDoorRows
import GoSem.ClaimSeven
namespace Go.Proofs.YthijephffgoieaaGreatDoor
namespace Rows

/-- THE TIED CARD OF 'lazyclaw46.LinkObjects'. -/
def linkObjectsCard : Claim7 := { stood := { row := linkObjectsRow, standIns := [], harness := (true, "8f09e2a18104b96e3dc3a5ce9b1f8d1c95c3700d3b4fb19dd89403212af5934c"), looks := true }, kinds := [], alts := [], laidByText := true, laidKinds := [.data, .data, .data, .data, .sentinel, .sentinel, .listed, .data, .pinned], laidTests := true, laidLooks := .later }
def LinkObjectsCardSaid : Prop := Claim7.holds Tryz.pinned (.plain (OpenSpec.ofChange linkObjectsSpec)) linkObjectsCard

/-- THE TIED CARD OF 'lazyclaw46.LinkUnresolved'. -/
def linkUnresolvedCard : Claim7 := { stood := { row := linkUnresolvedRow, standIns := [], harness := (true, "8f09e2a18104b96e3dc3a5ce9b1f8d1c95c3700d3b4fb19dd89403212af5934c"), looks := true }, kinds := [], alts := [], laidByText := true, laidKinds := [.data, .data, .data, .data, .sentinel, .sentinel, .listed, .data, .pinned], laidTests := true, laidLooks := .later }
def LinkUnresolvedCardSaid : Prop := Claim7.holds Tryz.pinned (.plain (OpenSpec.ofChange linkUnresolvedSpec)) linkUnresolvedCard

/-- THE TIED CARD OF 'lazyclaw46.LinkChecked'. -/
def linkCheckedCard : Claim7 := { stood := { row := linkCheckedRow, standIns := [], harness := (true, "8f09e2a18104b96e3dc3a5ce9b1f8d1c95c3700d3b4fb19dd89403212af5934c"), looks := true }, kinds := [], alts := [], laidByText := true, laidKinds := [.data, .data, .data, .data, .sentinel, .sentinel, .listed, .data, .pinned], laidTests := true, laidLooks := .later }
def LinkCheckedCardSaid : Prop := Claim7.holds Tryz.pinned (.plain (OpenSpec.ofChange linkCheckedSpec)) linkCheckedCard

/-- THE TIED CARD OF 'lazyclaw46.LinkGrouped'. -/
def linkGroupedCard : Claim7 := { stood := { row := linkGroupedRow, standIns := [], harness := (true, "8f09e2a18104b96e3dc3a5ce9b1f8d1c95c3700d3b4fb19dd89403212af5934c"), looks := true }, kinds := [], alts := [], laidByText := true, laidKinds := [.data, .data, .data, .data, .sentinel, .sentinel, .listed, .data, .pinned], laidTests := true, laidLooks := .later }
def LinkGroupedCardSaid : Prop := Claim7.holds Tryz.pinned (.plain (OpenSpec.ofChange linkGroupedSpec)) linkGroupedCard

/-- THE SECOND FORM's CARD OF 'lazyclaw46.LinkObjects'. -/
def linkObjectsUptoCard : Claim7 := { stood := { row := linkObjectsUptoRow, standIns := [], harness := (true, "8f09e2a18104b96e3dc3a5ce9b1f8d1c95c3700d3b4fb19dd89403212af5934c"), looks := true }, kinds := [], alts := [], laidByText := true, laidKinds := [.data, .data, .data, .data, .sentinel, .sentinel, .listed, .data, .pinned], laidTests := true, laidLooks := .later }
def LinkObjectsUptoCardSaid : Prop := Claim7.holds Tryz.pinned (.plain (OpenSpec.upto linkObjectsSpec)) linkObjectsUptoCard

/-- THE SECOND FORM's CARD OF 'lazyclaw46.LinkUnresolved'. -/
def linkUnresolvedUptoCard : Claim7 := { stood := { row := linkUnresolvedUptoRow, standIns := [], harness := (true, "8f09e2a18104b96e3dc3a5ce9b1f8d1c95c3700d3b4fb19dd89403212af5934c"), looks := true }, kinds := [], alts := [], laidByText := true, laidKinds := [.data, .data, .data, .data, .sentinel, .sentinel, .listed, .data, .pinned], laidTests := true, laidLooks := .later }
def LinkUnresolvedUptoCardSaid : Prop := Claim7.holds Tryz.pinned (.plain (OpenSpec.upto linkUnresolvedSpec)) linkUnresolvedUptoCard

/-- THE SECOND FORM's CARD OF 'lazyclaw46.LinkChecked'. -/
def linkCheckedUptoCard : Claim7 := { stood := { row := linkCheckedUptoRow, standIns := [], harness := (true, "8f09e2a18104b96e3dc3a5ce9b1f8d1c95c3700d3b4fb19dd89403212af5934c"), looks := true }, kinds := [], alts := [], laidByText := true, laidKinds := [.data, .data, .data, .data, .sentinel, .sentinel, .listed, .data, .pinned], laidTests := true, laidLooks := .later }
def LinkCheckedUptoCardSaid : Prop := Claim7.holds Tryz.pinned (.plain (OpenSpec.upto linkCheckedSpec)) linkCheckedUptoCard

/-- THE SECOND FORM's CARD OF 'lazyclaw46.LinkGrouped'. -/
def linkGroupedUptoCard : Claim7 := { stood := { row := linkGroupedUptoRow, standIns := [], harness := (true, "8f09e2a18104b96e3dc3a5ce9b1f8d1c95c3700d3b4fb19dd89403212af5934c"), looks := true }, kinds := [], alts := [], laidByText := true, laidKinds := [.data, .data, .data, .data, .sentinel, .sentinel, .listed, .data, .pinned], laidTests := true, laidLooks := .later }
def LinkGroupedUptoCardSaid : Prop := Claim7.holds Tryz.pinned (.plain (OpenSpec.upto linkGroupedSpec)) linkGroupedUptoCard
end Rows
end Go.Proofs.YthijephffgoieaaGreatDoor
