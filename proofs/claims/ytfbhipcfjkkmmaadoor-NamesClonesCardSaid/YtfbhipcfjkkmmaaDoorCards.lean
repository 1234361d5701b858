/-
  DERIVED. GIVEN WITH THE SEED: THE CARDS: each row of YtfbhipcfjkkmmaaDoorRows.lean that lists a variable, with what it lists TIED to the program's text (the seventh form; the later family's looks); each row that meets fmt, with fmt's text TOLD by the authors' own Lean function (tested against real Go, not proved from fmt's source: count such statements apart). THE CARD IS WHAT COUNTS. Prove the row's statement (the work); the ties are given (YtfbhipcfjkkmmaaDoorTie.lean); close each card by the builder's one call (the guide's Derived/Test/ToyasCard.lean, 'card_holds'). Laid BY PROGRAM, IN A SANDBOX (cutbox-door.mjs). By AI agents, Wed Nov 11 2026. No macro, syntax, notation, axiom, sorry.
-/
import Derived.Test.YtfbhipcfjkkmmaaDoorRows
import GoSem.ClaimSeven
namespace Go.Proofs.YtfbhipcfjkkmmaaDoor
namespace Rows

/-- THE TIED CARD OF 'lazyclaw01.NamesClassify'. -/
def namesClassifyCard : Claim7 := { stood := { row := namesClassifyRow, standIns := [], harness := (true, "422f4d5598b0c11cad623d115c7add6f062e0a08eb7e9cf6a3e909876095b7c1"), looks := true }, kinds := [], alts := [], laidByText := true, laidKinds := [.data, .data, .data, .sentinel, .sentinel], laidTests := true, laidLooks := .later }
def NamesClassifyCardSaid : Prop := Claim7.holds Tryd.pinned (.plain (OpenSpec.ofChange namesClassifySpec)) namesClassifyCard

/-- THE TIED CARD OF 'lazyclaw01.NamesQualify'. -/
def namesQualifyCard : Claim7 := { stood := { row := namesQualifyRow, standIns := [], harness := (true, "422f4d5598b0c11cad623d115c7add6f062e0a08eb7e9cf6a3e909876095b7c1"), looks := true }, kinds := [], alts := [], laidByText := true, laidKinds := [.data, .data, .data, .sentinel, .sentinel], laidTests := true, laidLooks := .later }
def NamesQualifyCardSaid : Prop := Claim7.holds Tryd.pinned (.plain (OpenSpec.ofChange namesQualifySpec)) namesQualifyCard

/-- THE TIED CARD OF 'lazyclaw01.NamesMade'. -/
def namesMadeCard : Claim7 := { stood := { row := namesMadeRow, standIns := [], harness := (true, "422f4d5598b0c11cad623d115c7add6f062e0a08eb7e9cf6a3e909876095b7c1"), looks := true }, kinds := [], alts := [], laidByText := true, laidKinds := [.data, .data, .data, .sentinel, .sentinel], laidTests := true, laidLooks := .later }
def NamesMadeCardSaid : Prop := Claim7.holds Tryd.pinned (.plain (OpenSpec.ofChange namesMadeSpec)) namesMadeCard

/-- THE TIED CARD OF 'lazyclaw01.NamesRoundTrip'. -/
def namesRoundTripCard : Claim7 := { stood := { row := namesRoundTripRow, standIns := [], harness := (true, "422f4d5598b0c11cad623d115c7add6f062e0a08eb7e9cf6a3e909876095b7c1"), looks := true }, kinds := [], alts := [], laidByText := true, laidKinds := [.data, .data, .data, .sentinel, .sentinel], laidTests := true, laidLooks := .later }
def NamesRoundTripCardSaid : Prop := Claim7.holds Tryd.pinned (.plain (OpenSpec.ofChange namesRoundTripSpec)) namesRoundTripCard

/-- THE TIED CARD OF 'lazyclaw01.NamesUnique'. -/
def namesUniqueCard : Claim7 := { stood := { row := namesUniqueRow, standIns := [], harness := (true, "422f4d5598b0c11cad623d115c7add6f062e0a08eb7e9cf6a3e909876095b7c1"), looks := true }, kinds := [], alts := [], laidByText := true, laidKinds := [.data, .data, .data, .sentinel, .sentinel], laidTests := true, laidLooks := .later }
def NamesUniqueCardSaid : Prop := Claim7.holds Tryd.pinned (.plain (OpenSpec.ofChange namesUniqueSpec)) namesUniqueCard

/-- THE TIED CARD OF 'lazyclaw01.NamesSupply'. -/
def namesSupplyCard : Claim7 := { stood := { row := namesSupplyRow, standIns := [], harness := (true, "422f4d5598b0c11cad623d115c7add6f062e0a08eb7e9cf6a3e909876095b7c1"), looks := true }, kinds := [], alts := [], laidByText := true, laidKinds := [.data, .data, .data, .sentinel, .sentinel], laidTests := true, laidLooks := .later }
def NamesSupplyCardSaid : Prop := Claim7.holds Tryd.pinned (.plain (OpenSpec.ofChange namesSupplySpec)) namesSupplyCard

/-- THE TIED CARD OF 'lazyclaw01.NamesClones'. -/
def namesClonesCard : Claim7 := { stood := { row := namesClonesRow, standIns := [], harness := (true, "422f4d5598b0c11cad623d115c7add6f062e0a08eb7e9cf6a3e909876095b7c1"), looks := true }, kinds := [], alts := [], laidByText := true, laidKinds := [.data, .data, .data, .sentinel, .sentinel], laidTests := true, laidLooks := .later }
def NamesClonesCardSaid : Prop := Claim7.holds Tryd.pinned (.plain (OpenSpec.ofChange namesClonesSpec)) namesClonesCard

/-- THE TIED CARD OF 'lazyclaw01.NamesNil'. -/
def namesNilCard : Claim7 := { stood := { row := namesNilRow, standIns := [], harness := (true, "422f4d5598b0c11cad623d115c7add6f062e0a08eb7e9cf6a3e909876095b7c1"), looks := true }, kinds := [], alts := [], laidByText := true, laidKinds := [.data, .data, .data, .sentinel, .sentinel], laidTests := true, laidLooks := .later }
def NamesNilCardSaid : Prop := Claim7.holds Tryd.pinned (.plain (OpenSpec.ofChange namesNilSpec)) namesNilCard

/-- THE SECOND FORM's CARD OF 'lazyclaw01.NamesClassify'. -/
def namesClassifyUptoCard : Claim7 := { stood := { row := namesClassifyUptoRow, standIns := [], harness := (true, "422f4d5598b0c11cad623d115c7add6f062e0a08eb7e9cf6a3e909876095b7c1"), looks := true }, kinds := [], alts := [], laidByText := true, laidKinds := [.data, .data, .data, .sentinel, .sentinel], laidTests := true, laidLooks := .later }
def NamesClassifyUptoCardSaid : Prop := Claim7.holds Tryd.pinned (.plain (OpenSpec.upto namesClassifySpec)) namesClassifyUptoCard

/-- THE SECOND FORM's CARD OF 'lazyclaw01.NamesQualify'. -/
def namesQualifyUptoCard : Claim7 := { stood := { row := namesQualifyUptoRow, standIns := [], harness := (true, "422f4d5598b0c11cad623d115c7add6f062e0a08eb7e9cf6a3e909876095b7c1"), looks := true }, kinds := [], alts := [], laidByText := true, laidKinds := [.data, .data, .data, .sentinel, .sentinel], laidTests := true, laidLooks := .later }
def NamesQualifyUptoCardSaid : Prop := Claim7.holds Tryd.pinned (.plain (OpenSpec.upto namesQualifySpec)) namesQualifyUptoCard

/-- THE SECOND FORM's CARD OF 'lazyclaw01.NamesMade'. -/
def namesMadeUptoCard : Claim7 := { stood := { row := namesMadeUptoRow, standIns := [], harness := (true, "422f4d5598b0c11cad623d115c7add6f062e0a08eb7e9cf6a3e909876095b7c1"), looks := true }, kinds := [], alts := [], laidByText := true, laidKinds := [.data, .data, .data, .sentinel, .sentinel], laidTests := true, laidLooks := .later }
def NamesMadeUptoCardSaid : Prop := Claim7.holds Tryd.pinned (.plain (OpenSpec.upto namesMadeSpec)) namesMadeUptoCard

/-- THE SECOND FORM's CARD OF 'lazyclaw01.NamesRoundTrip'. -/
def namesRoundTripUptoCard : Claim7 := { stood := { row := namesRoundTripUptoRow, standIns := [], harness := (true, "422f4d5598b0c11cad623d115c7add6f062e0a08eb7e9cf6a3e909876095b7c1"), looks := true }, kinds := [], alts := [], laidByText := true, laidKinds := [.data, .data, .data, .sentinel, .sentinel], laidTests := true, laidLooks := .later }
def NamesRoundTripUptoCardSaid : Prop := Claim7.holds Tryd.pinned (.plain (OpenSpec.upto namesRoundTripSpec)) namesRoundTripUptoCard

/-- THE SECOND FORM's CARD OF 'lazyclaw01.NamesUnique'. -/
def namesUniqueUptoCard : Claim7 := { stood := { row := namesUniqueUptoRow, standIns := [], harness := (true, "422f4d5598b0c11cad623d115c7add6f062e0a08eb7e9cf6a3e909876095b7c1"), looks := true }, kinds := [], alts := [], laidByText := true, laidKinds := [.data, .data, .data, .sentinel, .sentinel], laidTests := true, laidLooks := .later }
def NamesUniqueUptoCardSaid : Prop := Claim7.holds Tryd.pinned (.plain (OpenSpec.upto namesUniqueSpec)) namesUniqueUptoCard

/-- THE SECOND FORM's CARD OF 'lazyclaw01.NamesSupply'. -/
def namesSupplyUptoCard : Claim7 := { stood := { row := namesSupplyUptoRow, standIns := [], harness := (true, "422f4d5598b0c11cad623d115c7add6f062e0a08eb7e9cf6a3e909876095b7c1"), looks := true }, kinds := [], alts := [], laidByText := true, laidKinds := [.data, .data, .data, .sentinel, .sentinel], laidTests := true, laidLooks := .later }
def NamesSupplyUptoCardSaid : Prop := Claim7.holds Tryd.pinned (.plain (OpenSpec.upto namesSupplySpec)) namesSupplyUptoCard

/-- THE SECOND FORM's CARD OF 'lazyclaw01.NamesClones'. -/
def namesClonesUptoCard : Claim7 := { stood := { row := namesClonesUptoRow, standIns := [], harness := (true, "422f4d5598b0c11cad623d115c7add6f062e0a08eb7e9cf6a3e909876095b7c1"), looks := true }, kinds := [], alts := [], laidByText := true, laidKinds := [.data, .data, .data, .sentinel, .sentinel], laidTests := true, laidLooks := .later }
def NamesClonesUptoCardSaid : Prop := Claim7.holds Tryd.pinned (.plain (OpenSpec.upto namesClonesSpec)) namesClonesUptoCard

/-- THE SECOND FORM's CARD OF 'lazyclaw01.NamesNil'. -/
def namesNilUptoCard : Claim7 := { stood := { row := namesNilUptoRow, standIns := [], harness := (true, "422f4d5598b0c11cad623d115c7add6f062e0a08eb7e9cf6a3e909876095b7c1"), looks := true }, kinds := [], alts := [], laidByText := true, laidKinds := [.data, .data, .data, .sentinel, .sentinel], laidTests := true, laidLooks := .later }
def NamesNilUptoCardSaid : Prop := Claim7.holds Tryd.pinned (.plain (OpenSpec.upto namesNilSpec)) namesNilUptoCard
end Rows
end Go.Proofs.YtfbhipcfjkkmmaaDoor
