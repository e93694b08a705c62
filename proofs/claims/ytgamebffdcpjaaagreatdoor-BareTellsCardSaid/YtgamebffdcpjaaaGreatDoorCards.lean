/-
  DERIVED. GIVEN WITH THE SEED: THE CARDS: each row of YtgamebffdcpjaaaGreatDoorRows.lean that lists a variable, with what it lists TIED to the program's text (the seventh form; the later family's looks); each row that meets fmt, with fmt's text TOLD by the authors' own Lean function (tested against real Go, not proved from fmt's source: count such statements apart). THE CARD IS WHAT COUNTS. Prove the row's statement (the work); the ties are given (YtgamebffdcpjaaaGreatDoorTie.lean); close each card by the builder's one call (the guide's Derived/Test/ToyasCard.lean, 'card_holds'). Laid BY PROGRAM, IN A SANDBOX (cutbox-door.mjs). By AI agents, Wed Nov 11 2026. No macro, syntax, notation, axiom, sorry.
-/
import Derived.Test.YtgamebffdcpjaaaGreatDoorRows
import GoSem.ClaimSeven
namespace Go.Proofs.YtgamebffdcpjaaaGreatDoor
namespace Rows

/-- THE TIED CARD OF 'causeylaw12.BareTells'. -/
def bareTellsCard : Claim7 := { stood := { row := bareTellsRow, standIns := [], harness := (true, "7a1a8c1915d3c9e17cf4a07e93583756c7ed515f8d6c56b67a9184f917a0f4c5"), looks := true }, kinds := [], alts := [], laidByText := true, laidKinds := [.data, .data, .data, .data, .sentinel, .sentinel, .pinned], laidTests := true, laidLooks := .later }
def BareTellsCardSaid : Prop := Claim7.holds Tryz.pinned (.plain (OpenSpec.ofChange bareTellsSpec)) bareTellsCard

/-- THE TIED CARD OF 'causeylaw24.PrioLast'. -/
def prioLastCard : Claim7 := { stood := { row := prioLastRow, standIns := [], harness := (true, "7a1a8c1915d3c9e17cf4a07e93583756c7ed515f8d6c56b67a9184f917a0f4c5"), looks := true }, kinds := [], alts := [], laidByText := true, laidKinds := [.data, .data, .data, .data, .sentinel, .sentinel, .pinned], laidTests := true, laidLooks := .later }
def PrioLastCardSaid : Prop := Claim7.holds Tryz.pinned (.plain (OpenSpec.ofChange prioLastSpec)) prioLastCard

/-- THE TIED CARD OF 'causeylaw24.PrioBound'. -/
def prioBoundCard : Claim7 := { stood := { row := prioBoundRow, standIns := [], harness := (true, "7a1a8c1915d3c9e17cf4a07e93583756c7ed515f8d6c56b67a9184f917a0f4c5"), looks := true }, kinds := [], alts := [], laidByText := true, laidKinds := [.data, .data, .data, .data, .sentinel, .sentinel, .pinned], laidTests := true, laidLooks := .later }
def PrioBoundCardSaid : Prop := Claim7.holds Tryz.pinned (.plain (OpenSpec.ofChange prioBoundSpec)) prioBoundCard

/-- THE TIED CARD OF 'causeylaw24.PrioOpens'. -/
def prioOpensCard : Claim7 := { stood := { row := prioOpensRow, standIns := [], harness := (true, "7a1a8c1915d3c9e17cf4a07e93583756c7ed515f8d6c56b67a9184f917a0f4c5"), looks := true }, kinds := [], alts := [], laidByText := true, laidKinds := [.data, .data, .data, .data, .sentinel, .sentinel, .pinned], laidTests := true, laidLooks := .later }
def PrioOpensCardSaid : Prop := Claim7.holds Tryz.pinned (.plain (OpenSpec.ofChange prioOpensSpec)) prioOpensCard

/-- THE TIED CARD OF 'causeylaw13.DictTells'. -/
def dictTellsCard : Claim7 := { stood := { row := dictTellsRow, standIns := [], harness := (true, "7a1a8c1915d3c9e17cf4a07e93583756c7ed515f8d6c56b67a9184f917a0f4c5"), looks := true }, kinds := [], alts := [], laidByText := true, laidKinds := [.data, .data, .data, .data, .sentinel, .sentinel, .pinned], laidTests := true, laidLooks := .later }
def DictTellsCardSaid : Prop := Claim7.holds Tryz.pinned (.plain (OpenSpec.ofChange dictTellsSpec)) dictTellsCard

/-- THE TIED CARD OF 'causeylaw13.DictJoins'. -/
def dictJoinsCard : Claim7 := { stood := { row := dictJoinsRow, standIns := [], harness := (true, "7a1a8c1915d3c9e17cf4a07e93583756c7ed515f8d6c56b67a9184f917a0f4c5"), looks := true }, kinds := [], alts := [], laidByText := true, laidKinds := [.data, .data, .data, .data, .sentinel, .sentinel, .pinned], laidTests := true, laidLooks := .later }
def DictJoinsCardSaid : Prop := Claim7.holds Tryz.pinned (.plain (OpenSpec.ofChange dictJoinsSpec)) dictJoinsCard

/-- THE TIED CARD OF 'causeylaw13.DictAgain'. -/
def dictAgainCard : Claim7 := { stood := { row := dictAgainRow, standIns := [], harness := (true, "7a1a8c1915d3c9e17cf4a07e93583756c7ed515f8d6c56b67a9184f917a0f4c5"), looks := true }, kinds := [], alts := [], laidByText := true, laidKinds := [.data, .data, .data, .data, .sentinel, .sentinel, .pinned], laidTests := true, laidLooks := .later }
def DictAgainCardSaid : Prop := Claim7.holds Tryz.pinned (.plain (OpenSpec.ofChange dictAgainSpec)) dictAgainCard

/-- THE TIED CARD OF 'causeylaw13.DictOwn'. -/
def dictOwnCard : Claim7 := { stood := { row := dictOwnRow, standIns := [], harness := (true, "7a1a8c1915d3c9e17cf4a07e93583756c7ed515f8d6c56b67a9184f917a0f4c5"), looks := true }, kinds := [], alts := [], laidByText := true, laidKinds := [.data, .data, .data, .data, .sentinel, .sentinel, .pinned], laidTests := true, laidLooks := .later }
def DictOwnCardSaid : Prop := Claim7.holds Tryz.pinned (.plain (OpenSpec.ofChange dictOwnSpec)) dictOwnCard

/-- THE TIED CARD OF 'causeylaw14.UrgentTells'. -/
def urgentTellsCard : Claim7 := { stood := { row := urgentTellsRow, standIns := [], harness := (true, "7a1a8c1915d3c9e17cf4a07e93583756c7ed515f8d6c56b67a9184f917a0f4c5"), looks := true }, kinds := [], alts := [], laidByText := true, laidKinds := [.data, .data, .data, .data, .sentinel, .sentinel, .pinned], laidTests := true, laidLooks := .later }
def UrgentTellsCardSaid : Prop := Claim7.holds Tryz.pinned (.plain (OpenSpec.ofChange urgentTellsSpec)) urgentTellsCard

/-- THE TIED CARD OF 'causeylaw14.UrgentBack'. -/
def urgentBackCard : Claim7 := { stood := { row := urgentBackRow, standIns := [], harness := (true, "7a1a8c1915d3c9e17cf4a07e93583756c7ed515f8d6c56b67a9184f917a0f4c5"), looks := true }, kinds := [], alts := [], laidByText := true, laidKinds := [.data, .data, .data, .data, .sentinel, .sentinel, .pinned], laidTests := true, laidLooks := .later }
def UrgentBackCardSaid : Prop := Claim7.holds Tryz.pinned (.plain (OpenSpec.ofChange urgentBackSpec)) urgentBackCard

/-- THE SECOND FORM's CARD OF 'causeylaw12.BareTells'. -/
def bareTellsUptoCard : Claim7 := { stood := { row := bareTellsUptoRow, standIns := [], harness := (true, "7a1a8c1915d3c9e17cf4a07e93583756c7ed515f8d6c56b67a9184f917a0f4c5"), looks := true }, kinds := [], alts := [], laidByText := true, laidKinds := [.data, .data, .data, .data, .sentinel, .sentinel, .pinned], laidTests := true, laidLooks := .later }
def BareTellsUptoCardSaid : Prop := Claim7.holds Tryz.pinned (.plain (OpenSpec.upto bareTellsSpec)) bareTellsUptoCard

/-- THE SECOND FORM's CARD OF 'causeylaw24.PrioLast'. -/
def prioLastUptoCard : Claim7 := { stood := { row := prioLastUptoRow, standIns := [], harness := (true, "7a1a8c1915d3c9e17cf4a07e93583756c7ed515f8d6c56b67a9184f917a0f4c5"), looks := true }, kinds := [], alts := [], laidByText := true, laidKinds := [.data, .data, .data, .data, .sentinel, .sentinel, .pinned], laidTests := true, laidLooks := .later }
def PrioLastUptoCardSaid : Prop := Claim7.holds Tryz.pinned (.plain (OpenSpec.upto prioLastSpec)) prioLastUptoCard

/-- THE SECOND FORM's CARD OF 'causeylaw24.PrioBound'. -/
def prioBoundUptoCard : Claim7 := { stood := { row := prioBoundUptoRow, standIns := [], harness := (true, "7a1a8c1915d3c9e17cf4a07e93583756c7ed515f8d6c56b67a9184f917a0f4c5"), looks := true }, kinds := [], alts := [], laidByText := true, laidKinds := [.data, .data, .data, .data, .sentinel, .sentinel, .pinned], laidTests := true, laidLooks := .later }
def PrioBoundUptoCardSaid : Prop := Claim7.holds Tryz.pinned (.plain (OpenSpec.upto prioBoundSpec)) prioBoundUptoCard

/-- THE SECOND FORM's CARD OF 'causeylaw24.PrioOpens'. -/
def prioOpensUptoCard : Claim7 := { stood := { row := prioOpensUptoRow, standIns := [], harness := (true, "7a1a8c1915d3c9e17cf4a07e93583756c7ed515f8d6c56b67a9184f917a0f4c5"), looks := true }, kinds := [], alts := [], laidByText := true, laidKinds := [.data, .data, .data, .data, .sentinel, .sentinel, .pinned], laidTests := true, laidLooks := .later }
def PrioOpensUptoCardSaid : Prop := Claim7.holds Tryz.pinned (.plain (OpenSpec.upto prioOpensSpec)) prioOpensUptoCard

/-- THE SECOND FORM's CARD OF 'causeylaw13.DictTells'. -/
def dictTellsUptoCard : Claim7 := { stood := { row := dictTellsUptoRow, standIns := [], harness := (true, "7a1a8c1915d3c9e17cf4a07e93583756c7ed515f8d6c56b67a9184f917a0f4c5"), looks := true }, kinds := [], alts := [], laidByText := true, laidKinds := [.data, .data, .data, .data, .sentinel, .sentinel, .pinned], laidTests := true, laidLooks := .later }
def DictTellsUptoCardSaid : Prop := Claim7.holds Tryz.pinned (.plain (OpenSpec.upto dictTellsSpec)) dictTellsUptoCard

/-- THE SECOND FORM's CARD OF 'causeylaw13.DictJoins'. -/
def dictJoinsUptoCard : Claim7 := { stood := { row := dictJoinsUptoRow, standIns := [], harness := (true, "7a1a8c1915d3c9e17cf4a07e93583756c7ed515f8d6c56b67a9184f917a0f4c5"), looks := true }, kinds := [], alts := [], laidByText := true, laidKinds := [.data, .data, .data, .data, .sentinel, .sentinel, .pinned], laidTests := true, laidLooks := .later }
def DictJoinsUptoCardSaid : Prop := Claim7.holds Tryz.pinned (.plain (OpenSpec.upto dictJoinsSpec)) dictJoinsUptoCard

/-- THE SECOND FORM's CARD OF 'causeylaw13.DictAgain'. -/
def dictAgainUptoCard : Claim7 := { stood := { row := dictAgainUptoRow, standIns := [], harness := (true, "7a1a8c1915d3c9e17cf4a07e93583756c7ed515f8d6c56b67a9184f917a0f4c5"), looks := true }, kinds := [], alts := [], laidByText := true, laidKinds := [.data, .data, .data, .data, .sentinel, .sentinel, .pinned], laidTests := true, laidLooks := .later }
def DictAgainUptoCardSaid : Prop := Claim7.holds Tryz.pinned (.plain (OpenSpec.upto dictAgainSpec)) dictAgainUptoCard

/-- THE SECOND FORM's CARD OF 'causeylaw13.DictOwn'. -/
def dictOwnUptoCard : Claim7 := { stood := { row := dictOwnUptoRow, standIns := [], harness := (true, "7a1a8c1915d3c9e17cf4a07e93583756c7ed515f8d6c56b67a9184f917a0f4c5"), looks := true }, kinds := [], alts := [], laidByText := true, laidKinds := [.data, .data, .data, .data, .sentinel, .sentinel, .pinned], laidTests := true, laidLooks := .later }
def DictOwnUptoCardSaid : Prop := Claim7.holds Tryz.pinned (.plain (OpenSpec.upto dictOwnSpec)) dictOwnUptoCard

/-- THE SECOND FORM's CARD OF 'causeylaw14.UrgentTells'. -/
def urgentTellsUptoCard : Claim7 := { stood := { row := urgentTellsUptoRow, standIns := [], harness := (true, "7a1a8c1915d3c9e17cf4a07e93583756c7ed515f8d6c56b67a9184f917a0f4c5"), looks := true }, kinds := [], alts := [], laidByText := true, laidKinds := [.data, .data, .data, .data, .sentinel, .sentinel, .pinned], laidTests := true, laidLooks := .later }
def UrgentTellsUptoCardSaid : Prop := Claim7.holds Tryz.pinned (.plain (OpenSpec.upto urgentTellsSpec)) urgentTellsUptoCard

/-- THE SECOND FORM's CARD OF 'causeylaw14.UrgentBack'. -/
def urgentBackUptoCard : Claim7 := { stood := { row := urgentBackUptoRow, standIns := [], harness := (true, "7a1a8c1915d3c9e17cf4a07e93583756c7ed515f8d6c56b67a9184f917a0f4c5"), looks := true }, kinds := [], alts := [], laidByText := true, laidKinds := [.data, .data, .data, .data, .sentinel, .sentinel, .pinned], laidTests := true, laidLooks := .later }
def UrgentBackUptoCardSaid : Prop := Claim7.holds Tryz.pinned (.plain (OpenSpec.upto urgentBackSpec)) urgentBackUptoCard
end Rows
end Go.Proofs.YtgamebffdcpjaaaGreatDoor
