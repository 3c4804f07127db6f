/-
  DERIVED. GIVEN WITH THE SEED: THE CARDS: each row of YtaoafjlocjjbbaaGreatDoorRows.lean that lists a variable, with what it lists TIED to the program's text (the seventh form; the later family's looks); each row that meets fmt, with fmt's text TOLD by the authors' own Lean function (tested against real Go, not proved from fmt's source: count such statements apart). THE CARD IS WHAT COUNTS. Prove the row's statement (the work); the ties are given (YtaoafjlocjjbbaaGreatDoorTie.lean); close each card by the builder's one call (the guide's Derived/Test/ToyasCard.lean, 'card_holds'). Laid BY PROGRAM, IN A SANDBOX (cutbox-door.mjs). By AI agents, Wed Nov 11 2026. No macro, syntax, notation, axiom, sorry.
-/
import Derived.Test.YtaoafjlocjjbbaaGreatDoorRows
import GoSem.ClaimSeven
namespace Go.Proofs.YtaoafjlocjjbbaaGreatDoor
namespace Rows

/-- THE TIED CARD OF 'vouchlaw18.ClientPlays'. -/
def clientPlaysCard : Claim7 := { stood := { row := clientPlaysRow, standIns := [], harness := (true, "44c245e833dfd8a65a639abf2deb9ad475bcd66156a4ad8737f9501e4364994a"), looks := true }, kinds := [], alts := [], laidByText := true, laidKinds := [.data, .data, .data, .sentinel, .sentinel], laidTests := true, laidLooks := .later }
def ClientPlaysCardSaid : Prop := Claim7.holds Tryz.pinned (.plain (OpenSpec.ofChange clientPlaysSpec)) clientPlaysCard

/-- THE TIED CARD OF 'vouchlaw18.ClientClones'. -/
def clientClonesCard : Claim7 := { stood := { row := clientClonesRow, standIns := [], harness := (true, "44c245e833dfd8a65a639abf2deb9ad475bcd66156a4ad8737f9501e4364994a"), looks := true }, kinds := [], alts := [], laidByText := true, laidKinds := [.data, .data, .data, .sentinel, .sentinel], laidTests := true, laidLooks := .later }
def ClientClonesCardSaid : Prop := Claim7.holds Tryz.pinned (.plain (OpenSpec.ofChange clientClonesSpec)) clientClonesCard

/-- THE SECOND FORM's CARD OF 'vouchlaw18.ClientPlays'. -/
def clientPlaysUptoCard : Claim7 := { stood := { row := clientPlaysUptoRow, standIns := [], harness := (true, "44c245e833dfd8a65a639abf2deb9ad475bcd66156a4ad8737f9501e4364994a"), looks := true }, kinds := [], alts := [], laidByText := true, laidKinds := [.data, .data, .data, .sentinel, .sentinel], laidTests := true, laidLooks := .later }
def ClientPlaysUptoCardSaid : Prop := Claim7.holds Tryz.pinned (.plain (OpenSpec.upto clientPlaysSpec)) clientPlaysUptoCard

/-- THE SECOND FORM's CARD OF 'vouchlaw18.ClientClones'. -/
def clientClonesUptoCard : Claim7 := { stood := { row := clientClonesUptoRow, standIns := [], harness := (true, "44c245e833dfd8a65a639abf2deb9ad475bcd66156a4ad8737f9501e4364994a"), looks := true }, kinds := [], alts := [], laidByText := true, laidKinds := [.data, .data, .data, .sentinel, .sentinel], laidTests := true, laidLooks := .later }
def ClientClonesUptoCardSaid : Prop := Claim7.holds Tryz.pinned (.plain (OpenSpec.upto clientClonesSpec)) clientClonesUptoCard
end Rows
end Go.Proofs.YtaoafjlocjjbbaaGreatDoor
