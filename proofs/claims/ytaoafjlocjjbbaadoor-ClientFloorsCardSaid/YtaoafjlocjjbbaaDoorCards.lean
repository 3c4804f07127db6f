/-
  DERIVED. GIVEN WITH THE SEED: THE CARDS: each row of YtaoafjlocjjbbaaDoorRows.lean that lists a variable, with what it lists TIED to the program's text (the seventh form; the later family's looks); each row that meets fmt, with fmt's text TOLD by the authors' own Lean function (tested against real Go, not proved from fmt's source: count such statements apart). THE CARD IS WHAT COUNTS. Prove the row's statement (the work); the ties are given (YtaoafjlocjjbbaaDoorTie.lean); close each card by the builder's one call (the guide's Derived/Test/ToyasCard.lean, 'card_holds'). Laid BY PROGRAM, IN A SANDBOX (cutbox-door.mjs). By AI agents, Wed Nov 11 2026. No macro, syntax, notation, axiom, sorry.
-/
import Derived.Test.YtaoafjlocjjbbaaDoorRows
import GoSem.ClaimSeven
namespace Go.Proofs.YtaoafjlocjjbbaaDoor
namespace Rows

/-- THE TIED CARD OF 'vouchlaw16.SessionTries'. -/
def sessionTriesCard : Claim7 := { stood := { row := sessionTriesRow, standIns := [], harness := (true, "2adc37f113d3906805841d994d3364ea6a81f7b491b72bda135888e5286fe0f3"), looks := true }, kinds := [], alts := [], laidByText := true, laidKinds := [.data, .data, .data], laidTests := true, laidLooks := .later }
def SessionTriesCardSaid : Prop := Claim7.holds Tryd.pinned (.plain (OpenSpec.ofChange sessionTriesSpec)) sessionTriesCard

/-- THE TIED CARD OF 'vouchlaw16.SessionTokens'. -/
def sessionTokensCard : Claim7 := { stood := { row := sessionTokensRow, standIns := [], harness := (true, "2adc37f113d3906805841d994d3364ea6a81f7b491b72bda135888e5286fe0f3"), looks := true }, kinds := [], alts := [], laidByText := true, laidKinds := [.data, .data, .data, .sentinel, .sentinel], laidTests := true, laidLooks := .later }
def SessionTokensCardSaid : Prop := Claim7.holds Tryd.pinned (.plain (OpenSpec.ofChange sessionTokensSpec)) sessionTokensCard

/-- THE TIED CARD OF 'vouchlaw16.SessionBack'. -/
def sessionBackCard : Claim7 := { stood := { row := sessionBackRow, standIns := [], harness := (true, "2adc37f113d3906805841d994d3364ea6a81f7b491b72bda135888e5286fe0f3"), looks := true }, kinds := [], alts := [], laidByText := true, laidKinds := [.data, .data, .data, .sentinel, .sentinel], laidTests := true, laidLooks := .later }
def SessionBackCardSaid : Prop := Claim7.holds Tryd.pinned (.plain (OpenSpec.ofChange sessionBackSpec)) sessionBackCard

/-- THE TIED CARD OF 'vouchlaw16.SessionFloors'. -/
def sessionFloorsCard : Claim7 := { stood := { row := sessionFloorsRow, standIns := [], harness := (true, "2adc37f113d3906805841d994d3364ea6a81f7b491b72bda135888e5286fe0f3"), looks := true }, kinds := [], alts := [], laidByText := true, laidKinds := [.data, .data, .data, .sentinel, .sentinel], laidTests := true, laidLooks := .later }
def SessionFloorsCardSaid : Prop := Claim7.holds Tryd.pinned (.plain (OpenSpec.ofChange sessionFloorsSpec)) sessionFloorsCard

/-- THE TIED CARD OF 'vouchlaw16.SessionPlays'. -/
def sessionPlaysCard : Claim7 := { stood := { row := sessionPlaysRow, standIns := [], harness := (true, "2adc37f113d3906805841d994d3364ea6a81f7b491b72bda135888e5286fe0f3"), looks := true }, kinds := [], alts := [], laidByText := true, laidKinds := [.data, .data, .data, .sentinel, .sentinel], laidTests := true, laidLooks := .later }
def SessionPlaysCardSaid : Prop := Claim7.holds Tryd.pinned (.plain (OpenSpec.ofChange sessionPlaysSpec)) sessionPlaysCard

/-- THE TIED CARD OF 'vouchlaw16.SessionClones'. -/
def sessionClonesCard : Claim7 := { stood := { row := sessionClonesRow, standIns := [], harness := (true, "2adc37f113d3906805841d994d3364ea6a81f7b491b72bda135888e5286fe0f3"), looks := true }, kinds := [], alts := [], laidByText := true, laidKinds := [.data, .data, .data, .sentinel, .sentinel], laidTests := true, laidLooks := .later }
def SessionClonesCardSaid : Prop := Claim7.holds Tryd.pinned (.plain (OpenSpec.ofChange sessionClonesSpec)) sessionClonesCard

/-- THE TIED CARD OF 'vouchlaw16.SessionNone'. -/
def sessionNoneCard : Claim7 := { stood := { row := sessionNoneRow, standIns := [], harness := (true, "2adc37f113d3906805841d994d3364ea6a81f7b491b72bda135888e5286fe0f3"), looks := true }, kinds := [], alts := [], laidByText := true, laidKinds := [.data, .data, .data, .sentinel, .sentinel], laidTests := true, laidLooks := .later }
def SessionNoneCardSaid : Prop := Claim7.holds Tryd.pinned (.plain (OpenSpec.ofChange sessionNoneSpec)) sessionNoneCard

/-- THE TIED CARD OF 'vouchlaw18.ClientFull'. -/
def clientFullCard : Claim7 := { stood := { row := clientFullRow, standIns := [], harness := (true, "2adc37f113d3906805841d994d3364ea6a81f7b491b72bda135888e5286fe0f3"), looks := true }, kinds := [], alts := [], laidByText := true, laidKinds := [.data, .data, .data, .sentinel, .sentinel], laidTests := true, laidLooks := .later }
def ClientFullCardSaid : Prop := Claim7.holds Tryd.pinned (.plain (OpenSpec.ofChange clientFullSpec)) clientFullCard

/-- THE TIED CARD OF 'vouchlaw18.ClientFloors'. -/
def clientFloorsCard : Claim7 := { stood := { row := clientFloorsRow, standIns := [], harness := (true, "2adc37f113d3906805841d994d3364ea6a81f7b491b72bda135888e5286fe0f3"), looks := true }, kinds := [], alts := [], laidByText := true, laidKinds := [.data, .data, .data, .sentinel, .sentinel], laidTests := true, laidLooks := .later }
def ClientFloorsCardSaid : Prop := Claim7.holds Tryd.pinned (.plain (OpenSpec.ofChange clientFloorsSpec)) clientFloorsCard

/-- THE TIED CARD OF 'vouchlaw18.ClientNone'. -/
def clientNoneCard : Claim7 := { stood := { row := clientNoneRow, standIns := [], harness := (true, "2adc37f113d3906805841d994d3364ea6a81f7b491b72bda135888e5286fe0f3"), looks := true }, kinds := [], alts := [], laidByText := true, laidKinds := [.data, .data, .data, .sentinel, .sentinel], laidTests := true, laidLooks := .later }
def ClientNoneCardSaid : Prop := Claim7.holds Tryd.pinned (.plain (OpenSpec.ofChange clientNoneSpec)) clientNoneCard

/-- THE SECOND FORM's CARD OF 'vouchlaw16.SessionTries'. -/
def sessionTriesUptoCard : Claim7 := { stood := { row := sessionTriesUptoRow, standIns := [], harness := (true, "2adc37f113d3906805841d994d3364ea6a81f7b491b72bda135888e5286fe0f3"), looks := true }, kinds := [], alts := [], laidByText := true, laidKinds := [.data, .data, .data], laidTests := true, laidLooks := .later }
def SessionTriesUptoCardSaid : Prop := Claim7.holds Tryd.pinned (.plain (OpenSpec.upto sessionTriesSpec)) sessionTriesUptoCard

/-- THE SECOND FORM's CARD OF 'vouchlaw16.SessionTokens'. -/
def sessionTokensUptoCard : Claim7 := { stood := { row := sessionTokensUptoRow, standIns := [], harness := (true, "2adc37f113d3906805841d994d3364ea6a81f7b491b72bda135888e5286fe0f3"), looks := true }, kinds := [], alts := [], laidByText := true, laidKinds := [.data, .data, .data, .sentinel, .sentinel], laidTests := true, laidLooks := .later }
def SessionTokensUptoCardSaid : Prop := Claim7.holds Tryd.pinned (.plain (OpenSpec.upto sessionTokensSpec)) sessionTokensUptoCard

/-- THE SECOND FORM's CARD OF 'vouchlaw16.SessionBack'. -/
def sessionBackUptoCard : Claim7 := { stood := { row := sessionBackUptoRow, standIns := [], harness := (true, "2adc37f113d3906805841d994d3364ea6a81f7b491b72bda135888e5286fe0f3"), looks := true }, kinds := [], alts := [], laidByText := true, laidKinds := [.data, .data, .data, .sentinel, .sentinel], laidTests := true, laidLooks := .later }
def SessionBackUptoCardSaid : Prop := Claim7.holds Tryd.pinned (.plain (OpenSpec.upto sessionBackSpec)) sessionBackUptoCard

/-- THE SECOND FORM's CARD OF 'vouchlaw16.SessionFloors'. -/
def sessionFloorsUptoCard : Claim7 := { stood := { row := sessionFloorsUptoRow, standIns := [], harness := (true, "2adc37f113d3906805841d994d3364ea6a81f7b491b72bda135888e5286fe0f3"), looks := true }, kinds := [], alts := [], laidByText := true, laidKinds := [.data, .data, .data, .sentinel, .sentinel], laidTests := true, laidLooks := .later }
def SessionFloorsUptoCardSaid : Prop := Claim7.holds Tryd.pinned (.plain (OpenSpec.upto sessionFloorsSpec)) sessionFloorsUptoCard

/-- THE SECOND FORM's CARD OF 'vouchlaw16.SessionPlays'. -/
def sessionPlaysUptoCard : Claim7 := { stood := { row := sessionPlaysUptoRow, standIns := [], harness := (true, "2adc37f113d3906805841d994d3364ea6a81f7b491b72bda135888e5286fe0f3"), looks := true }, kinds := [], alts := [], laidByText := true, laidKinds := [.data, .data, .data, .sentinel, .sentinel], laidTests := true, laidLooks := .later }
def SessionPlaysUptoCardSaid : Prop := Claim7.holds Tryd.pinned (.plain (OpenSpec.upto sessionPlaysSpec)) sessionPlaysUptoCard

/-- THE SECOND FORM's CARD OF 'vouchlaw16.SessionClones'. -/
def sessionClonesUptoCard : Claim7 := { stood := { row := sessionClonesUptoRow, standIns := [], harness := (true, "2adc37f113d3906805841d994d3364ea6a81f7b491b72bda135888e5286fe0f3"), looks := true }, kinds := [], alts := [], laidByText := true, laidKinds := [.data, .data, .data, .sentinel, .sentinel], laidTests := true, laidLooks := .later }
def SessionClonesUptoCardSaid : Prop := Claim7.holds Tryd.pinned (.plain (OpenSpec.upto sessionClonesSpec)) sessionClonesUptoCard

/-- THE SECOND FORM's CARD OF 'vouchlaw16.SessionNone'. -/
def sessionNoneUptoCard : Claim7 := { stood := { row := sessionNoneUptoRow, standIns := [], harness := (true, "2adc37f113d3906805841d994d3364ea6a81f7b491b72bda135888e5286fe0f3"), looks := true }, kinds := [], alts := [], laidByText := true, laidKinds := [.data, .data, .data, .sentinel, .sentinel], laidTests := true, laidLooks := .later }
def SessionNoneUptoCardSaid : Prop := Claim7.holds Tryd.pinned (.plain (OpenSpec.upto sessionNoneSpec)) sessionNoneUptoCard

/-- THE SECOND FORM's CARD OF 'vouchlaw18.ClientFull'. -/
def clientFullUptoCard : Claim7 := { stood := { row := clientFullUptoRow, standIns := [], harness := (true, "2adc37f113d3906805841d994d3364ea6a81f7b491b72bda135888e5286fe0f3"), looks := true }, kinds := [], alts := [], laidByText := true, laidKinds := [.data, .data, .data, .sentinel, .sentinel], laidTests := true, laidLooks := .later }
def ClientFullUptoCardSaid : Prop := Claim7.holds Tryd.pinned (.plain (OpenSpec.upto clientFullSpec)) clientFullUptoCard

/-- THE SECOND FORM's CARD OF 'vouchlaw18.ClientFloors'. -/
def clientFloorsUptoCard : Claim7 := { stood := { row := clientFloorsUptoRow, standIns := [], harness := (true, "2adc37f113d3906805841d994d3364ea6a81f7b491b72bda135888e5286fe0f3"), looks := true }, kinds := [], alts := [], laidByText := true, laidKinds := [.data, .data, .data, .sentinel, .sentinel], laidTests := true, laidLooks := .later }
def ClientFloorsUptoCardSaid : Prop := Claim7.holds Tryd.pinned (.plain (OpenSpec.upto clientFloorsSpec)) clientFloorsUptoCard

/-- THE SECOND FORM's CARD OF 'vouchlaw18.ClientNone'. -/
def clientNoneUptoCard : Claim7 := { stood := { row := clientNoneUptoRow, standIns := [], harness := (true, "2adc37f113d3906805841d994d3364ea6a81f7b491b72bda135888e5286fe0f3"), looks := true }, kinds := [], alts := [], laidByText := true, laidKinds := [.data, .data, .data, .sentinel, .sentinel], laidTests := true, laidLooks := .later }
def ClientNoneUptoCardSaid : Prop := Claim7.holds Tryd.pinned (.plain (OpenSpec.upto clientNoneSpec)) clientNoneUptoCard
end Rows
end Go.Proofs.YtaoafjlocjjbbaaDoor
