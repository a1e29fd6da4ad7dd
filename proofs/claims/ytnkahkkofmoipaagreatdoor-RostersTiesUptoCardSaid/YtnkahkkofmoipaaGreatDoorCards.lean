/-
  DERIVED. GIVEN WITH THE SEED: THE CARDS: each row of YtnkahkkofmoipaaGreatDoorRows.lean that lists a variable, with what it lists TIED to the program's text (the seventh form; the later family's looks); each row that meets fmt, with fmt's text TOLD by the authors' own Lean function (tested against real Go, not proved from fmt's source: count such statements apart). THE CARD IS WHAT COUNTS. Prove the row's statement (the work); the ties are given (YtnkahkkofmoipaaGreatDoorTie.lean); close each card by the builder's one call (the guide's Derived/Test/ToyasCard.lean, 'card_holds'). Laid BY PROGRAM, IN A SANDBOX (cutbox-door.mjs). By AI agents, Wed Nov 11 2026. No macro, syntax, notation, axiom, sorry.
-/
import Derived.Test.YtnkahkkofmoipaaGreatDoorRows
import GoSem.ClaimSeven
namespace Go.Proofs.YtnkahkkofmoipaaGreatDoor
namespace Rows

/-- THE TIED CARD OF 'handshapelaw05.RostersPlans'. -/
def rostersPlansCard : Claim7 := { stood := { row := rostersPlansRow, standIns := [], harness := (true, "99d648e864983254cb74a221c3d173a491e6de4d468e718c59d36877a30c7362"), looks := false }, kinds := [], alts := [], laidByText := true, laidKinds := [.data], laidTests := true, laidLooks := .later }
def RostersPlansCardSaid : Prop := Claim7.holds Tryz.pinned (.plain (OpenSpec.ofChange rostersPlansSpec)) rostersPlansCard

/-- THE TIED CARD OF 'handshapelaw05.RostersTeams'. -/
def rostersTeamsCard : Claim7 := { stood := { row := rostersTeamsRow, standIns := [], harness := (true, "99d648e864983254cb74a221c3d173a491e6de4d468e718c59d36877a30c7362"), looks := false }, kinds := [], alts := [], laidByText := true, laidKinds := [.data], laidTests := true, laidLooks := .later }
def RostersTeamsCardSaid : Prop := Claim7.holds Tryz.pinned (.plain (OpenSpec.ofChange rostersTeamsSpec)) rostersTeamsCard

/-- THE TIED CARD OF 'handshapelaw05.RostersFills'. -/
def rostersFillsCard : Claim7 := { stood := { row := rostersFillsRow, standIns := [], harness := (true, "99d648e864983254cb74a221c3d173a491e6de4d468e718c59d36877a30c7362"), looks := false }, kinds := [], alts := [], laidByText := true, laidKinds := [.data], laidTests := true, laidLooks := .later }
def RostersFillsCardSaid : Prop := Claim7.holds Tryz.pinned (.plain (OpenSpec.ofChange rostersFillsSpec)) rostersFillsCard

/-- THE TIED CARD OF 'handshapelaw05.RostersMerges'. -/
def rostersMergesCard : Claim7 := { stood := { row := rostersMergesRow, standIns := [], harness := (true, "99d648e864983254cb74a221c3d173a491e6de4d468e718c59d36877a30c7362"), looks := false }, kinds := [], alts := [], laidByText := true, laidKinds := [.data], laidTests := true, laidLooks := .later }
def RostersMergesCardSaid : Prop := Claim7.holds Tryz.pinned (.plain (OpenSpec.ofChange rostersMergesSpec)) rostersMergesCard

/-- THE TIED CARD OF 'handshapelaw05.RostersOrder'. -/
def rostersOrderCard : Claim7 := { stood := { row := rostersOrderRow, standIns := [], harness := (true, "99d648e864983254cb74a221c3d173a491e6de4d468e718c59d36877a30c7362"), looks := false }, kinds := [], alts := [], laidByText := true, laidKinds := [.data], laidTests := true, laidLooks := .later }
def RostersOrderCardSaid : Prop := Claim7.holds Tryz.pinned (.plain (OpenSpec.ofChange rostersOrderSpec)) rostersOrderCard

/-- THE TIED CARD OF 'handshapelaw05.RostersTies'. -/
def rostersTiesCard : Claim7 := { stood := { row := rostersTiesRow, standIns := [], harness := (true, "99d648e864983254cb74a221c3d173a491e6de4d468e718c59d36877a30c7362"), looks := false }, kinds := [], alts := [], laidByText := true, laidKinds := [.data], laidTests := true, laidLooks := .later }
def RostersTiesCardSaid : Prop := Claim7.holds Tryz.pinned (.plain (OpenSpec.ofChange rostersTiesSpec)) rostersTiesCard

/-- THE SECOND FORM's CARD OF 'handshapelaw05.RostersPlans'. -/
def rostersPlansUptoCard : Claim7 := { stood := { row := rostersPlansUptoRow, standIns := [], harness := (true, "99d648e864983254cb74a221c3d173a491e6de4d468e718c59d36877a30c7362"), looks := false }, kinds := [], alts := [], laidByText := true, laidKinds := [.data], laidTests := true, laidLooks := .later }
def RostersPlansUptoCardSaid : Prop := Claim7.holds Tryz.pinned (.plain (OpenSpec.upto rostersPlansSpec)) rostersPlansUptoCard

/-- THE SECOND FORM's CARD OF 'handshapelaw05.RostersTeams'. -/
def rostersTeamsUptoCard : Claim7 := { stood := { row := rostersTeamsUptoRow, standIns := [], harness := (true, "99d648e864983254cb74a221c3d173a491e6de4d468e718c59d36877a30c7362"), looks := false }, kinds := [], alts := [], laidByText := true, laidKinds := [.data], laidTests := true, laidLooks := .later }
def RostersTeamsUptoCardSaid : Prop := Claim7.holds Tryz.pinned (.plain (OpenSpec.upto rostersTeamsSpec)) rostersTeamsUptoCard

/-- THE SECOND FORM's CARD OF 'handshapelaw05.RostersFills'. -/
def rostersFillsUptoCard : Claim7 := { stood := { row := rostersFillsUptoRow, standIns := [], harness := (true, "99d648e864983254cb74a221c3d173a491e6de4d468e718c59d36877a30c7362"), looks := false }, kinds := [], alts := [], laidByText := true, laidKinds := [.data], laidTests := true, laidLooks := .later }
def RostersFillsUptoCardSaid : Prop := Claim7.holds Tryz.pinned (.plain (OpenSpec.upto rostersFillsSpec)) rostersFillsUptoCard

/-- THE SECOND FORM's CARD OF 'handshapelaw05.RostersMerges'. -/
def rostersMergesUptoCard : Claim7 := { stood := { row := rostersMergesUptoRow, standIns := [], harness := (true, "99d648e864983254cb74a221c3d173a491e6de4d468e718c59d36877a30c7362"), looks := false }, kinds := [], alts := [], laidByText := true, laidKinds := [.data], laidTests := true, laidLooks := .later }
def RostersMergesUptoCardSaid : Prop := Claim7.holds Tryz.pinned (.plain (OpenSpec.upto rostersMergesSpec)) rostersMergesUptoCard

/-- THE SECOND FORM's CARD OF 'handshapelaw05.RostersOrder'. -/
def rostersOrderUptoCard : Claim7 := { stood := { row := rostersOrderUptoRow, standIns := [], harness := (true, "99d648e864983254cb74a221c3d173a491e6de4d468e718c59d36877a30c7362"), looks := false }, kinds := [], alts := [], laidByText := true, laidKinds := [.data], laidTests := true, laidLooks := .later }
def RostersOrderUptoCardSaid : Prop := Claim7.holds Tryz.pinned (.plain (OpenSpec.upto rostersOrderSpec)) rostersOrderUptoCard

/-- THE SECOND FORM's CARD OF 'handshapelaw05.RostersTies'. -/
def rostersTiesUptoCard : Claim7 := { stood := { row := rostersTiesUptoRow, standIns := [], harness := (true, "99d648e864983254cb74a221c3d173a491e6de4d468e718c59d36877a30c7362"), looks := false }, kinds := [], alts := [], laidByText := true, laidKinds := [.data], laidTests := true, laidLooks := .later }
def RostersTiesUptoCardSaid : Prop := Claim7.holds Tryz.pinned (.plain (OpenSpec.upto rostersTiesSpec)) rostersTiesUptoCard
end Rows
end Go.Proofs.YtnkahkkofmoipaaGreatDoor
