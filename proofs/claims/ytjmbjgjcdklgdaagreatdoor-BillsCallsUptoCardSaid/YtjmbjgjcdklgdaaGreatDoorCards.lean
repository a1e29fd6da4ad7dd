/-
  DERIVED. GIVEN WITH THE SEED: THE CARDS: each row of YtjmbjgjcdklgdaaGreatDoorRows.lean that lists a variable, with what it lists TIED to the program's text (the seventh form; the later family's looks); each row that meets fmt, with fmt's text TOLD by the authors' own Lean function (tested against real Go, not proved from fmt's source: count such statements apart). THE CARD IS WHAT COUNTS. Prove the row's statement (the work); the ties are given (YtjmbjgjcdklgdaaGreatDoorTie.lean); close each card by the builder's one call (the guide's Derived/Test/ToyasCard.lean, 'card_holds'). Laid BY PROGRAM, IN A SANDBOX (cutbox-door.mjs). By AI agents, Wed Nov 11 2026. No macro, syntax, notation, axiom, sorry.
-/
import Derived.Test.YtjmbjgjcdklgdaaGreatDoorRows
import GoSem.ClaimSeven
namespace Go.Proofs.YtjmbjgjcdklgdaaGreatDoor
namespace Rows

/-- THE TIED CARD OF 'handshapelaw07.BillsCalls'. -/
def billsCallsCard : Claim7 := { stood := { row := billsCallsRow, standIns := [], harness := (true, "7103e5b48db5eaaed36d68c2c81ae4acc937ccc0c7dfc37f0f26d1fd1363fe1b"), looks := false }, kinds := [], alts := [], laidByText := true, laidKinds := [.data], laidTests := true, laidLooks := .later }
def BillsCallsCardSaid : Prop := Claim7.holds Tryz.pinned (.plain (OpenSpec.ofChange billsCallsSpec)) billsCallsCard

/-- THE TIED CARD OF 'handshapelaw07.BillsLatest'. -/
def billsLatestCard : Claim7 := { stood := { row := billsLatestRow, standIns := [], harness := (true, "7103e5b48db5eaaed36d68c2c81ae4acc937ccc0c7dfc37f0f26d1fd1363fe1b"), looks := false }, kinds := [], alts := [], laidByText := true, laidKinds := [.data], laidTests := true, laidLooks := .later }
def BillsLatestCardSaid : Prop := Claim7.holds Tryz.pinned (.plain (OpenSpec.ofChange billsLatestSpec)) billsLatestCard

/-- THE TIED CARD OF 'handshapelaw07.BillsBalance'. -/
def billsBalanceCard : Claim7 := { stood := { row := billsBalanceRow, standIns := [], harness := (true, "7103e5b48db5eaaed36d68c2c81ae4acc937ccc0c7dfc37f0f26d1fd1363fe1b"), looks := false }, kinds := [], alts := [], laidByText := true, laidKinds := [.data], laidTests := true, laidLooks := .later }
def BillsBalanceCardSaid : Prop := Claim7.holds Tryz.pinned (.plain (OpenSpec.ofChange billsBalanceSpec)) billsBalanceCard

/-- THE TIED CARD OF 'handshapelaw07.BillsOrder'. -/
def billsOrderCard : Claim7 := { stood := { row := billsOrderRow, standIns := [], harness := (true, "7103e5b48db5eaaed36d68c2c81ae4acc937ccc0c7dfc37f0f26d1fd1363fe1b"), looks := false }, kinds := [], alts := [], laidByText := true, laidKinds := [.data], laidTests := true, laidLooks := .later }
def BillsOrderCardSaid : Prop := Claim7.holds Tryz.pinned (.plain (OpenSpec.ofChange billsOrderSpec)) billsOrderCard

/-- THE SECOND FORM's CARD OF 'handshapelaw07.BillsCalls'. -/
def billsCallsUptoCard : Claim7 := { stood := { row := billsCallsUptoRow, standIns := [], harness := (true, "7103e5b48db5eaaed36d68c2c81ae4acc937ccc0c7dfc37f0f26d1fd1363fe1b"), looks := false }, kinds := [], alts := [], laidByText := true, laidKinds := [.data], laidTests := true, laidLooks := .later }
def BillsCallsUptoCardSaid : Prop := Claim7.holds Tryz.pinned (.plain (OpenSpec.upto billsCallsSpec)) billsCallsUptoCard

/-- THE SECOND FORM's CARD OF 'handshapelaw07.BillsLatest'. -/
def billsLatestUptoCard : Claim7 := { stood := { row := billsLatestUptoRow, standIns := [], harness := (true, "7103e5b48db5eaaed36d68c2c81ae4acc937ccc0c7dfc37f0f26d1fd1363fe1b"), looks := false }, kinds := [], alts := [], laidByText := true, laidKinds := [.data], laidTests := true, laidLooks := .later }
def BillsLatestUptoCardSaid : Prop := Claim7.holds Tryz.pinned (.plain (OpenSpec.upto billsLatestSpec)) billsLatestUptoCard

/-- THE SECOND FORM's CARD OF 'handshapelaw07.BillsBalance'. -/
def billsBalanceUptoCard : Claim7 := { stood := { row := billsBalanceUptoRow, standIns := [], harness := (true, "7103e5b48db5eaaed36d68c2c81ae4acc937ccc0c7dfc37f0f26d1fd1363fe1b"), looks := false }, kinds := [], alts := [], laidByText := true, laidKinds := [.data], laidTests := true, laidLooks := .later }
def BillsBalanceUptoCardSaid : Prop := Claim7.holds Tryz.pinned (.plain (OpenSpec.upto billsBalanceSpec)) billsBalanceUptoCard

/-- THE SECOND FORM's CARD OF 'handshapelaw07.BillsOrder'. -/
def billsOrderUptoCard : Claim7 := { stood := { row := billsOrderUptoRow, standIns := [], harness := (true, "7103e5b48db5eaaed36d68c2c81ae4acc937ccc0c7dfc37f0f26d1fd1363fe1b"), looks := false }, kinds := [], alts := [], laidByText := true, laidKinds := [.data], laidTests := true, laidLooks := .later }
def BillsOrderUptoCardSaid : Prop := Claim7.holds Tryz.pinned (.plain (OpenSpec.upto billsOrderSpec)) billsOrderUptoCard
end Rows
end Go.Proofs.YtjmbjgjcdklgdaaGreatDoor
