/-
  DERIVED. GIVEN WITH THE SEED: THE CARDS: each row of YtacjhnpgiklpdaaGreatDoorRows.lean that lists a variable, with what it lists TIED to the program's text (the seventh form; the later family's looks); each row that meets fmt, with fmt's text TOLD by the authors' own Lean function (tested against real Go, not proved from fmt's source: count such statements apart). THE CARD IS WHAT COUNTS. Prove the row's statement (the work); the ties are given (YtacjhnpgiklpdaaGreatDoorTie.lean); close each card by the builder's one call (the guide's Derived/Test/ToyasCard.lean, 'card_holds'). Laid BY PROGRAM, IN A SANDBOX (cutbox-door.mjs). By AI agents, Wed Nov 11 2026. No macro, syntax, notation, axiom, sorry.
-/
import Derived.Test.YtacjhnpgiklpdaaGreatDoorRows
import GoSem.ClaimSeven
namespace Go.Proofs.YtacjhnpgiklpdaaGreatDoor
namespace Rows

/-- THE TIED CARD OF 'handshapelaw07.BillsSaves'. -/
def billsSavesCard : Claim7 := { stood := { row := billsSavesRow, standIns := [], harness := (true, "401b7376805a731a565c05f3f9300f27c9710340d43555c4c5ff5ed48c3f907c"), looks := false }, kinds := [], alts := [], laidByText := true, laidKinds := [.data], laidTests := true, laidLooks := .later }
def BillsSavesCardSaid : Prop := Claim7.holds Tryz.pinned (.plain (OpenSpec.ofChange billsSavesSpec)) billsSavesCard

/-- THE TIED CARD OF 'handshapelaw07.BillsFair'. -/
def billsFairCard : Claim7 := { stood := { row := billsFairRow, standIns := [], harness := (true, "401b7376805a731a565c05f3f9300f27c9710340d43555c4c5ff5ed48c3f907c"), looks := false }, kinds := [], alts := [], laidByText := true, laidKinds := [.data], laidTests := true, laidLooks := .later }
def BillsFairCardSaid : Prop := Claim7.holds Tryz.pinned (.plain (OpenSpec.ofChange billsFairSpec)) billsFairCard

/-- THE TIED CARD OF 'handshapelaw07.BillsLines'. -/
def billsLinesCard : Claim7 := { stood := { row := billsLinesRow, standIns := [], harness := (true, "401b7376805a731a565c05f3f9300f27c9710340d43555c4c5ff5ed48c3f907c"), looks := false }, kinds := [], alts := [], laidByText := true, laidKinds := [.data], laidTests := true, laidLooks := .later }
def BillsLinesCardSaid : Prop := Claim7.holds Tryz.pinned (.plain (OpenSpec.ofChange billsLinesSpec)) billsLinesCard

/-- THE TIED CARD OF 'handshapelaw07.BillsBounds'. -/
def billsBoundsCard : Claim7 := { stood := { row := billsBoundsRow, standIns := [], harness := (true, "401b7376805a731a565c05f3f9300f27c9710340d43555c4c5ff5ed48c3f907c"), looks := false }, kinds := [], alts := [], laidByText := true, laidKinds := [.data], laidTests := true, laidLooks := .later }
def BillsBoundsCardSaid : Prop := Claim7.holds Tryz.pinned (.plain (OpenSpec.ofChange billsBoundsSpec)) billsBoundsCard

/-- THE TIED CARD OF 'handshapelaw07.BillsPays'. -/
def billsPaysCard : Claim7 := { stood := { row := billsPaysRow, standIns := [], harness := (true, "401b7376805a731a565c05f3f9300f27c9710340d43555c4c5ff5ed48c3f907c"), looks := false }, kinds := [], alts := [], laidByText := true, laidKinds := [.data], laidTests := true, laidLooks := .later }
def BillsPaysCardSaid : Prop := Claim7.holds Tryz.pinned (.plain (OpenSpec.ofChange billsPaysSpec)) billsPaysCard

/-- THE SECOND FORM's CARD OF 'handshapelaw07.BillsSaves'. -/
def billsSavesUptoCard : Claim7 := { stood := { row := billsSavesUptoRow, standIns := [], harness := (true, "401b7376805a731a565c05f3f9300f27c9710340d43555c4c5ff5ed48c3f907c"), looks := false }, kinds := [], alts := [], laidByText := true, laidKinds := [.data], laidTests := true, laidLooks := .later }
def BillsSavesUptoCardSaid : Prop := Claim7.holds Tryz.pinned (.plain (OpenSpec.upto billsSavesSpec)) billsSavesUptoCard

/-- THE SECOND FORM's CARD OF 'handshapelaw07.BillsFair'. -/
def billsFairUptoCard : Claim7 := { stood := { row := billsFairUptoRow, standIns := [], harness := (true, "401b7376805a731a565c05f3f9300f27c9710340d43555c4c5ff5ed48c3f907c"), looks := false }, kinds := [], alts := [], laidByText := true, laidKinds := [.data], laidTests := true, laidLooks := .later }
def BillsFairUptoCardSaid : Prop := Claim7.holds Tryz.pinned (.plain (OpenSpec.upto billsFairSpec)) billsFairUptoCard

/-- THE SECOND FORM's CARD OF 'handshapelaw07.BillsLines'. -/
def billsLinesUptoCard : Claim7 := { stood := { row := billsLinesUptoRow, standIns := [], harness := (true, "401b7376805a731a565c05f3f9300f27c9710340d43555c4c5ff5ed48c3f907c"), looks := false }, kinds := [], alts := [], laidByText := true, laidKinds := [.data], laidTests := true, laidLooks := .later }
def BillsLinesUptoCardSaid : Prop := Claim7.holds Tryz.pinned (.plain (OpenSpec.upto billsLinesSpec)) billsLinesUptoCard

/-- THE SECOND FORM's CARD OF 'handshapelaw07.BillsBounds'. -/
def billsBoundsUptoCard : Claim7 := { stood := { row := billsBoundsUptoRow, standIns := [], harness := (true, "401b7376805a731a565c05f3f9300f27c9710340d43555c4c5ff5ed48c3f907c"), looks := false }, kinds := [], alts := [], laidByText := true, laidKinds := [.data], laidTests := true, laidLooks := .later }
def BillsBoundsUptoCardSaid : Prop := Claim7.holds Tryz.pinned (.plain (OpenSpec.upto billsBoundsSpec)) billsBoundsUptoCard

/-- THE SECOND FORM's CARD OF 'handshapelaw07.BillsPays'. -/
def billsPaysUptoCard : Claim7 := { stood := { row := billsPaysUptoRow, standIns := [], harness := (true, "401b7376805a731a565c05f3f9300f27c9710340d43555c4c5ff5ed48c3f907c"), looks := false }, kinds := [], alts := [], laidByText := true, laidKinds := [.data], laidTests := true, laidLooks := .later }
def BillsPaysUptoCardSaid : Prop := Claim7.holds Tryz.pinned (.plain (OpenSpec.upto billsPaysSpec)) billsPaysUptoCard
end Rows
end Go.Proofs.YtacjhnpgiklpdaaGreatDoor
