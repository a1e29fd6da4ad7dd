/-
  DERIVED. GIVEN WITH THE SEED: THE CARDS: each row of YtphbhcmpebmadaaGreatDoorRows.lean that lists a variable, with what it lists TIED to the program's text (the seventh form; the later family's looks); each row that meets fmt, with fmt's text TOLD by the authors' own Lean function (tested against real Go, not proved from fmt's source: count such statements apart). THE CARD IS WHAT COUNTS. Prove the row's statement (the work); the ties are given (YtphbhcmpebmadaaGreatDoorTie.lean); close each card by the builder's one call (the guide's Derived/Test/ToyasCard.lean, 'card_holds'). Laid BY PROGRAM, IN A SANDBOX (cutbox-door.mjs). By AI agents, Wed Nov 11 2026. No macro, syntax, notation, axiom, sorry.
-/
import Derived.Test.YtphbhcmpebmadaaGreatDoorRows
import GoSem.ClaimSeven
namespace Go.Proofs.YtphbhcmpebmadaaGreatDoor
namespace Rows

/-- THE TIED CARD OF 'handshapelaw05.RostersRested'. -/
def rostersRestedCard : Claim7 := { stood := { row := rostersRestedRow, standIns := [], harness := (true, "8d48ee17b3e304e2cbf64e1307bfc5681e30da7be55ce7682792670238a997d8"), looks := false }, kinds := [], alts := [], laidByText := true, laidKinds := [.data], laidTests := true, laidLooks := .later }
def RostersRestedCardSaid : Prop := Claim7.holds Tryz.pinned (.plain (OpenSpec.ofChange rostersRestedSpec)) rostersRestedCard

/-- THE TIED CARD OF 'handshapelaw05.RostersPlanned'. -/
def rostersPlannedCard : Claim7 := { stood := { row := rostersPlannedRow, standIns := [], harness := (true, "8d48ee17b3e304e2cbf64e1307bfc5681e30da7be55ce7682792670238a997d8"), looks := false }, kinds := [], alts := [], laidByText := true, laidKinds := [.data], laidTests := true, laidLooks := .later }
def RostersPlannedCardSaid : Prop := Claim7.holds Tryz.pinned (.plain (OpenSpec.ofChange rostersPlannedSpec)) rostersPlannedCard

/-- THE TIED CARD OF 'handshapelaw05.RostersServed'. -/
def rostersServedCard : Claim7 := { stood := { row := rostersServedRow, standIns := [], harness := (true, "8d48ee17b3e304e2cbf64e1307bfc5681e30da7be55ce7682792670238a997d8"), looks := false }, kinds := [], alts := [], laidByText := true, laidKinds := [.data], laidTests := true, laidLooks := .later }
def RostersServedCardSaid : Prop := Claim7.holds Tryz.pinned (.plain (OpenSpec.ofChange rostersServedSpec)) rostersServedCard

/-- THE TIED CARD OF 'handshapelaw05.RostersLast'. -/
def rostersLastCard : Claim7 := { stood := { row := rostersLastRow, standIns := [], harness := (true, "8d48ee17b3e304e2cbf64e1307bfc5681e30da7be55ce7682792670238a997d8"), looks := false }, kinds := [], alts := [], laidByText := true, laidKinds := [.data], laidTests := true, laidLooks := .later }
def RostersLastCardSaid : Prop := Claim7.holds Tryz.pinned (.plain (OpenSpec.ofChange rostersLastSpec)) rostersLastCard

/-- THE SECOND FORM's CARD OF 'handshapelaw05.RostersRested'. -/
def rostersRestedUptoCard : Claim7 := { stood := { row := rostersRestedUptoRow, standIns := [], harness := (true, "8d48ee17b3e304e2cbf64e1307bfc5681e30da7be55ce7682792670238a997d8"), looks := false }, kinds := [], alts := [], laidByText := true, laidKinds := [.data], laidTests := true, laidLooks := .later }
def RostersRestedUptoCardSaid : Prop := Claim7.holds Tryz.pinned (.plain (OpenSpec.upto rostersRestedSpec)) rostersRestedUptoCard

/-- THE SECOND FORM's CARD OF 'handshapelaw05.RostersPlanned'. -/
def rostersPlannedUptoCard : Claim7 := { stood := { row := rostersPlannedUptoRow, standIns := [], harness := (true, "8d48ee17b3e304e2cbf64e1307bfc5681e30da7be55ce7682792670238a997d8"), looks := false }, kinds := [], alts := [], laidByText := true, laidKinds := [.data], laidTests := true, laidLooks := .later }
def RostersPlannedUptoCardSaid : Prop := Claim7.holds Tryz.pinned (.plain (OpenSpec.upto rostersPlannedSpec)) rostersPlannedUptoCard

/-- THE SECOND FORM's CARD OF 'handshapelaw05.RostersServed'. -/
def rostersServedUptoCard : Claim7 := { stood := { row := rostersServedUptoRow, standIns := [], harness := (true, "8d48ee17b3e304e2cbf64e1307bfc5681e30da7be55ce7682792670238a997d8"), looks := false }, kinds := [], alts := [], laidByText := true, laidKinds := [.data], laidTests := true, laidLooks := .later }
def RostersServedUptoCardSaid : Prop := Claim7.holds Tryz.pinned (.plain (OpenSpec.upto rostersServedSpec)) rostersServedUptoCard

/-- THE SECOND FORM's CARD OF 'handshapelaw05.RostersLast'. -/
def rostersLastUptoCard : Claim7 := { stood := { row := rostersLastUptoRow, standIns := [], harness := (true, "8d48ee17b3e304e2cbf64e1307bfc5681e30da7be55ce7682792670238a997d8"), looks := false }, kinds := [], alts := [], laidByText := true, laidKinds := [.data], laidTests := true, laidLooks := .later }
def RostersLastUptoCardSaid : Prop := Claim7.holds Tryz.pinned (.plain (OpenSpec.upto rostersLastSpec)) rostersLastUptoCard
end Rows
end Go.Proofs.YtphbhcmpebmadaaGreatDoor
