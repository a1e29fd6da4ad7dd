/-
  DERIVED. GIVEN WITH THE SEED: THE CARDS: each row of YtclaaimmhneipaaGreatDoorRows.lean that lists a variable, with what it lists TIED to the program's text (the seventh form; the later family's looks); each row that meets fmt, with fmt's text TOLD by the authors' own Lean function (tested against real Go, not proved from fmt's source: count such statements apart). THE CARD IS WHAT COUNTS. Prove the row's statement (the work); the ties are given (YtclaaimmhneipaaGreatDoorTie.lean); close each card by the builder's one call (the guide's Derived/Test/ToyasCard.lean, 'card_holds'). Laid BY PROGRAM, IN A SANDBOX (cutbox-door.mjs). By AI agents, Wed Nov 11 2026. No macro, syntax, notation, axiom, sorry.
-/
import Derived.Test.YtclaaimmhneipaaGreatDoorRows
import GoSem.ClaimSeven
namespace Go.Proofs.YtclaaimmhneipaaGreatDoor
namespace Rows

/-- THE TIED CARD OF 'handshapetop.TopPaid'. -/
def topPaidCard : Claim7 := { stood := { row := topPaidRow, standIns := [], harness := (true, "10d68e057c02ea1f7e071c0e270f71f311226b198837a40068a80ff4430f1fca"), looks := false }, kinds := [], alts := [], laidByText := true, laidKinds := [.data], laidTests := true, laidLooks := .later }
def TopPaidCardSaid : Prop := Claim7.holds Tryz.pinned (.plain (OpenSpec.ofChange topPaidSpec)) topPaidCard

/-- THE SECOND FORM's CARD OF 'handshapetop.TopPaid'. -/
def topPaidUptoCard : Claim7 := { stood := { row := topPaidUptoRow, standIns := [], harness := (true, "10d68e057c02ea1f7e071c0e270f71f311226b198837a40068a80ff4430f1fca"), looks := false }, kinds := [], alts := [], laidByText := true, laidKinds := [.data], laidTests := true, laidLooks := .later }
def TopPaidUptoCardSaid : Prop := Claim7.holds Tryz.pinned (.plain (OpenSpec.upto topPaidSpec)) topPaidUptoCard
end Rows
end Go.Proofs.YtclaaimmhneipaaGreatDoor
