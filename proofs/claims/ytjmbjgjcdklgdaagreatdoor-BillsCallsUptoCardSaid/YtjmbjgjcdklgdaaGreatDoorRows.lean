/-
  NARROWER THAN 'FOR EVERY INPUT', by the rows' own cells (each row's printed sentence says how): BillsCalls: laid · BillsLatest: laid · BillsBalance: laid · BillsOrder: laid.
  DERIVED. THE GIVEN ROWS OF THIS SEAT. 4 by the template 'for every input the law returns true; each argument reads behind the call as it read before'; 0 by the template 'total and deterministic' (their statements: YtjmbjgjcdklgdaaGreatDoorTotals.lean).
  GIVEN WITH THE SEED: the statements are not yours to turn. If you find one false, say at which input.
  Laid BY PROGRAM, IN A SANDBOX (cutbox-rows.mjs): the forced cells as the released guide's own fill.sh prints them over the translation d250c6230d9639ad… (all of the seat's roots in one cut). By AI agents, Wed Nov 11 2026. No macro, syntax, notation, axiom, sorry.
-/
import Derived.Test.YtjmbjgjcdklgdaaGreatDoorChecked
import GoSem.Claim
import GoSem.ClaimJoined
import GoSem.ClaimMapViews
import Derived.JoinedTies
import Derived.KernelRfl
namespace Go.Proofs.YtjmbjgjcdklgdaaGreatDoor
/- THE CELL 'sum', in the pinned program and in every row, IS THE sha256 OF THE DUMP (.gsa) THAT YtjmbjgjcdklgdaaGreatDoorProg.lean LOADS. Nothing in Lean hashes anything: it is a label: what it is worth is what the hold of that sum in a sandbox is worth. -/
noncomputable def Tryz.pinned : Pinned := { name := "ytjmbjgjcdklgdaagreatdoor", sum := "d250c6230d9639adabbfbf46c816a3a68b35d8ffc540bb6ddab635dd3a444b20", checked := Tryz.checked }
namespace Rows
def none {H : Type} : Left H := { results := [], args := [] }

/- WHAT THE LISTED PACKAGE-LEVEL VARIABLES READ AS WHEN THE CALL BEGINS. Each datum BY PROGRAM (the guide's laid-datum.mjs) off the statement by which the dump's own 'gosem.cut.vars' lays the variable. In a bare row this is a premise. The card (YtjmbjgjcdklgdaaGreatDoorCards.lean) ties it to the program's text. -/
def laid_handshape_rosters_some {H : Type} : DataW H := .agg [.lit (.int .i64 0), .lit (.int .i64 1), .lit (.int .i64 0), .lit (.int .i64 0), .lit (.int .i64 0), .lit (.int .i64 1)]

/-- 'handshapelaw07.BillsCalls': WHATEVER THE INPUT: true; the input reads as it did. -/
def billsCallsSpec : ChangeSpec := { name := "billsCalls", fn := fun _ => fun
  | [d1, d2, d3] => { results := [.lit (.bool true)], args := [d1, d2, d3] }
  | _ => none }
def billsCallsRow : OpenClaim := { program := "ytjmbjgjcdklgdaagreatdoor", sum := "d250c6230d9639adabbfbf46c816a3a68b35d8ffc540bb6ddab635dd3a444b20", func := "handshape/handshapelaw07.BillsCalls", spec := "billsCalls", unfollowed := true, recurses := true, named := ["handshape/rosters.some"], plainKeys := false, apart := false, laid := [("handshape/rosters.some", laid_handshape_rosters_some)] }
def BillsCallsSaid : Prop := billsCallsRow.holds Tryz.pinned (OpenSpec.ofChange billsCallsSpec)

/-- ITS FALSE NEIGHBOUR: 'it returns false'. Refute it at one input. -/
def billsCallsWrong : ChangeSpec := { name := "billsCalls", fn := fun _ => fun
  | [d1, d2, d3] => { results := [.lit (.bool false)], args := [d1, d2, d3] }
  | _ => none }
def BillsCallsWrongFalsely : Prop := billsCallsRow.holds Tryz.pinned (OpenSpec.ofChange billsCallsWrong)

/-- 'handshapelaw07.BillsLatest': WHATEVER THE INPUT: true; the input reads as it did. -/
def billsLatestSpec : ChangeSpec := { name := "billsLatest", fn := fun _ => fun
  | [d1, d2] => { results := [.lit (.bool true)], args := [d1, d2] }
  | _ => none }
def billsLatestRow : OpenClaim := { program := "ytjmbjgjcdklgdaagreatdoor", sum := "d250c6230d9639adabbfbf46c816a3a68b35d8ffc540bb6ddab635dd3a444b20", func := "handshape/handshapelaw07.BillsLatest", spec := "billsLatest", unfollowed := true, recurses := true, named := ["handshape/rosters.some"], plainKeys := false, apart := false, laid := [("handshape/rosters.some", laid_handshape_rosters_some)] }
def BillsLatestSaid : Prop := billsLatestRow.holds Tryz.pinned (OpenSpec.ofChange billsLatestSpec)

/-- ITS FALSE NEIGHBOUR: 'it returns false'. Refute it at one input. -/
def billsLatestWrong : ChangeSpec := { name := "billsLatest", fn := fun _ => fun
  | [d1, d2] => { results := [.lit (.bool false)], args := [d1, d2] }
  | _ => none }
def BillsLatestWrongFalsely : Prop := billsLatestRow.holds Tryz.pinned (OpenSpec.ofChange billsLatestWrong)

/-- 'handshapelaw07.BillsBalance': WHATEVER THE INPUT: true; the input reads as it did. -/
def billsBalanceSpec : ChangeSpec := { name := "billsBalance", fn := fun _ => fun
  | [d] => { results := [.lit (.bool true)], args := [d] }
  | _ => none }
def billsBalanceRow : OpenClaim := { program := "ytjmbjgjcdklgdaagreatdoor", sum := "d250c6230d9639adabbfbf46c816a3a68b35d8ffc540bb6ddab635dd3a444b20", func := "handshape/handshapelaw07.BillsBalance", spec := "billsBalance", unfollowed := true, recurses := true, named := ["handshape/rosters.some"], plainKeys := false, apart := false, laid := [("handshape/rosters.some", laid_handshape_rosters_some)] }
def BillsBalanceSaid : Prop := billsBalanceRow.holds Tryz.pinned (OpenSpec.ofChange billsBalanceSpec)

/-- ITS FALSE NEIGHBOUR: 'it returns false'. Refute it at one input. -/
def billsBalanceWrong : ChangeSpec := { name := "billsBalance", fn := fun _ => fun
  | [d] => { results := [.lit (.bool false)], args := [d] }
  | _ => none }
def BillsBalanceWrongFalsely : Prop := billsBalanceRow.holds Tryz.pinned (OpenSpec.ofChange billsBalanceWrong)

/-- 'handshapelaw07.BillsOrder': WHATEVER THE INPUT: true; the input reads as it did. -/
def billsOrderSpec : ChangeSpec := { name := "billsOrder", fn := fun _ => fun
  | [d1, d2, d3] => { results := [.lit (.bool true)], args := [d1, d2, d3] }
  | _ => none }
def billsOrderRow : OpenClaim := { program := "ytjmbjgjcdklgdaagreatdoor", sum := "d250c6230d9639adabbfbf46c816a3a68b35d8ffc540bb6ddab635dd3a444b20", func := "handshape/handshapelaw07.BillsOrder", spec := "billsOrder", unfollowed := true, recurses := true, named := ["handshape/rosters.some"], plainKeys := false, apart := false, laid := [("handshape/rosters.some", laid_handshape_rosters_some)] }
def BillsOrderSaid : Prop := billsOrderRow.holds Tryz.pinned (OpenSpec.ofChange billsOrderSpec)

/-- ITS FALSE NEIGHBOUR: 'it returns false'. Refute it at one input. -/
def billsOrderWrong : ChangeSpec := { name := "billsOrder", fn := fun _ => fun
  | [d1, d2, d3] => { results := [.lit (.bool false)], args := [d1, d2, d3] }
  | _ => none }
def BillsOrderWrongFalsely : Prop := billsOrderRow.holds Tryz.pinned (OpenSpec.ofChange billsOrderWrong)

/- THE SECOND FORM. 'bulk': how many values and letters a reading holds, each counted each time it is reached (what is shared counts as often as it is met; a slice's spare places count too). A statement '..UptoSaid' is the law's where the arguments, and the package variables that the reading takes, are together of bulk at most 1048576: NARROWER than '..Said'. Prove '..Said' where nothing that the law and all that it calls make is longer than what came in: it says more and counts as full. Else prove '..UptoSaid'. A law counts once. -/
mutual
def uptoBulk {H : Type} : DataW H → Nat
  | .lit (.string bytes) => bytes.length + 1
  | .lit _ => 1
  | .nil => 1
  | .ptr d => uptoBulk d + 1
  | .slice elems spare => uptoBulkAll elems + uptoBulkAll spare + 1
  | .agg parts => uptoBulkAll parts + 1
  | .iface _ d => uptoBulk d + 1
  | .map entries => uptoBulkEntries entries + 1
  | .held _ => 1
def uptoBulkAll {H : Type} : List (DataW H) → Nat
  | [] => 0
  | d :: r => uptoBulk d + uptoBulkAll r
def uptoBulkEntries {H : Type} : List (Lit × DataW H) → Nat
  | [] => 0
  | x :: r => uptoBulkEntry x + uptoBulkEntries r
def uptoBulkEntry {H : Type} : Lit × DataW H → Nat
  | (.string bytes, d) => bytes.length + uptoBulk d + 1
  | (_, d) => uptoBulk d + 1
 end
def uptoSmall : (H : Type) → List (DataW H) → Bool := fun _ ds => decide (uptoBulkAll ds ≤ 1048576)
def OpenSpec.upto (s : _root_.Go.ChangeSpec) : _root_.Go.OpenSpec := { _root_.Go.OpenSpec.ofChange s with cond := some uptoSmall }

/-- 'handshapelaw07.BillsCalls', WHERE WHAT IT READS IS OF BULK AT MOST 1048576: true; the input reads as it did. -/
def billsCallsUptoRow : OpenClaim := { program := "ytjmbjgjcdklgdaagreatdoor", sum := "d250c6230d9639adabbfbf46c816a3a68b35d8ffc540bb6ddab635dd3a444b20", func := "handshape/handshapelaw07.BillsCalls", spec := "billsCalls", unfollowed := true, recurses := true, named := ["handshape/rosters.some"], plainKeys := false, apart := false, laid := [("handshape/rosters.some", laid_handshape_rosters_some)], narrowed := true }
def BillsCallsUptoSaid : Prop := billsCallsUptoRow.holds Tryz.pinned (OpenSpec.upto billsCallsSpec)

/-- 'handshapelaw07.BillsLatest', WHERE WHAT IT READS IS OF BULK AT MOST 1048576: true; the input reads as it did. -/
def billsLatestUptoRow : OpenClaim := { program := "ytjmbjgjcdklgdaagreatdoor", sum := "d250c6230d9639adabbfbf46c816a3a68b35d8ffc540bb6ddab635dd3a444b20", func := "handshape/handshapelaw07.BillsLatest", spec := "billsLatest", unfollowed := true, recurses := true, named := ["handshape/rosters.some"], plainKeys := false, apart := false, laid := [("handshape/rosters.some", laid_handshape_rosters_some)], narrowed := true }
def BillsLatestUptoSaid : Prop := billsLatestUptoRow.holds Tryz.pinned (OpenSpec.upto billsLatestSpec)

/-- 'handshapelaw07.BillsBalance', WHERE WHAT IT READS IS OF BULK AT MOST 1048576: true; the input reads as it did. -/
def billsBalanceUptoRow : OpenClaim := { program := "ytjmbjgjcdklgdaagreatdoor", sum := "d250c6230d9639adabbfbf46c816a3a68b35d8ffc540bb6ddab635dd3a444b20", func := "handshape/handshapelaw07.BillsBalance", spec := "billsBalance", unfollowed := true, recurses := true, named := ["handshape/rosters.some"], plainKeys := false, apart := false, laid := [("handshape/rosters.some", laid_handshape_rosters_some)], narrowed := true }
def BillsBalanceUptoSaid : Prop := billsBalanceUptoRow.holds Tryz.pinned (OpenSpec.upto billsBalanceSpec)

/-- 'handshapelaw07.BillsOrder', WHERE WHAT IT READS IS OF BULK AT MOST 1048576: true; the input reads as it did. -/
def billsOrderUptoRow : OpenClaim := { program := "ytjmbjgjcdklgdaagreatdoor", sum := "d250c6230d9639adabbfbf46c816a3a68b35d8ffc540bb6ddab635dd3a444b20", func := "handshape/handshapelaw07.BillsOrder", spec := "billsOrder", unfollowed := true, recurses := true, named := ["handshape/rosters.some"], plainKeys := false, apart := false, laid := [("handshape/rosters.some", laid_handshape_rosters_some)], narrowed := true }
def BillsOrderUptoSaid : Prop := billsOrderUptoRow.holds Tryz.pinned (OpenSpec.upto billsOrderSpec)

end Rows
end Go.Proofs.YtjmbjgjcdklgdaaGreatDoor
