/-
  NARROWER THAN 'FOR EVERY INPUT', by the rows' own cells (each row's printed sentence says how): BillsSaves: laid · BillsFair: laid · BillsLines: laid · BillsBounds: laid · BillsPays: laid.
  DERIVED. THE GIVEN ROWS OF THIS SEAT. 5 by the template 'for every input the law returns true; each argument reads behind the call as it read before'; 0 by the template 'total and deterministic' (their statements: YtacjhnpgiklpdaaGreatDoorTotals.lean).
  GIVEN WITH THE SEED: the statements are not yours to turn. If you find one false, say at which input.
  Laid BY PROGRAM, IN A SANDBOX (cutbox-rows.mjs): the forced cells as the released guide's own fill.sh prints them over the translation c5fe864639c8aaca… (all of the seat's roots in one cut). By AI agents, Wed Nov 11 2026. No macro, syntax, notation, axiom, sorry.
-/
import Derived.Test.YtacjhnpgiklpdaaGreatDoorChecked
import GoSem.Claim
import GoSem.ClaimJoined
import GoSem.ClaimMapViews
import Derived.JoinedTies
import Derived.KernelRfl
namespace Go.Proofs.YtacjhnpgiklpdaaGreatDoor
/- THE CELL 'sum', in the pinned program and in every row, IS THE sha256 OF THE DUMP (.gsa) THAT YtacjhnpgiklpdaaGreatDoorProg.lean LOADS. Nothing in Lean hashes anything: it is a label: what it is worth is what the hold of that sum in a sandbox is worth. -/
noncomputable def Tryz.pinned : Pinned := { name := "ytacjhnpgiklpdaagreatdoor", sum := "c5fe864639c8aacab3437160d794fc1d83988df7f3032231f83e18ca38ee3932", checked := Tryz.checked }
namespace Rows
def none {H : Type} : Left H := { results := [], args := [] }

/- WHAT THE LISTED PACKAGE-LEVEL VARIABLES READ AS WHEN THE CALL BEGINS. Each datum BY PROGRAM (the guide's laid-datum.mjs) off the statement by which the dump's own 'gosem.cut.vars' lays the variable. In a bare row this is a premise. The card (YtacjhnpgiklpdaaGreatDoorCards.lean) ties it to the program's text. -/
def laid_handshape_rosters_some {H : Type} : DataW H := .agg [.lit (.int .i64 0), .lit (.int .i64 1), .lit (.int .i64 0), .lit (.int .i64 0), .lit (.int .i64 0), .lit (.int .i64 1)]

/-- 'handshapelaw07.BillsSaves': WHATEVER THE INPUT: true; the input reads as it did. -/
def billsSavesSpec : ChangeSpec := { name := "billsSaves", fn := fun _ => fun
  | [d1, d2] => { results := [.lit (.bool true)], args := [d1, d2] }
  | _ => none }
def billsSavesRow : OpenClaim := { program := "ytacjhnpgiklpdaagreatdoor", sum := "c5fe864639c8aacab3437160d794fc1d83988df7f3032231f83e18ca38ee3932", func := "handshape/handshapelaw07.BillsSaves", spec := "billsSaves", unfollowed := true, recurses := true, named := ["handshape/rosters.some"], plainKeys := false, apart := false, laid := [("handshape/rosters.some", laid_handshape_rosters_some)] }
def BillsSavesSaid : Prop := billsSavesRow.holds Tryz.pinned (OpenSpec.ofChange billsSavesSpec)

/-- ITS FALSE NEIGHBOUR: 'it returns false'. Refute it at one input. -/
def billsSavesWrong : ChangeSpec := { name := "billsSaves", fn := fun _ => fun
  | [d1, d2] => { results := [.lit (.bool false)], args := [d1, d2] }
  | _ => none }
def BillsSavesWrongFalsely : Prop := billsSavesRow.holds Tryz.pinned (OpenSpec.ofChange billsSavesWrong)

/-- 'handshapelaw07.BillsFair': WHATEVER THE INPUT: true; the input reads as it did. -/
def billsFairSpec : ChangeSpec := { name := "billsFair", fn := fun _ => fun
  | [d1, d2] => { results := [.lit (.bool true)], args := [d1, d2] }
  | _ => none }
def billsFairRow : OpenClaim := { program := "ytacjhnpgiklpdaagreatdoor", sum := "c5fe864639c8aacab3437160d794fc1d83988df7f3032231f83e18ca38ee3932", func := "handshape/handshapelaw07.BillsFair", spec := "billsFair", unfollowed := true, recurses := true, named := ["handshape/rosters.some"], plainKeys := false, apart := false, laid := [("handshape/rosters.some", laid_handshape_rosters_some)] }
def BillsFairSaid : Prop := billsFairRow.holds Tryz.pinned (OpenSpec.ofChange billsFairSpec)

/-- ITS FALSE NEIGHBOUR: 'it returns false'. Refute it at one input. -/
def billsFairWrong : ChangeSpec := { name := "billsFair", fn := fun _ => fun
  | [d1, d2] => { results := [.lit (.bool false)], args := [d1, d2] }
  | _ => none }
def BillsFairWrongFalsely : Prop := billsFairRow.holds Tryz.pinned (OpenSpec.ofChange billsFairWrong)

/-- 'handshapelaw07.BillsLines': WHATEVER THE INPUT: true; the input reads as it did. -/
def billsLinesSpec : ChangeSpec := { name := "billsLines", fn := fun _ => fun
  | [d] => { results := [.lit (.bool true)], args := [d] }
  | _ => none }
def billsLinesRow : OpenClaim := { program := "ytacjhnpgiklpdaagreatdoor", sum := "c5fe864639c8aacab3437160d794fc1d83988df7f3032231f83e18ca38ee3932", func := "handshape/handshapelaw07.BillsLines", spec := "billsLines", unfollowed := true, recurses := true, named := ["handshape/rosters.some"], plainKeys := false, apart := false, laid := [("handshape/rosters.some", laid_handshape_rosters_some)] }
def BillsLinesSaid : Prop := billsLinesRow.holds Tryz.pinned (OpenSpec.ofChange billsLinesSpec)

/-- ITS FALSE NEIGHBOUR: 'it returns false'. Refute it at one input. -/
def billsLinesWrong : ChangeSpec := { name := "billsLines", fn := fun _ => fun
  | [d] => { results := [.lit (.bool false)], args := [d] }
  | _ => none }
def BillsLinesWrongFalsely : Prop := billsLinesRow.holds Tryz.pinned (OpenSpec.ofChange billsLinesWrong)

/-- 'handshapelaw07.BillsBounds': WHATEVER THE INPUT: true; the input reads as it did. -/
def billsBoundsSpec : ChangeSpec := { name := "billsBounds", fn := fun _ => fun
  | [d] => { results := [.lit (.bool true)], args := [d] }
  | _ => none }
def billsBoundsRow : OpenClaim := { program := "ytacjhnpgiklpdaagreatdoor", sum := "c5fe864639c8aacab3437160d794fc1d83988df7f3032231f83e18ca38ee3932", func := "handshape/handshapelaw07.BillsBounds", spec := "billsBounds", unfollowed := true, recurses := true, named := ["handshape/rosters.some"], plainKeys := false, apart := false, laid := [("handshape/rosters.some", laid_handshape_rosters_some)] }
def BillsBoundsSaid : Prop := billsBoundsRow.holds Tryz.pinned (OpenSpec.ofChange billsBoundsSpec)

/-- ITS FALSE NEIGHBOUR: 'it returns false'. Refute it at one input. -/
def billsBoundsWrong : ChangeSpec := { name := "billsBounds", fn := fun _ => fun
  | [d] => { results := [.lit (.bool false)], args := [d] }
  | _ => none }
def BillsBoundsWrongFalsely : Prop := billsBoundsRow.holds Tryz.pinned (OpenSpec.ofChange billsBoundsWrong)

/-- 'handshapelaw07.BillsPays': WHATEVER THE INPUT: true; the input reads as it did. -/
def billsPaysSpec : ChangeSpec := { name := "billsPays", fn := fun _ => fun
  | [d1, d2] => { results := [.lit (.bool true)], args := [d1, d2] }
  | _ => none }
def billsPaysRow : OpenClaim := { program := "ytacjhnpgiklpdaagreatdoor", sum := "c5fe864639c8aacab3437160d794fc1d83988df7f3032231f83e18ca38ee3932", func := "handshape/handshapelaw07.BillsPays", spec := "billsPays", unfollowed := true, recurses := true, named := ["handshape/rosters.some"], plainKeys := false, apart := false, laid := [("handshape/rosters.some", laid_handshape_rosters_some)] }
def BillsPaysSaid : Prop := billsPaysRow.holds Tryz.pinned (OpenSpec.ofChange billsPaysSpec)

/-- ITS FALSE NEIGHBOUR: 'it returns false'. Refute it at one input. -/
def billsPaysWrong : ChangeSpec := { name := "billsPays", fn := fun _ => fun
  | [d1, d2] => { results := [.lit (.bool false)], args := [d1, d2] }
  | _ => none }
def BillsPaysWrongFalsely : Prop := billsPaysRow.holds Tryz.pinned (OpenSpec.ofChange billsPaysWrong)

/- THE SECOND FORM. 'bulk': how many values and letters a reading holds, each counted each time it is reached (what is shared counts as often as it is met; a slice's spare places count too). A statement '..UptoSaid' is the law's where the arguments, and the package variables that the reading takes, are together of bulk at most 1048576: NARROWER than '..Said'. Prove '..Said' where nothing that the law and all that it calls make is longer than what came in: it says more and counts as full. Else prove '..UptoSaid'. A law counts once. -/
mutual
def uptoBulk {H : Type} : DataW H → Nat
  | .lit (.string bytes) => bytes.length + 1
  | .lit _ => 1
  | .nil => 1
  | .ptr d => uptoBulk d + 1
  | .slice elems spare => uptoBulkAll elems + uptoBulkAll spare + 1
  | .agg parts => uptoBulkAll parts + 1
  | .iface _ d => uptoBulk d + 1
  | .map entries => uptoBulkEntries entries + 1
  | .held _ => 1
def uptoBulkAll {H : Type} : List (DataW H) → Nat
  | [] => 0
  | d :: r => uptoBulk d + uptoBulkAll r
def uptoBulkEntries {H : Type} : List (Lit × DataW H) → Nat
  | [] => 0
  | x :: r => uptoBulkEntry x + uptoBulkEntries r
def uptoBulkEntry {H : Type} : Lit × DataW H → Nat
  | (.string bytes, d) => bytes.length + uptoBulk d + 1
  | (_, d) => uptoBulk d + 1
 end
def uptoSmall : (H : Type) → List (DataW H) → Bool := fun _ ds => decide (uptoBulkAll ds ≤ 1048576)
def OpenSpec.upto (s : _root_.Go.ChangeSpec) : _root_.Go.OpenSpec := { _root_.Go.OpenSpec.ofChange s with cond := some uptoSmall }

/-- 'handshapelaw07.BillsSaves', WHERE WHAT IT READS IS OF BULK AT MOST 1048576: true; the input reads as it did. -/
def billsSavesUptoRow : OpenClaim := { program := "ytacjhnpgiklpdaagreatdoor", sum := "c5fe864639c8aacab3437160d794fc1d83988df7f3032231f83e18ca38ee3932", func := "handshape/handshapelaw07.BillsSaves", spec := "billsSaves", unfollowed := true, recurses := true, named := ["handshape/rosters.some"], plainKeys := false, apart := false, laid := [("handshape/rosters.some", laid_handshape_rosters_some)], narrowed := true }
def BillsSavesUptoSaid : Prop := billsSavesUptoRow.holds Tryz.pinned (OpenSpec.upto billsSavesSpec)

/-- 'handshapelaw07.BillsFair', WHERE WHAT IT READS IS OF BULK AT MOST 1048576: true; the input reads as it did. -/
def billsFairUptoRow : OpenClaim := { program := "ytacjhnpgiklpdaagreatdoor", sum := "c5fe864639c8aacab3437160d794fc1d83988df7f3032231f83e18ca38ee3932", func := "handshape/handshapelaw07.BillsFair", spec := "billsFair", unfollowed := true, recurses := true, named := ["handshape/rosters.some"], plainKeys := false, apart := false, laid := [("handshape/rosters.some", laid_handshape_rosters_some)], narrowed := true }
def BillsFairUptoSaid : Prop := billsFairUptoRow.holds Tryz.pinned (OpenSpec.upto billsFairSpec)

/-- 'handshapelaw07.BillsLines', WHERE WHAT IT READS IS OF BULK AT MOST 1048576: true; the input reads as it did. -/
def billsLinesUptoRow : OpenClaim := { program := "ytacjhnpgiklpdaagreatdoor", sum := "c5fe864639c8aacab3437160d794fc1d83988df7f3032231f83e18ca38ee3932", func := "handshape/handshapelaw07.BillsLines", spec := "billsLines", unfollowed := true, recurses := true, named := ["handshape/rosters.some"], plainKeys := false, apart := false, laid := [("handshape/rosters.some", laid_handshape_rosters_some)], narrowed := true }
def BillsLinesUptoSaid : Prop := billsLinesUptoRow.holds Tryz.pinned (OpenSpec.upto billsLinesSpec)

/-- 'handshapelaw07.BillsBounds', WHERE WHAT IT READS IS OF BULK AT MOST 1048576: true; the input reads as it did. -/
def billsBoundsUptoRow : OpenClaim := { program := "ytacjhnpgiklpdaagreatdoor", sum := "c5fe864639c8aacab3437160d794fc1d83988df7f3032231f83e18ca38ee3932", func := "handshape/handshapelaw07.BillsBounds", spec := "billsBounds", unfollowed := true, recurses := true, named := ["handshape/rosters.some"], plainKeys := false, apart := false, laid := [("handshape/rosters.some", laid_handshape_rosters_some)], narrowed := true }
def BillsBoundsUptoSaid : Prop := billsBoundsUptoRow.holds Tryz.pinned (OpenSpec.upto billsBoundsSpec)

/-- 'handshapelaw07.BillsPays', WHERE WHAT IT READS IS OF BULK AT MOST 1048576: true; the input reads as it did. -/
def billsPaysUptoRow : OpenClaim := { program := "ytacjhnpgiklpdaagreatdoor", sum := "c5fe864639c8aacab3437160d794fc1d83988df7f3032231f83e18ca38ee3932", func := "handshape/handshapelaw07.BillsPays", spec := "billsPays", unfollowed := true, recurses := true, named := ["handshape/rosters.some"], plainKeys := false, apart := false, laid := [("handshape/rosters.some", laid_handshape_rosters_some)], narrowed := true }
def BillsPaysUptoSaid : Prop := billsPaysUptoRow.holds Tryz.pinned (OpenSpec.upto billsPaysSpec)

end Rows
end Go.Proofs.YtacjhnpgiklpdaaGreatDoor
