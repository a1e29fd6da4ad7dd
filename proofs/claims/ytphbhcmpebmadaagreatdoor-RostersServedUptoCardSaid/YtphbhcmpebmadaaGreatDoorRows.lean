/-
  NARROWER THAN 'FOR EVERY INPUT', by the rows' own cells (each row's printed sentence says how): RostersRested: laid · RostersPlanned: laid · RostersServed: laid · RostersLast: laid.
  DERIVED. THE GIVEN ROWS OF THIS SEAT. 4 by the template 'for every input the law returns true; each argument reads behind the call as it read before'; 0 by the template 'total and deterministic' (their statements: YtphbhcmpebmadaaGreatDoorTotals.lean).
  GIVEN WITH THE SEED: the statements are not yours to turn. If you find one false, say at which input.
  Laid BY PROGRAM, IN A SANDBOX (cutbox-rows.mjs): the forced cells as the released guide's own fill.sh prints them over the translation edfa0734fbc5fd52… (all of the seat's roots in one cut). By AI agents, Wed Nov 11 2026. No macro, syntax, notation, axiom, sorry.
-/
import Derived.Test.YtphbhcmpebmadaaGreatDoorChecked
import GoSem.Claim
import GoSem.ClaimJoined
import GoSem.ClaimMapViews
import Derived.JoinedTies
import Derived.KernelRfl
namespace Go.Proofs.YtphbhcmpebmadaaGreatDoor
/- THE CELL 'sum', in the pinned program and in every row, IS THE sha256 OF THE DUMP (.gsa) THAT YtphbhcmpebmadaaGreatDoorProg.lean LOADS. Nothing in Lean hashes anything: it is a label: what it is worth is what the hold of that sum in a sandbox is worth. -/
noncomputable def Tryz.pinned : Pinned := { name := "ytphbhcmpebmadaagreatdoor", sum := "edfa0734fbc5fd528709a9f84c71b3fa14c5f96bae426a828305ca16882c1bcb", checked := Tryz.checked }
namespace Rows
def none {H : Type} : Left H := { results := [], args := [] }

/- WHAT THE LISTED PACKAGE-LEVEL VARIABLES READ AS WHEN THE CALL BEGINS. Each datum BY PROGRAM (the guide's laid-datum.mjs) off the statement by which the dump's own 'gosem.cut.vars' lays the variable. In a bare row this is a premise. The card (YtphbhcmpebmadaaGreatDoorCards.lean) ties it to the program's text. -/
def laid_handshape_rosters_some {H : Type} : DataW H := .agg [.lit (.int .i64 0), .lit (.int .i64 1), .lit (.int .i64 0), .lit (.int .i64 0), .lit (.int .i64 0), .lit (.int .i64 1)]

/-- 'handshapelaw05.RostersRested': WHATEVER THE INPUT: true; the input reads as it did. -/
def rostersRestedSpec : ChangeSpec := { name := "rostersRested", fn := fun _ => fun
  | [d1, d2] => { results := [.lit (.bool true)], args := [d1, d2] }
  | _ => none }
def rostersRestedRow : OpenClaim := { program := "ytphbhcmpebmadaagreatdoor", sum := "edfa0734fbc5fd528709a9f84c71b3fa14c5f96bae426a828305ca16882c1bcb", func := "handshape/handshapelaw05.RostersRested", spec := "rostersRested", unfollowed := true, recurses := true, named := ["handshape/rosters.some"], plainKeys := false, apart := false, laid := [("handshape/rosters.some", laid_handshape_rosters_some)] }
def RostersRestedSaid : Prop := rostersRestedRow.holds Tryz.pinned (OpenSpec.ofChange rostersRestedSpec)

/-- ITS FALSE NEIGHBOUR: 'it returns false'. Refute it at one input. -/
def rostersRestedWrong : ChangeSpec := { name := "rostersRested", fn := fun _ => fun
  | [d1, d2] => { results := [.lit (.bool false)], args := [d1, d2] }
  | _ => none }
def RostersRestedWrongFalsely : Prop := rostersRestedRow.holds Tryz.pinned (OpenSpec.ofChange rostersRestedWrong)

/-- 'handshapelaw05.RostersPlanned': WHATEVER THE INPUT: true; the input reads as it did. -/
def rostersPlannedSpec : ChangeSpec := { name := "rostersPlanned", fn := fun _ => fun
  | [d1, d2, d3] => { results := [.lit (.bool true)], args := [d1, d2, d3] }
  | _ => none }
def rostersPlannedRow : OpenClaim := { program := "ytphbhcmpebmadaagreatdoor", sum := "edfa0734fbc5fd528709a9f84c71b3fa14c5f96bae426a828305ca16882c1bcb", func := "handshape/handshapelaw05.RostersPlanned", spec := "rostersPlanned", unfollowed := true, recurses := true, named := ["handshape/rosters.some"], plainKeys := false, apart := false, laid := [("handshape/rosters.some", laid_handshape_rosters_some)] }
def RostersPlannedSaid : Prop := rostersPlannedRow.holds Tryz.pinned (OpenSpec.ofChange rostersPlannedSpec)

/-- ITS FALSE NEIGHBOUR: 'it returns false'. Refute it at one input. -/
def rostersPlannedWrong : ChangeSpec := { name := "rostersPlanned", fn := fun _ => fun
  | [d1, d2, d3] => { results := [.lit (.bool false)], args := [d1, d2, d3] }
  | _ => none }
def RostersPlannedWrongFalsely : Prop := rostersPlannedRow.holds Tryz.pinned (OpenSpec.ofChange rostersPlannedWrong)

/-- 'handshapelaw05.RostersServed': WHATEVER THE INPUT: true; the input reads as it did. -/
def rostersServedSpec : ChangeSpec := { name := "rostersServed", fn := fun _ => fun
  | [d1, d2, d3] => { results := [.lit (.bool true)], args := [d1, d2, d3] }
  | _ => none }
def rostersServedRow : OpenClaim := { program := "ytphbhcmpebmadaagreatdoor", sum := "edfa0734fbc5fd528709a9f84c71b3fa14c5f96bae426a828305ca16882c1bcb", func := "handshape/handshapelaw05.RostersServed", spec := "rostersServed", unfollowed := true, recurses := true, named := ["handshape/rosters.some"], plainKeys := false, apart := false, laid := [("handshape/rosters.some", laid_handshape_rosters_some)] }
def RostersServedSaid : Prop := rostersServedRow.holds Tryz.pinned (OpenSpec.ofChange rostersServedSpec)

/-- ITS FALSE NEIGHBOUR: 'it returns false'. Refute it at one input. -/
def rostersServedWrong : ChangeSpec := { name := "rostersServed", fn := fun _ => fun
  | [d1, d2, d3] => { results := [.lit (.bool false)], args := [d1, d2, d3] }
  | _ => none }
def RostersServedWrongFalsely : Prop := rostersServedRow.holds Tryz.pinned (OpenSpec.ofChange rostersServedWrong)

/-- 'handshapelaw05.RostersLast': WHATEVER THE INPUT: true; the input reads as it did. -/
def rostersLastSpec : ChangeSpec := { name := "rostersLast", fn := fun _ => fun
  | [d1, d2] => { results := [.lit (.bool true)], args := [d1, d2] }
  | _ => none }
def rostersLastRow : OpenClaim := { program := "ytphbhcmpebmadaagreatdoor", sum := "edfa0734fbc5fd528709a9f84c71b3fa14c5f96bae426a828305ca16882c1bcb", func := "handshape/handshapelaw05.RostersLast", spec := "rostersLast", unfollowed := true, recurses := true, named := ["handshape/rosters.some"], plainKeys := false, apart := false, laid := [("handshape/rosters.some", laid_handshape_rosters_some)] }
def RostersLastSaid : Prop := rostersLastRow.holds Tryz.pinned (OpenSpec.ofChange rostersLastSpec)

/-- ITS FALSE NEIGHBOUR: 'it returns false'. Refute it at one input. -/
def rostersLastWrong : ChangeSpec := { name := "rostersLast", fn := fun _ => fun
  | [d1, d2] => { results := [.lit (.bool false)], args := [d1, d2] }
  | _ => none }
def RostersLastWrongFalsely : Prop := rostersLastRow.holds Tryz.pinned (OpenSpec.ofChange rostersLastWrong)

/- THE SECOND FORM. 'bulk': how many values and letters a reading holds, each counted each time it is reached (what is shared counts as often as it is met; a slice's spare places count too). A statement '..UptoSaid' is the law's where the arguments, and the package variables that the reading takes, are together of bulk at most 1048576: NARROWER than '..Said'. Prove '..Said' where nothing that the law and all that it calls make is longer than what came in: it says more and counts as full. Else prove '..UptoSaid'. A law counts once. -/
mutual
def uptoBulk {H : Type} : DataW H → Nat
  | .lit (.string bytes) => bytes.length + 1
  | .lit _ => 1
  | .nil => 1
  | .ptr d => uptoBulk d + 1
  | .slice elems spare => uptoBulkAll elems + uptoBulkAll spare + 1
  | .agg parts => uptoBulkAll parts + 1
  | .iface _ d => uptoBulk d + 1
  | .map entries => uptoBulkEntries entries + 1
  | .held _ => 1
def uptoBulkAll {H : Type} : List (DataW H) → Nat
  | [] => 0
  | d :: r => uptoBulk d + uptoBulkAll r
def uptoBulkEntries {H : Type} : List (Lit × DataW H) → Nat
  | [] => 0
  | x :: r => uptoBulkEntry x + uptoBulkEntries r
def uptoBulkEntry {H : Type} : Lit × DataW H → Nat
  | (.string bytes, d) => bytes.length + uptoBulk d + 1
  | (_, d) => uptoBulk d + 1
 end
def uptoSmall : (H : Type) → List (DataW H) → Bool := fun _ ds => decide (uptoBulkAll ds ≤ 1048576)
def OpenSpec.upto (s : _root_.Go.ChangeSpec) : _root_.Go.OpenSpec := { _root_.Go.OpenSpec.ofChange s with cond := some uptoSmall }

/-- 'handshapelaw05.RostersRested', WHERE WHAT IT READS IS OF BULK AT MOST 1048576: true; the input reads as it did. -/
def rostersRestedUptoRow : OpenClaim := { program := "ytphbhcmpebmadaagreatdoor", sum := "edfa0734fbc5fd528709a9f84c71b3fa14c5f96bae426a828305ca16882c1bcb", func := "handshape/handshapelaw05.RostersRested", spec := "rostersRested", unfollowed := true, recurses := true, named := ["handshape/rosters.some"], plainKeys := false, apart := false, laid := [("handshape/rosters.some", laid_handshape_rosters_some)], narrowed := true }
def RostersRestedUptoSaid : Prop := rostersRestedUptoRow.holds Tryz.pinned (OpenSpec.upto rostersRestedSpec)

/-- 'handshapelaw05.RostersPlanned', WHERE WHAT IT READS IS OF BULK AT MOST 1048576: true; the input reads as it did. -/
def rostersPlannedUptoRow : OpenClaim := { program := "ytphbhcmpebmadaagreatdoor", sum := "edfa0734fbc5fd528709a9f84c71b3fa14c5f96bae426a828305ca16882c1bcb", func := "handshape/handshapelaw05.RostersPlanned", spec := "rostersPlanned", unfollowed := true, recurses := true, named := ["handshape/rosters.some"], plainKeys := false, apart := false, laid := [("handshape/rosters.some", laid_handshape_rosters_some)], narrowed := true }
def RostersPlannedUptoSaid : Prop := rostersPlannedUptoRow.holds Tryz.pinned (OpenSpec.upto rostersPlannedSpec)

/-- 'handshapelaw05.RostersServed', WHERE WHAT IT READS IS OF BULK AT MOST 1048576: true; the input reads as it did. -/
def rostersServedUptoRow : OpenClaim := { program := "ytphbhcmpebmadaagreatdoor", sum := "edfa0734fbc5fd528709a9f84c71b3fa14c5f96bae426a828305ca16882c1bcb", func := "handshape/handshapelaw05.RostersServed", spec := "rostersServed", unfollowed := true, recurses := true, named := ["handshape/rosters.some"], plainKeys := false, apart := false, laid := [("handshape/rosters.some", laid_handshape_rosters_some)], narrowed := true }
def RostersServedUptoSaid : Prop := rostersServedUptoRow.holds Tryz.pinned (OpenSpec.upto rostersServedSpec)

/-- 'handshapelaw05.RostersLast', WHERE WHAT IT READS IS OF BULK AT MOST 1048576: true; the input reads as it did. -/
def rostersLastUptoRow : OpenClaim := { program := "ytphbhcmpebmadaagreatdoor", sum := "edfa0734fbc5fd528709a9f84c71b3fa14c5f96bae426a828305ca16882c1bcb", func := "handshape/handshapelaw05.RostersLast", spec := "rostersLast", unfollowed := true, recurses := true, named := ["handshape/rosters.some"], plainKeys := false, apart := false, laid := [("handshape/rosters.some", laid_handshape_rosters_some)], narrowed := true }
def RostersLastUptoSaid : Prop := rostersLastUptoRow.holds Tryz.pinned (OpenSpec.upto rostersLastSpec)

end Rows
end Go.Proofs.YtphbhcmpebmadaaGreatDoor
