/-
  NARROWER THAN 'FOR EVERY INPUT', by the rows' own cells (each row's printed sentence says how): RostersPlans: laid · RostersTeams: laid · RostersFills: laid · RostersMerges: laid · RostersOrder: laid · RostersTies: laid.
  DERIVED. THE GIVEN ROWS OF THIS SEAT. 6 by the template 'for every input the law returns true; each argument reads behind the call as it read before'; 0 by the template 'total and deterministic' (their statements: YtnkahkkofmoipaaGreatDoorTotals.lean).
  GIVEN WITH THE SEED: the statements are not yours to turn. If you find one false, say at which input.
  Laid BY PROGRAM, IN A SANDBOX (cutbox-rows.mjs): the forced cells as the released guide's own fill.sh prints them over the translation cc12e2572935d70e… (all of the seat's roots in one cut). By AI agents, Wed Nov 11 2026. No macro, syntax, notation, axiom, sorry.
-/
import Derived.Test.YtnkahkkofmoipaaGreatDoorChecked
import GoSem.Claim
import GoSem.ClaimJoined
import GoSem.ClaimMapViews
import Derived.JoinedTies
import Derived.KernelRfl
namespace Go.Proofs.YtnkahkkofmoipaaGreatDoor
/- THE CELL 'sum', in the pinned program and in every row, IS THE sha256 OF THE DUMP (.gsa) THAT YtnkahkkofmoipaaGreatDoorProg.lean LOADS. Nothing in Lean hashes anything: it is a label: what it is worth is what the hold of that sum in a sandbox is worth. -/
noncomputable def Tryz.pinned : Pinned := { name := "ytnkahkkofmoipaagreatdoor", sum := "cc12e2572935d70e8ffedfdda4d4a73b6af95e40efa378fea12c791c1c4e114b", checked := Tryz.checked }
namespace Rows
def none {H : Type} : Left H := { results := [], args := [] }

/- WHAT THE LISTED PACKAGE-LEVEL VARIABLES READ AS WHEN THE CALL BEGINS. Each datum BY PROGRAM (the guide's laid-datum.mjs) off the statement by which the dump's own 'gosem.cut.vars' lays the variable. In a bare row this is a premise. The card (YtnkahkkofmoipaaGreatDoorCards.lean) ties it to the program's text. -/
def laid_handshape_rosters_some {H : Type} : DataW H := .agg [.lit (.int .i64 0), .lit (.int .i64 1), .lit (.int .i64 0), .lit (.int .i64 0), .lit (.int .i64 0), .lit (.int .i64 1)]

/-- 'handshapelaw05.RostersPlans': WHATEVER THE INPUT: true; the input reads as it did. -/
def rostersPlansSpec : ChangeSpec := { name := "rostersPlans", fn := fun _ => fun
  | [d] => { results := [.lit (.bool true)], args := [d] }
  | _ => none }
def rostersPlansRow : OpenClaim := { program := "ytnkahkkofmoipaagreatdoor", sum := "cc12e2572935d70e8ffedfdda4d4a73b6af95e40efa378fea12c791c1c4e114b", func := "handshape/handshapelaw05.RostersPlans", spec := "rostersPlans", unfollowed := true, recurses := true, named := ["handshape/rosters.some"], plainKeys := false, apart := false, laid := [("handshape/rosters.some", laid_handshape_rosters_some)] }
def RostersPlansSaid : Prop := rostersPlansRow.holds Tryz.pinned (OpenSpec.ofChange rostersPlansSpec)

/-- ITS FALSE NEIGHBOUR: 'it returns false'. Refute it at one input. -/
def rostersPlansWrong : ChangeSpec := { name := "rostersPlans", fn := fun _ => fun
  | [d] => { results := [.lit (.bool false)], args := [d] }
  | _ => none }
def RostersPlansWrongFalsely : Prop := rostersPlansRow.holds Tryz.pinned (OpenSpec.ofChange rostersPlansWrong)

/-- 'handshapelaw05.RostersTeams': WHATEVER THE INPUT: true; the input reads as it did. -/
def rostersTeamsSpec : ChangeSpec := { name := "rostersTeams", fn := fun _ => fun
  | [d] => { results := [.lit (.bool true)], args := [d] }
  | _ => none }
def rostersTeamsRow : OpenClaim := { program := "ytnkahkkofmoipaagreatdoor", sum := "cc12e2572935d70e8ffedfdda4d4a73b6af95e40efa378fea12c791c1c4e114b", func := "handshape/handshapelaw05.RostersTeams", spec := "rostersTeams", unfollowed := true, recurses := true, named := ["handshape/rosters.some"], plainKeys := false, apart := false, laid := [("handshape/rosters.some", laid_handshape_rosters_some)] }
def RostersTeamsSaid : Prop := rostersTeamsRow.holds Tryz.pinned (OpenSpec.ofChange rostersTeamsSpec)

/-- ITS FALSE NEIGHBOUR: 'it returns false'. Refute it at one input. -/
def rostersTeamsWrong : ChangeSpec := { name := "rostersTeams", fn := fun _ => fun
  | [d] => { results := [.lit (.bool false)], args := [d] }
  | _ => none }
def RostersTeamsWrongFalsely : Prop := rostersTeamsRow.holds Tryz.pinned (OpenSpec.ofChange rostersTeamsWrong)

/-- 'handshapelaw05.RostersFills': WHATEVER THE INPUT: true; the input reads as it did. -/
def rostersFillsSpec : ChangeSpec := { name := "rostersFills", fn := fun _ => fun
  | [d1, d2] => { results := [.lit (.bool true)], args := [d1, d2] }
  | _ => none }
def rostersFillsRow : OpenClaim := { program := "ytnkahkkofmoipaagreatdoor", sum := "cc12e2572935d70e8ffedfdda4d4a73b6af95e40efa378fea12c791c1c4e114b", func := "handshape/handshapelaw05.RostersFills", spec := "rostersFills", unfollowed := true, recurses := true, named := ["handshape/rosters.some"], plainKeys := false, apart := false, laid := [("handshape/rosters.some", laid_handshape_rosters_some)] }
def RostersFillsSaid : Prop := rostersFillsRow.holds Tryz.pinned (OpenSpec.ofChange rostersFillsSpec)

/-- ITS FALSE NEIGHBOUR: 'it returns false'. Refute it at one input. -/
def rostersFillsWrong : ChangeSpec := { name := "rostersFills", fn := fun _ => fun
  | [d1, d2] => { results := [.lit (.bool false)], args := [d1, d2] }
  | _ => none }
def RostersFillsWrongFalsely : Prop := rostersFillsRow.holds Tryz.pinned (OpenSpec.ofChange rostersFillsWrong)

/-- 'handshapelaw05.RostersMerges': WHATEVER THE INPUT: true; the input reads as it did. -/
def rostersMergesSpec : ChangeSpec := { name := "rostersMerges", fn := fun _ => fun
  | [d1, d2] => { results := [.lit (.bool true)], args := [d1, d2] }
  | _ => none }
def rostersMergesRow : OpenClaim := { program := "ytnkahkkofmoipaagreatdoor", sum := "cc12e2572935d70e8ffedfdda4d4a73b6af95e40efa378fea12c791c1c4e114b", func := "handshape/handshapelaw05.RostersMerges", spec := "rostersMerges", unfollowed := true, recurses := true, named := ["handshape/rosters.some"], plainKeys := false, apart := false, laid := [("handshape/rosters.some", laid_handshape_rosters_some)] }
def RostersMergesSaid : Prop := rostersMergesRow.holds Tryz.pinned (OpenSpec.ofChange rostersMergesSpec)

/-- ITS FALSE NEIGHBOUR: 'it returns false'. Refute it at one input. -/
def rostersMergesWrong : ChangeSpec := { name := "rostersMerges", fn := fun _ => fun
  | [d1, d2] => { results := [.lit (.bool false)], args := [d1, d2] }
  | _ => none }
def RostersMergesWrongFalsely : Prop := rostersMergesRow.holds Tryz.pinned (OpenSpec.ofChange rostersMergesWrong)

/-- 'handshapelaw05.RostersOrder': WHATEVER THE INPUT: true; the input reads as it did. -/
def rostersOrderSpec : ChangeSpec := { name := "rostersOrder", fn := fun _ => fun
  | [d1, d2, d3] => { results := [.lit (.bool true)], args := [d1, d2, d3] }
  | _ => none }
def rostersOrderRow : OpenClaim := { program := "ytnkahkkofmoipaagreatdoor", sum := "cc12e2572935d70e8ffedfdda4d4a73b6af95e40efa378fea12c791c1c4e114b", func := "handshape/handshapelaw05.RostersOrder", spec := "rostersOrder", unfollowed := true, recurses := true, named := ["handshape/rosters.some"], plainKeys := false, apart := false, laid := [("handshape/rosters.some", laid_handshape_rosters_some)] }
def RostersOrderSaid : Prop := rostersOrderRow.holds Tryz.pinned (OpenSpec.ofChange rostersOrderSpec)

/-- ITS FALSE NEIGHBOUR: 'it returns false'. Refute it at one input. -/
def rostersOrderWrong : ChangeSpec := { name := "rostersOrder", fn := fun _ => fun
  | [d1, d2, d3] => { results := [.lit (.bool false)], args := [d1, d2, d3] }
  | _ => none }
def RostersOrderWrongFalsely : Prop := rostersOrderRow.holds Tryz.pinned (OpenSpec.ofChange rostersOrderWrong)

/-- 'handshapelaw05.RostersTies': WHATEVER THE INPUT: true; the input reads as it did. -/
def rostersTiesSpec : ChangeSpec := { name := "rostersTies", fn := fun _ => fun
  | [d1, d2] => { results := [.lit (.bool true)], args := [d1, d2] }
  | _ => none }
def rostersTiesRow : OpenClaim := { program := "ytnkahkkofmoipaagreatdoor", sum := "cc12e2572935d70e8ffedfdda4d4a73b6af95e40efa378fea12c791c1c4e114b", func := "handshape/handshapelaw05.RostersTies", spec := "rostersTies", unfollowed := true, recurses := true, named := ["handshape/rosters.some"], plainKeys := false, apart := false, laid := [("handshape/rosters.some", laid_handshape_rosters_some)] }
def RostersTiesSaid : Prop := rostersTiesRow.holds Tryz.pinned (OpenSpec.ofChange rostersTiesSpec)

/-- ITS FALSE NEIGHBOUR: 'it returns false'. Refute it at one input. -/
def rostersTiesWrong : ChangeSpec := { name := "rostersTies", fn := fun _ => fun
  | [d1, d2] => { results := [.lit (.bool false)], args := [d1, d2] }
  | _ => none }
def RostersTiesWrongFalsely : Prop := rostersTiesRow.holds Tryz.pinned (OpenSpec.ofChange rostersTiesWrong)

/- THE SECOND FORM. 'bulk': how many values and letters a reading holds, each counted each time it is reached (what is shared counts as often as it is met; a slice's spare places count too). A statement '..UptoSaid' is the law's where the arguments, and the package variables that the reading takes, are together of bulk at most 1048576: NARROWER than '..Said'. Prove '..Said' where nothing that the law and all that it calls make is longer than what came in: it says more and counts as full. Else prove '..UptoSaid'. A law counts once. -/
mutual
def uptoBulk {H : Type} : DataW H → Nat
  | .lit (.string bytes) => bytes.length + 1
  | .lit _ => 1
  | .nil => 1
  | .ptr d => uptoBulk d + 1
  | .slice elems spare => uptoBulkAll elems + uptoBulkAll spare + 1
  | .agg parts => uptoBulkAll parts + 1
  | .iface _ d => uptoBulk d + 1
  | .map entries => uptoBulkEntries entries + 1
  | .held _ => 1
def uptoBulkAll {H : Type} : List (DataW H) → Nat
  | [] => 0
  | d :: r => uptoBulk d + uptoBulkAll r
def uptoBulkEntries {H : Type} : List (Lit × DataW H) → Nat
  | [] => 0
  | x :: r => uptoBulkEntry x + uptoBulkEntries r
def uptoBulkEntry {H : Type} : Lit × DataW H → Nat
  | (.string bytes, d) => bytes.length + uptoBulk d + 1
  | (_, d) => uptoBulk d + 1
 end
def uptoSmall : (H : Type) → List (DataW H) → Bool := fun _ ds => decide (uptoBulkAll ds ≤ 1048576)
def OpenSpec.upto (s : _root_.Go.ChangeSpec) : _root_.Go.OpenSpec := { _root_.Go.OpenSpec.ofChange s with cond := some uptoSmall }

/-- 'handshapelaw05.RostersPlans', WHERE WHAT IT READS IS OF BULK AT MOST 1048576: true; the input reads as it did. -/
def rostersPlansUptoRow : OpenClaim := { program := "ytnkahkkofmoipaagreatdoor", sum := "cc12e2572935d70e8ffedfdda4d4a73b6af95e40efa378fea12c791c1c4e114b", func := "handshape/handshapelaw05.RostersPlans", spec := "rostersPlans", unfollowed := true, recurses := true, named := ["handshape/rosters.some"], plainKeys := false, apart := false, laid := [("handshape/rosters.some", laid_handshape_rosters_some)], narrowed := true }
def RostersPlansUptoSaid : Prop := rostersPlansUptoRow.holds Tryz.pinned (OpenSpec.upto rostersPlansSpec)

/-- 'handshapelaw05.RostersTeams', WHERE WHAT IT READS IS OF BULK AT MOST 1048576: true; the input reads as it did. -/
def rostersTeamsUptoRow : OpenClaim := { program := "ytnkahkkofmoipaagreatdoor", sum := "cc12e2572935d70e8ffedfdda4d4a73b6af95e40efa378fea12c791c1c4e114b", func := "handshape/handshapelaw05.RostersTeams", spec := "rostersTeams", unfollowed := true, recurses := true, named := ["handshape/rosters.some"], plainKeys := false, apart := false, laid := [("handshape/rosters.some", laid_handshape_rosters_some)], narrowed := true }
def RostersTeamsUptoSaid : Prop := rostersTeamsUptoRow.holds Tryz.pinned (OpenSpec.upto rostersTeamsSpec)

/-- 'handshapelaw05.RostersFills', WHERE WHAT IT READS IS OF BULK AT MOST 1048576: true; the input reads as it did. -/
def rostersFillsUptoRow : OpenClaim := { program := "ytnkahkkofmoipaagreatdoor", sum := "cc12e2572935d70e8ffedfdda4d4a73b6af95e40efa378fea12c791c1c4e114b", func := "handshape/handshapelaw05.RostersFills", spec := "rostersFills", unfollowed := true, recurses := true, named := ["handshape/rosters.some"], plainKeys := false, apart := false, laid := [("handshape/rosters.some", laid_handshape_rosters_some)], narrowed := true }
def RostersFillsUptoSaid : Prop := rostersFillsUptoRow.holds Tryz.pinned (OpenSpec.upto rostersFillsSpec)

/-- 'handshapelaw05.RostersMerges', WHERE WHAT IT READS IS OF BULK AT MOST 1048576: true; the input reads as it did. -/
def rostersMergesUptoRow : OpenClaim := { program := "ytnkahkkofmoipaagreatdoor", sum := "cc12e2572935d70e8ffedfdda4d4a73b6af95e40efa378fea12c791c1c4e114b", func := "handshape/handshapelaw05.RostersMerges", spec := "rostersMerges", unfollowed := true, recurses := true, named := ["handshape/rosters.some"], plainKeys := false, apart := false, laid := [("handshape/rosters.some", laid_handshape_rosters_some)], narrowed := true }
def RostersMergesUptoSaid : Prop := rostersMergesUptoRow.holds Tryz.pinned (OpenSpec.upto rostersMergesSpec)

/-- 'handshapelaw05.RostersOrder', WHERE WHAT IT READS IS OF BULK AT MOST 1048576: true; the input reads as it did. -/
def rostersOrderUptoRow : OpenClaim := { program := "ytnkahkkofmoipaagreatdoor", sum := "cc12e2572935d70e8ffedfdda4d4a73b6af95e40efa378fea12c791c1c4e114b", func := "handshape/handshapelaw05.RostersOrder", spec := "rostersOrder", unfollowed := true, recurses := true, named := ["handshape/rosters.some"], plainKeys := false, apart := false, laid := [("handshape/rosters.some", laid_handshape_rosters_some)], narrowed := true }
def RostersOrderUptoSaid : Prop := rostersOrderUptoRow.holds Tryz.pinned (OpenSpec.upto rostersOrderSpec)

/-- 'handshapelaw05.RostersTies', WHERE WHAT IT READS IS OF BULK AT MOST 1048576: true; the input reads as it did. -/
def rostersTiesUptoRow : OpenClaim := { program := "ytnkahkkofmoipaagreatdoor", sum := "cc12e2572935d70e8ffedfdda4d4a73b6af95e40efa378fea12c791c1c4e114b", func := "handshape/handshapelaw05.RostersTies", spec := "rostersTies", unfollowed := true, recurses := true, named := ["handshape/rosters.some"], plainKeys := false, apart := false, laid := [("handshape/rosters.some", laid_handshape_rosters_some)], narrowed := true }
def RostersTiesUptoSaid : Prop := rostersTiesUptoRow.holds Tryz.pinned (OpenSpec.upto rostersTiesSpec)

end Rows
end Go.Proofs.YtnkahkkofmoipaaGreatDoor
