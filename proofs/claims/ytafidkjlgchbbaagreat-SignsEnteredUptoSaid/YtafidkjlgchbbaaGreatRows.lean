/-
  No cell of these rows narrows 'for every input' (looked for: loops, veiled, ifaces, maps, wideKeys, modest, calm, conditions, laid).
  DERIVED. THE GIVEN ROWS OF THIS SEAT. 11 by the template 'for every input the law returns true; each argument reads behind the call as it read before'; 0 by the template 'total and deterministic' (their statements: YtafidkjlgchbbaaGreatTotals.lean).
  GIVEN WITH THE SEED: the statements are not yours to turn. If you find one false, say at which input.
  Laid BY PROGRAM, IN A SANDBOX (cutbox-rows.mjs): the forced cells as the released guide's own fill.sh prints them over the translation 5bef585da7ad2844… (all of the seat's roots in one cut). By AI agents, Wed Nov 11 2026. No macro, syntax, notation, axiom, sorry.
-/
import Derived.Test.YtafidkjlgchbbaaGreatChecked
import GoSem.Claim
import GoSem.ClaimJoined
import GoSem.ClaimMapViews
import Derived.JoinedTies
import Derived.KernelRfl
namespace Go.Proofs.YtafidkjlgchbbaaGreat
/- THE CELL 'sum', in the pinned program and in every row, IS THE sha256 OF THE DUMP (.gsa) THAT YtafidkjlgchbbaaGreatProg.lean LOADS. Nothing in Lean hashes anything: it is a label: what it is worth is what the hold of that sum in a sandbox is worth. -/
noncomputable def Tryz.pinned : Pinned := { name := "ytafidkjlgchbbaagreat", sum := "5bef585da7ad2844c596b66238e0688368af8f9f15b0f85ff0c36cee78f2db92", checked := Tryz.checked }
namespace Rows
def none {H : Type} : Left H := { results := [], args := [] }

/-- 'handshapelaw01.SignsFinds': WHATEVER THE INPUT: true; the input reads as it did. -/
def signsFindsSpec : ChangeSpec := { name := "signsFinds", fn := fun _ => fun
  | [d1, d2] => { results := [.lit (.bool true)], args := [d1, d2] }
  | _ => none }
def signsFindsRow : OpenClaim := { program := "ytafidkjlgchbbaagreat", sum := "5bef585da7ad2844c596b66238e0688368af8f9f15b0f85ff0c36cee78f2db92", func := "handshape/handshapelaw01.SignsFinds", spec := "signsFinds", unfollowed := true, recurses := true, apart := false }
def SignsFindsSaid : Prop := signsFindsRow.holds Tryz.pinned (OpenSpec.ofChange signsFindsSpec)

/-- ITS FALSE NEIGHBOUR: 'it returns false'. Refute it at one input. -/
def signsFindsWrong : ChangeSpec := { name := "signsFinds", fn := fun _ => fun
  | [d1, d2] => { results := [.lit (.bool false)], args := [d1, d2] }
  | _ => none }
def SignsFindsWrongFalsely : Prop := signsFindsRow.holds Tryz.pinned (OpenSpec.ofChange signsFindsWrong)

/-- 'handshapelaw01.SignsAll': WHATEVER THE INPUT: true; the input reads as it did. -/
def signsAllSpec : ChangeSpec := { name := "signsAll", fn := fun _ => fun
  | [d1, d2] => { results := [.lit (.bool true)], args := [d1, d2] }
  | _ => none }
def signsAllRow : OpenClaim := { program := "ytafidkjlgchbbaagreat", sum := "5bef585da7ad2844c596b66238e0688368af8f9f15b0f85ff0c36cee78f2db92", func := "handshape/handshapelaw01.SignsAll", spec := "signsAll", unfollowed := true, recurses := true, apart := false }
def SignsAllSaid : Prop := signsAllRow.holds Tryz.pinned (OpenSpec.ofChange signsAllSpec)

/-- ITS FALSE NEIGHBOUR: 'it returns false'. Refute it at one input. -/
def signsAllWrong : ChangeSpec := { name := "signsAll", fn := fun _ => fun
  | [d1, d2] => { results := [.lit (.bool false)], args := [d1, d2] }
  | _ => none }
def SignsAllWrongFalsely : Prop := signsAllRow.holds Tryz.pinned (OpenSpec.ofChange signsAllWrong)

/-- 'handshapelaw01.SignsWider': WHATEVER THE INPUT: true; the input reads as it did. -/
def signsWiderSpec : ChangeSpec := { name := "signsWider", fn := fun _ => fun
  | [d1, d2, d3] => { results := [.lit (.bool true)], args := [d1, d2, d3] }
  | _ => none }
def signsWiderRow : OpenClaim := { program := "ytafidkjlgchbbaagreat", sum := "5bef585da7ad2844c596b66238e0688368af8f9f15b0f85ff0c36cee78f2db92", func := "handshape/handshapelaw01.SignsWider", spec := "signsWider", unfollowed := true, recurses := true, apart := false }
def SignsWiderSaid : Prop := signsWiderRow.holds Tryz.pinned (OpenSpec.ofChange signsWiderSpec)

/-- ITS FALSE NEIGHBOUR: 'it returns false'. Refute it at one input. -/
def signsWiderWrong : ChangeSpec := { name := "signsWider", fn := fun _ => fun
  | [d1, d2, d3] => { results := [.lit (.bool false)], args := [d1, d2, d3] }
  | _ => none }
def SignsWiderWrongFalsely : Prop := signsWiderRow.holds Tryz.pinned (OpenSpec.ofChange signsWiderWrong)

/-- 'handshapelaw01.SignsMade': WHATEVER THE INPUT: true; the input reads as it did. -/
def signsMadeSpec : ChangeSpec := { name := "signsMade", fn := fun _ => fun
  | [d1, d2, d3] => { results := [.lit (.bool true)], args := [d1, d2, d3] }
  | _ => none }
def signsMadeRow : OpenClaim := { program := "ytafidkjlgchbbaagreat", sum := "5bef585da7ad2844c596b66238e0688368af8f9f15b0f85ff0c36cee78f2db92", func := "handshape/handshapelaw01.SignsMade", spec := "signsMade", unfollowed := true, recurses := true, apart := false }
def SignsMadeSaid : Prop := signsMadeRow.holds Tryz.pinned (OpenSpec.ofChange signsMadeSpec)

/-- ITS FALSE NEIGHBOUR: 'it returns false'. Refute it at one input. -/
def signsMadeWrong : ChangeSpec := { name := "signsMade", fn := fun _ => fun
  | [d1, d2, d3] => { results := [.lit (.bool false)], args := [d1, d2, d3] }
  | _ => none }
def SignsMadeWrongFalsely : Prop := signsMadeRow.holds Tryz.pinned (OpenSpec.ofChange signsMadeWrong)

/-- 'handshapelaw01.SignsQuestion': WHATEVER THE INPUT: true; the input reads as it did. -/
def signsQuestionSpec : ChangeSpec := { name := "signsQuestion", fn := fun _ => fun
  | [d1, d2] => { results := [.lit (.bool true)], args := [d1, d2] }
  | _ => none }
def signsQuestionRow : OpenClaim := { program := "ytafidkjlgchbbaagreat", sum := "5bef585da7ad2844c596b66238e0688368af8f9f15b0f85ff0c36cee78f2db92", func := "handshape/handshapelaw01.SignsQuestion", spec := "signsQuestion", unfollowed := true, recurses := true, apart := false }
def SignsQuestionSaid : Prop := signsQuestionRow.holds Tryz.pinned (OpenSpec.ofChange signsQuestionSpec)

/-- ITS FALSE NEIGHBOUR: 'it returns false'. Refute it at one input. -/
def signsQuestionWrong : ChangeSpec := { name := "signsQuestion", fn := fun _ => fun
  | [d1, d2] => { results := [.lit (.bool false)], args := [d1, d2] }
  | _ => none }
def SignsQuestionWrongFalsely : Prop := signsQuestionRow.holds Tryz.pinned (OpenSpec.ofChange signsQuestionWrong)

/-- 'handshapelaw01.SignsBooks': WHATEVER THE INPUT: true; the input reads as it did. -/
def signsBooksSpec : ChangeSpec := { name := "signsBooks", fn := fun _ => fun
  | [d] => { results := [.lit (.bool true)], args := [d] }
  | _ => none }
def signsBooksRow : OpenClaim := { program := "ytafidkjlgchbbaagreat", sum := "5bef585da7ad2844c596b66238e0688368af8f9f15b0f85ff0c36cee78f2db92", func := "handshape/handshapelaw01.SignsBooks", spec := "signsBooks", unfollowed := true, recurses := true, apart := false }
def SignsBooksSaid : Prop := signsBooksRow.holds Tryz.pinned (OpenSpec.ofChange signsBooksSpec)

/-- ITS FALSE NEIGHBOUR: 'it returns false'. Refute it at one input. -/
def signsBooksWrong : ChangeSpec := { name := "signsBooks", fn := fun _ => fun
  | [d] => { results := [.lit (.bool false)], args := [d] }
  | _ => none }
def SignsBooksWrongFalsely : Prop := signsBooksRow.holds Tryz.pinned (OpenSpec.ofChange signsBooksWrong)

/-- 'handshapelaw01.SignsTwins': WHATEVER THE INPUT: true; the input reads as it did. -/
def signsTwinsSpec : ChangeSpec := { name := "signsTwins", fn := fun _ => fun
  | [d1, d2] => { results := [.lit (.bool true)], args := [d1, d2] }
  | _ => none }
def signsTwinsRow : OpenClaim := { program := "ytafidkjlgchbbaagreat", sum := "5bef585da7ad2844c596b66238e0688368af8f9f15b0f85ff0c36cee78f2db92", func := "handshape/handshapelaw01.SignsTwins", spec := "signsTwins", unfollowed := true, recurses := true, apart := false }
def SignsTwinsSaid : Prop := signsTwinsRow.holds Tryz.pinned (OpenSpec.ofChange signsTwinsSpec)

/-- ITS FALSE NEIGHBOUR: 'it returns false'. Refute it at one input. -/
def signsTwinsWrong : ChangeSpec := { name := "signsTwins", fn := fun _ => fun
  | [d1, d2] => { results := [.lit (.bool false)], args := [d1, d2] }
  | _ => none }
def SignsTwinsWrongFalsely : Prop := signsTwinsRow.holds Tryz.pinned (OpenSpec.ofChange signsTwinsWrong)

/-- 'handshapelaw01.SignsForms': WHATEVER THE INPUT: true; the input reads as it did. -/
def signsFormsSpec : ChangeSpec := { name := "signsForms", fn := fun _ => fun
  | [d1, d2] => { results := [.lit (.bool true)], args := [d1, d2] }
  | _ => none }
def signsFormsRow : OpenClaim := { program := "ytafidkjlgchbbaagreat", sum := "5bef585da7ad2844c596b66238e0688368af8f9f15b0f85ff0c36cee78f2db92", func := "handshape/handshapelaw01.SignsForms", spec := "signsForms", unfollowed := true, recurses := true, apart := false }
def SignsFormsSaid : Prop := signsFormsRow.holds Tryz.pinned (OpenSpec.ofChange signsFormsSpec)

/-- ITS FALSE NEIGHBOUR: 'it returns false'. Refute it at one input. -/
def signsFormsWrong : ChangeSpec := { name := "signsForms", fn := fun _ => fun
  | [d1, d2] => { results := [.lit (.bool false)], args := [d1, d2] }
  | _ => none }
def SignsFormsWrongFalsely : Prop := signsFormsRow.holds Tryz.pinned (OpenSpec.ofChange signsFormsWrong)

/-- 'handshapelaw01.SignsOneOrder': WHATEVER THE INPUT: true; the input reads as it did. -/
def signsOneOrderSpec : ChangeSpec := { name := "signsOneOrder", fn := fun _ => fun
  | [d1, d2, d3] => { results := [.lit (.bool true)], args := [d1, d2, d3] }
  | _ => none }
def signsOneOrderRow : OpenClaim := { program := "ytafidkjlgchbbaagreat", sum := "5bef585da7ad2844c596b66238e0688368af8f9f15b0f85ff0c36cee78f2db92", func := "handshape/handshapelaw01.SignsOneOrder", spec := "signsOneOrder", unfollowed := true, recurses := true, apart := false }
def SignsOneOrderSaid : Prop := signsOneOrderRow.holds Tryz.pinned (OpenSpec.ofChange signsOneOrderSpec)

/-- ITS FALSE NEIGHBOUR: 'it returns false'. Refute it at one input. -/
def signsOneOrderWrong : ChangeSpec := { name := "signsOneOrder", fn := fun _ => fun
  | [d1, d2, d3] => { results := [.lit (.bool false)], args := [d1, d2, d3] }
  | _ => none }
def SignsOneOrderWrongFalsely : Prop := signsOneOrderRow.holds Tryz.pinned (OpenSpec.ofChange signsOneOrderWrong)

/-- 'handshapelaw01.SignsMerges': WHATEVER THE INPUT: true; the input reads as it did. -/
def signsMergesSpec : ChangeSpec := { name := "signsMerges", fn := fun _ => fun
  | [d1, d2] => { results := [.lit (.bool true)], args := [d1, d2] }
  | _ => none }
def signsMergesRow : OpenClaim := { program := "ytafidkjlgchbbaagreat", sum := "5bef585da7ad2844c596b66238e0688368af8f9f15b0f85ff0c36cee78f2db92", func := "handshape/handshapelaw01.SignsMerges", spec := "signsMerges", unfollowed := true, recurses := true, apart := false }
def SignsMergesSaid : Prop := signsMergesRow.holds Tryz.pinned (OpenSpec.ofChange signsMergesSpec)

/-- ITS FALSE NEIGHBOUR: 'it returns false'. Refute it at one input. -/
def signsMergesWrong : ChangeSpec := { name := "signsMerges", fn := fun _ => fun
  | [d1, d2] => { results := [.lit (.bool false)], args := [d1, d2] }
  | _ => none }
def SignsMergesWrongFalsely : Prop := signsMergesRow.holds Tryz.pinned (OpenSpec.ofChange signsMergesWrong)

/-- 'handshapelaw01.SignsEntered': WHATEVER THE INPUT: true; the input reads as it did. -/
def signsEnteredSpec : ChangeSpec := { name := "signsEntered", fn := fun _ => fun
  | [d1, d2, d3] => { results := [.lit (.bool true)], args := [d1, d2, d3] }
  | _ => none }
def signsEnteredRow : OpenClaim := { program := "ytafidkjlgchbbaagreat", sum := "5bef585da7ad2844c596b66238e0688368af8f9f15b0f85ff0c36cee78f2db92", func := "handshape/handshapelaw01.SignsEntered", spec := "signsEntered", unfollowed := true, recurses := true, apart := false }
def SignsEnteredSaid : Prop := signsEnteredRow.holds Tryz.pinned (OpenSpec.ofChange signsEnteredSpec)

/-- ITS FALSE NEIGHBOUR: 'it returns false'. Refute it at one input. -/
def signsEnteredWrong : ChangeSpec := { name := "signsEntered", fn := fun _ => fun
  | [d1, d2, d3] => { results := [.lit (.bool false)], args := [d1, d2, d3] }
  | _ => none }
def SignsEnteredWrongFalsely : Prop := signsEnteredRow.holds Tryz.pinned (OpenSpec.ofChange signsEnteredWrong)

/- THE SECOND FORM. 'bulk': how many values and letters a reading holds, each counted each time it is reached (what is shared counts as often as it is met; a slice's spare places count too). A statement '..UptoSaid' is the law's where the arguments, and the package variables that the reading takes, are together of bulk at most 1048576: NARROWER than '..Said'. Prove '..Said' where nothing that the law and all that it calls make is longer than what came in: it says more and counts as full. Else prove '..UptoSaid'. A law counts once. -/
mutual
def uptoBulk {H : Type} : DataW H → Nat
  | .lit (.string bytes) => bytes.length + 1
  | .lit _ => 1
  | .nil => 1
  | .ptr d => uptoBulk d + 1
  | .slice elems spare => uptoBulkAll elems + uptoBulkAll spare + 1
  | .agg parts => uptoBulkAll parts + 1
  | .iface _ d => uptoBulk d + 1
  | .map entries => uptoBulkEntries entries + 1
  | .held _ => 1
def uptoBulkAll {H : Type} : List (DataW H) → Nat
  | [] => 0
  | d :: r => uptoBulk d + uptoBulkAll r
def uptoBulkEntries {H : Type} : List (Lit × DataW H) → Nat
  | [] => 0
  | x :: r => uptoBulkEntry x + uptoBulkEntries r
def uptoBulkEntry {H : Type} : Lit × DataW H → Nat
  | (.string bytes, d) => bytes.length + uptoBulk d + 1
  | (_, d) => uptoBulk d + 1
 end
def uptoSmall : (H : Type) → List (DataW H) → Bool := fun _ ds => decide (uptoBulkAll ds ≤ 1048576)
def OpenSpec.upto (s : _root_.Go.ChangeSpec) : _root_.Go.OpenSpec := { _root_.Go.OpenSpec.ofChange s with cond := some uptoSmall }

/-- 'handshapelaw01.SignsFinds', WHERE WHAT IT READS IS OF BULK AT MOST 1048576: true; the input reads as it did. -/
def signsFindsUptoRow : OpenClaim := { program := "ytafidkjlgchbbaagreat", sum := "5bef585da7ad2844c596b66238e0688368af8f9f15b0f85ff0c36cee78f2db92", func := "handshape/handshapelaw01.SignsFinds", spec := "signsFinds", unfollowed := true, recurses := true, apart := false, narrowed := true }
def SignsFindsUptoSaid : Prop := signsFindsUptoRow.holds Tryz.pinned (OpenSpec.upto signsFindsSpec)

/-- 'handshapelaw01.SignsAll', WHERE WHAT IT READS IS OF BULK AT MOST 1048576: true; the input reads as it did. -/
def signsAllUptoRow : OpenClaim := { program := "ytafidkjlgchbbaagreat", sum := "5bef585da7ad2844c596b66238e0688368af8f9f15b0f85ff0c36cee78f2db92", func := "handshape/handshapelaw01.SignsAll", spec := "signsAll", unfollowed := true, recurses := true, apart := false, narrowed := true }
def SignsAllUptoSaid : Prop := signsAllUptoRow.holds Tryz.pinned (OpenSpec.upto signsAllSpec)

/-- 'handshapelaw01.SignsWider', WHERE WHAT IT READS IS OF BULK AT MOST 1048576: true; the input reads as it did. -/
def signsWiderUptoRow : OpenClaim := { program := "ytafidkjlgchbbaagreat", sum := "5bef585da7ad2844c596b66238e0688368af8f9f15b0f85ff0c36cee78f2db92", func := "handshape/handshapelaw01.SignsWider", spec := "signsWider", unfollowed := true, recurses := true, apart := false, narrowed := true }
def SignsWiderUptoSaid : Prop := signsWiderUptoRow.holds Tryz.pinned (OpenSpec.upto signsWiderSpec)

/-- 'handshapelaw01.SignsMade', WHERE WHAT IT READS IS OF BULK AT MOST 1048576: true; the input reads as it did. -/
def signsMadeUptoRow : OpenClaim := { program := "ytafidkjlgchbbaagreat", sum := "5bef585da7ad2844c596b66238e0688368af8f9f15b0f85ff0c36cee78f2db92", func := "handshape/handshapelaw01.SignsMade", spec := "signsMade", unfollowed := true, recurses := true, apart := false, narrowed := true }
def SignsMadeUptoSaid : Prop := signsMadeUptoRow.holds Tryz.pinned (OpenSpec.upto signsMadeSpec)

/-- 'handshapelaw01.SignsQuestion', WHERE WHAT IT READS IS OF BULK AT MOST 1048576: true; the input reads as it did. -/
def signsQuestionUptoRow : OpenClaim := { program := "ytafidkjlgchbbaagreat", sum := "5bef585da7ad2844c596b66238e0688368af8f9f15b0f85ff0c36cee78f2db92", func := "handshape/handshapelaw01.SignsQuestion", spec := "signsQuestion", unfollowed := true, recurses := true, apart := false, narrowed := true }
def SignsQuestionUptoSaid : Prop := signsQuestionUptoRow.holds Tryz.pinned (OpenSpec.upto signsQuestionSpec)

/-- 'handshapelaw01.SignsBooks', WHERE WHAT IT READS IS OF BULK AT MOST 1048576: true; the input reads as it did. -/
def signsBooksUptoRow : OpenClaim := { program := "ytafidkjlgchbbaagreat", sum := "5bef585da7ad2844c596b66238e0688368af8f9f15b0f85ff0c36cee78f2db92", func := "handshape/handshapelaw01.SignsBooks", spec := "signsBooks", unfollowed := true, recurses := true, apart := false, narrowed := true }
def SignsBooksUptoSaid : Prop := signsBooksUptoRow.holds Tryz.pinned (OpenSpec.upto signsBooksSpec)

/-- 'handshapelaw01.SignsTwins', WHERE WHAT IT READS IS OF BULK AT MOST 1048576: true; the input reads as it did. -/
def signsTwinsUptoRow : OpenClaim := { program := "ytafidkjlgchbbaagreat", sum := "5bef585da7ad2844c596b66238e0688368af8f9f15b0f85ff0c36cee78f2db92", func := "handshape/handshapelaw01.SignsTwins", spec := "signsTwins", unfollowed := true, recurses := true, apart := false, narrowed := true }
def SignsTwinsUptoSaid : Prop := signsTwinsUptoRow.holds Tryz.pinned (OpenSpec.upto signsTwinsSpec)

/-- 'handshapelaw01.SignsForms', WHERE WHAT IT READS IS OF BULK AT MOST 1048576: true; the input reads as it did. -/
def signsFormsUptoRow : OpenClaim := { program := "ytafidkjlgchbbaagreat", sum := "5bef585da7ad2844c596b66238e0688368af8f9f15b0f85ff0c36cee78f2db92", func := "handshape/handshapelaw01.SignsForms", spec := "signsForms", unfollowed := true, recurses := true, apart := false, narrowed := true }
def SignsFormsUptoSaid : Prop := signsFormsUptoRow.holds Tryz.pinned (OpenSpec.upto signsFormsSpec)

/-- 'handshapelaw01.SignsOneOrder', WHERE WHAT IT READS IS OF BULK AT MOST 1048576: true; the input reads as it did. -/
def signsOneOrderUptoRow : OpenClaim := { program := "ytafidkjlgchbbaagreat", sum := "5bef585da7ad2844c596b66238e0688368af8f9f15b0f85ff0c36cee78f2db92", func := "handshape/handshapelaw01.SignsOneOrder", spec := "signsOneOrder", unfollowed := true, recurses := true, apart := false, narrowed := true }
def SignsOneOrderUptoSaid : Prop := signsOneOrderUptoRow.holds Tryz.pinned (OpenSpec.upto signsOneOrderSpec)

/-- 'handshapelaw01.SignsMerges', WHERE WHAT IT READS IS OF BULK AT MOST 1048576: true; the input reads as it did. -/
def signsMergesUptoRow : OpenClaim := { program := "ytafidkjlgchbbaagreat", sum := "5bef585da7ad2844c596b66238e0688368af8f9f15b0f85ff0c36cee78f2db92", func := "handshape/handshapelaw01.SignsMerges", spec := "signsMerges", unfollowed := true, recurses := true, apart := false, narrowed := true }
def SignsMergesUptoSaid : Prop := signsMergesUptoRow.holds Tryz.pinned (OpenSpec.upto signsMergesSpec)

/-- 'handshapelaw01.SignsEntered', WHERE WHAT IT READS IS OF BULK AT MOST 1048576: true; the input reads as it did. -/
def signsEnteredUptoRow : OpenClaim := { program := "ytafidkjlgchbbaagreat", sum := "5bef585da7ad2844c596b66238e0688368af8f9f15b0f85ff0c36cee78f2db92", func := "handshape/handshapelaw01.SignsEntered", spec := "signsEntered", unfollowed := true, recurses := true, apart := false, narrowed := true }
def SignsEnteredUptoSaid : Prop := signsEnteredUptoRow.holds Tryz.pinned (OpenSpec.upto signsEnteredSpec)

end Rows
end Go.Proofs.YtafidkjlgchbbaaGreat
