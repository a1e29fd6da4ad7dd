/-
  What is asked of the law 'GlossesProof'.
-/
import Derived.Test.YtoijahccalbjiaaG10
namespace Go.X
open Go.Proofs

def sp8 : Spec := lawSpec [tF, .slice tG, tSpot]
def an8 : Ann := fun r => match r with
  | 12 => some fun σ => { X := Nat, sl := fun i => [(16, .dat .int (i : Int))], ob := fun _ => [], inv := fun i => i ≤ (gd tL σ 8).length, mu := fun i => (gd tL σ 8).length - i }
  | 16 => some fun σ => { X := Nat, sl := fun k => [(18, .dat .int (k : Int)), (17, .dat .bool (U.hasG ((gd tL σ 12).take k) (nth (gd tL σ 8) (gd .int σ 16).toNat)))], ob := fun _ => [], inv := fun k => k ≤ (gd tL σ 12).length, mu := fun k => (gd tL σ 12).length - k }
  | 22 => some fun σ => { X := Nat, sl := fun i => [(19, .dat .int (i : Int))], ob := fun _ => [], inv := fun i => i ≤ (gd tL σ 8).length, mu := fun i => (gd tL σ 8).length - i }
  | _ => none
def vc8 : Prop :=
  ∀ (d : (List Int × Int × Unit) × List (Int × Int × Int × Int × Int × Int × Unit) × (Int × Int × Int × Int × Int × Unit) × Unit),
  fitsAll (1048576 : Nat)
  [Ty.int.slice.pair (Ty.int.pair Ty.unit), (Ty.int.pair (Ty.int.pair (Ty.int.pair (Ty.int.pair (Ty.int.pair (Ty.int.pair Ty.unit)))))).slice, Ty.int.pair (Ty.int.pair (Ty.int.pair (Ty.int.pair (Ty.int.pair Ty.unit))))] d →
  ((!U.valid (d.fst.fst, d.fst.snd.fst, ()) d.snd.fst || decide (U.frameErr (d.fst.fst, d.fst.snd.fst, ()) d.snd.fst d.snd.snd.fst.fst d.snd.snd.fst.snd.fst ≠ (0 : Int))) = true → (true, ()) = (true, ())) ∧
  ((!U.valid (d.fst.fst, d.fst.snd.fst, ()) d.snd.fst || decide (U.frameErr (d.fst.fst, d.fst.snd.fst, ()) d.snd.fst d.snd.snd.fst.fst d.snd.snd.fst.snd.fst ≠ (0 : Int))) = false →
  (U.check (d.fst.fst, d.fst.snd.fst, ()) d.snd.fst = (0 : Int) → d.snd.fst.length ≤ (12 : Nat)) ∧
  (U.check (d.fst.fst, d.fst.snd.fst, ()) d.snd.fst = (0 : Int) → d.snd.fst.length ≤ (12 : Nat)) ∧
  d.snd.fst.length ≤ (100000 : Nat) ∧
  (∀ (g : Int × Int × Int × Int × Int × Int × Unit), g ∈ d.snd.fst → (0 : Int) < U.to g ∧ U.to g ≤ (1000 : Int)) ∧
  (((!(decide (U.frmErr (d.fst.fst, d.fst.snd.fst, ()) d.snd.fst d.snd.snd.fst.fst d.snd.snd.fst.snd.fst ≠ (0 : Int)) || decide (U.filmErr (d.fst.fst, d.fst.snd.fst, ()) d.snd.fst d.snd.snd.fst.fst ≠ (0 : Int)))) = true →
  List.length (U.whyP (d.fst.fst, d.fst.snd.fst, ()) d.snd.fst d.snd.snd.fst.fst d.snd.snd.fst.snd.fst) < (4611686018427387904 : Nat)) →
  ((!(decide (U.frmErr (d.fst.fst, d.fst.snd.fst, ()) d.snd.fst d.snd.snd.fst.fst d.snd.snd.fst.snd.fst ≠ (0 : Int)) || decide (U.filmErr (d.fst.fst, d.fst.snd.fst, ()) d.snd.fst d.snd.snd.fst.fst ≠ (0 : Int)))) = true →
  (U.at' d.snd.fst d.snd.snd.fst.fst d.snd.snd.fst.snd.fst).length < (4611686018427387904 : Nat)) →
  ((!(decide (U.frmErr (d.fst.fst, d.fst.snd.fst, ()) d.snd.fst d.snd.snd.fst.fst d.snd.snd.fst.snd.fst ≠ (0 : Int)) || decide (U.filmErr (d.fst.fst, d.fst.snd.fst, ()) d.snd.fst d.snd.snd.fst.fst ≠ (0 : Int)) ||
  decide ((↑(U.at' d.snd.fst d.snd.snd.fst.fst d.snd.snd.fst.snd.fst).length : Int) < (↑(List.length (U.whyP (d.fst.fst, d.fst.snd.fst, ()) d.snd.fst d.snd.snd.fst.fst d.snd.snd.fst.snd.fst)) : Int)))) =
  true →
  (U.readings (d.fst.fst, d.fst.snd.fst, ()) d.snd.fst d.snd.snd.fst.fst).length < (4611686018427387904 : Nat)) →
  ((!(decide (U.frmErr (d.fst.fst, d.fst.snd.fst, ()) d.snd.fst d.snd.snd.fst.fst d.snd.snd.fst.snd.fst ≠ (0 : Int)) || decide (U.filmErr (d.fst.fst, d.fst.snd.fst, ()) d.snd.fst d.snd.snd.fst.fst ≠ (0 : Int)) ||
  decide ((↑(U.at' d.snd.fst d.snd.snd.fst.fst d.snd.snd.fst.snd.fst).length : Int) < (↑(List.length (U.whyP (d.fst.fst, d.fst.snd.fst, ()) d.snd.fst d.snd.snd.fst.fst d.snd.snd.fst.snd.fst)) : Int)))) =
  true →
  (0 : Int) ≤ d.snd.snd.fst.fst) ∧
  ((!(decide (U.frmErr (d.fst.fst, d.fst.snd.fst, ()) d.snd.fst d.snd.snd.fst.fst d.snd.snd.fst.snd.fst ≠ (0 : Int)) || decide (U.filmErr (d.fst.fst, d.fst.snd.fst, ()) d.snd.fst d.snd.snd.fst.fst ≠ (0 : Int)) ||
  decide ((↑(U.at' d.snd.fst d.snd.snd.fst.fst d.snd.snd.fst.snd.fst).length : Int) < (↑(List.length (U.whyP (d.fst.fst, d.fst.snd.fst, ()) d.snd.fst d.snd.snd.fst.fst d.snd.snd.fst.snd.fst)) : Int)))) =
  true →
  d.snd.snd.fst.fst < (↑d.fst.fst.length : Int)) ∧
  ((decide (U.frmErr (d.fst.fst, d.fst.snd.fst, ()) d.snd.fst d.snd.snd.fst.fst d.snd.snd.fst.snd.fst ≠ (0 : Int)) || decide (U.filmErr (d.fst.fst, d.fst.snd.fst, ()) d.snd.fst d.snd.snd.fst.fst ≠ (0 : Int)) ||
  decide ((↑(U.at' d.snd.fst d.snd.snd.fst.fst d.snd.snd.fst.snd.fst).length : Int) < (↑(List.length (U.whyP (d.fst.fst, d.fst.snd.fst, ()) d.snd.fst d.snd.snd.fst.fst d.snd.snd.fst.snd.fst)) : Int)) ||
  decide (nth d.fst.fst d.snd.snd.fst.fst.toNat < (↑(U.readings (d.fst.fst, d.fst.snd.fst, ()) d.snd.fst d.snd.snd.fst.fst).length : Int))) =
  true →
  (false, ()) = (true, ())) ∧
  ((decide (U.frmErr (d.fst.fst, d.fst.snd.fst, ()) d.snd.fst d.snd.snd.fst.fst d.snd.snd.fst.snd.fst ≠ (0 : Int)) || decide (U.filmErr (d.fst.fst, d.fst.snd.fst, ()) d.snd.fst d.snd.snd.fst.fst ≠ (0 : Int)) ||
  decide ((↑(U.at' d.snd.fst d.snd.snd.fst.fst d.snd.snd.fst.snd.fst).length : Int) < (↑(List.length (U.whyP (d.fst.fst, d.fst.snd.fst, ()) d.snd.fst d.snd.snd.fst.fst d.snd.snd.fst.snd.fst)) : Int)) ||
  decide (nth d.fst.fst d.snd.snd.fst.fst.toNat < (↑(U.readings (d.fst.fst, d.fst.snd.fst, ()) d.snd.fst d.snd.snd.fst.fst).length : Int))) =
  false →
  (U.readings (d.fst.fst, d.fst.snd.fst, ()) d.snd.fst d.snd.snd.fst.fst).length ≤ (100000 : Nat) ∧
  (∃ (x : Nat), (((0 : Int) = (↑x : Int) ∧ True) ∧ True) ∧ x ≤ List.length (U.whyP (d.fst.fst, d.fst.snd.fst, ()) d.snd.fst d.snd.snd.fst.fst d.snd.snd.fst.snd.fst)) ∧
  ∀ (x : Nat),
  x ≤ List.length (U.whyP (d.fst.fst, d.fst.snd.fst, ()) d.snd.fst d.snd.snd.fst.fst d.snd.snd.fst.snd.fst) →
  List.length (U.whyP (d.fst.fst, d.fst.snd.fst, ()) d.snd.fst d.snd.snd.fst.fst d.snd.snd.fst.snd.fst) < (4611686018427387904 : Nat) →
  (decide ((↑x : Int) < (↑(List.length (U.whyP (d.fst.fst, d.fst.snd.fst, ()) d.snd.fst d.snd.snd.fst.fst d.snd.snd.fst.snd.fst)) : Int)) = true →
  (∃ (x_4 : Nat),
  (((0 : Int) = (↑x_4 : Int) ∧
  false =
  U.hasG (List.take x_4 (U.at' d.snd.fst d.snd.snd.fst.fst d.snd.snd.fst.snd.fst))
  (nth (U.whyP (d.fst.fst, d.fst.snd.fst, ()) d.snd.fst d.snd.snd.fst.fst d.snd.snd.fst.snd.fst) (↑x : Int).toNat) ∧
  True) ∧
  True) ∧
  x_4 ≤ (U.at' d.snd.fst d.snd.snd.fst.fst d.snd.snd.fst.snd.fst).length) ∧
  ∀ (x_4 : Nat),
  x_4 ≤ (U.at' d.snd.fst d.snd.snd.fst.fst d.snd.snd.fst.snd.fst).length →
  (U.at' d.snd.fst d.snd.snd.fst.fst d.snd.snd.fst.snd.fst).length < (4611686018427387904 : Nat) →
  (decide ((↑x_4 : Int) < (↑(U.at' d.snd.fst d.snd.snd.fst.fst d.snd.snd.fst.snd.fst).length : Int)) = true →
  ((!U.hasG (List.take x_4 (U.at' d.snd.fst d.snd.snd.fst.fst d.snd.snd.fst.snd.fst))
  (nth (U.whyP (d.fst.fst, d.fst.snd.fst, ()) d.snd.fst d.snd.snd.fst.fst d.snd.snd.fst.snd.fst) (↑x : Int).toNat)) =
  true →
  (0 : Int) ≤ (↑x_4 : Int)) ∧
  ((!U.hasG (List.take x_4 (U.at' d.snd.fst d.snd.snd.fst.fst d.snd.snd.fst.snd.fst))
  (nth (U.whyP (d.fst.fst, d.fst.snd.fst, ()) d.snd.fst d.snd.snd.fst.fst d.snd.snd.fst.snd.fst) (↑x : Int).toNat)) =
  true →
  (↑x_4 : Int) < (↑(U.at' d.snd.fst d.snd.snd.fst.fst d.snd.snd.fst.snd.fst).length : Int)) ∧
  ((!U.hasG (List.take x_4 (U.at' d.snd.fst d.snd.snd.fst.fst d.snd.snd.fst.snd.fst))
  (nth (U.whyP (d.fst.fst, d.fst.snd.fst, ()) d.snd.fst d.snd.snd.fst.fst d.snd.snd.fst.snd.fst) (↑x : Int).toNat)) =
  true →
  (0 : Int) ≤ (↑x : Int)) ∧
  ((!U.hasG (List.take x_4 (U.at' d.snd.fst d.snd.snd.fst.fst d.snd.snd.fst.snd.fst))
  (nth (U.whyP (d.fst.fst, d.fst.snd.fst, ()) d.snd.fst d.snd.snd.fst.fst d.snd.snd.fst.snd.fst) (↑x : Int).toNat)) =
  true →
  (↑x : Int) < (↑(List.length (U.whyP (d.fst.fst, d.fst.snd.fst, ()) d.snd.fst d.snd.snd.fst.fst d.snd.snd.fst.snd.fst)) : Int)) ∧
  In64 ((↑x_4 : Int) + (1 : Int)) ∧
  ∃ (x' : Nat),
  (((↑x_4 : Int) + (1 : Int) = (↑x' : Int) ∧
  (U.hasG (List.take x_4 (U.at' d.snd.fst d.snd.snd.fst.fst d.snd.snd.fst.snd.fst))
  (nth (U.whyP (d.fst.fst, d.fst.snd.fst, ()) d.snd.fst d.snd.snd.fst.fst d.snd.snd.fst.snd.fst) (↑x : Int).toNat) ||
  decide
  (nth (U.at' d.snd.fst d.snd.snd.fst.fst d.snd.snd.fst.snd.fst) (↑x_4 : Int).toNat =
  nth (U.whyP (d.fst.fst, d.fst.snd.fst, ()) d.snd.fst d.snd.snd.fst.fst d.snd.snd.fst.snd.fst) (↑x : Int).toNat)) =
  U.hasG (List.take x' (U.at' d.snd.fst d.snd.snd.fst.fst d.snd.snd.fst.snd.fst))
  (nth (U.whyP (d.fst.fst, d.fst.snd.fst, ()) d.snd.fst d.snd.snd.fst.fst d.snd.snd.fst.snd.fst) (↑x : Int).toNat) ∧
  True) ∧
  True) ∧
  x' ≤ (U.at' d.snd.fst d.snd.snd.fst.fst d.snd.snd.fst.snd.fst).length ∧
  (U.at' d.snd.fst d.snd.snd.fst.fst d.snd.snd.fst.snd.fst).length - x' < (U.at' d.snd.fst d.snd.snd.fst.fst d.snd.snd.fst.snd.fst).length - x_4) ∧
  (decide ((↑x_4 : Int) < (↑(U.at' d.snd.fst d.snd.snd.fst.fst d.snd.snd.fst.snd.fst).length : Int)) = false →
  ((!U.hasG (List.take x_4 (U.at' d.snd.fst d.snd.snd.fst.fst d.snd.snd.fst.snd.fst))
  (nth (U.whyP (d.fst.fst, d.fst.snd.fst, ()) d.snd.fst d.snd.snd.fst.fst d.snd.snd.fst.snd.fst) (↑x : Int).toNat)) =
  true →
  (false, ()) = (true, ())) ∧
  ((!U.hasG (List.take x_4 (U.at' d.snd.fst d.snd.snd.fst.fst d.snd.snd.fst.snd.fst))
  (nth (U.whyP (d.fst.fst, d.fst.snd.fst, ()) d.snd.fst d.snd.snd.fst.fst d.snd.snd.fst.snd.fst) (↑x : Int).toNat)) =
  false →
  In64 ((↑x : Int) + (1 : Int)) ∧
  ∃ (x' : Nat),
  (((↑x : Int) + (1 : Int) = (↑x' : Int) ∧ True) ∧ True) ∧
  x' ≤ List.length (U.whyP (d.fst.fst, d.fst.snd.fst, ()) d.snd.fst d.snd.snd.fst.fst d.snd.snd.fst.snd.fst) ∧
  List.length (U.whyP (d.fst.fst, d.fst.snd.fst, ()) d.snd.fst d.snd.snd.fst.fst d.snd.snd.fst.snd.fst) - x' <
  List.length (U.whyP (d.fst.fst, d.fst.snd.fst, ()) d.snd.fst d.snd.snd.fst.fst d.snd.snd.fst.snd.fst) - x))) ∧
  (decide ((↑x : Int) < (↑(List.length (U.whyP (d.fst.fst, d.fst.snd.fst, ()) d.snd.fst d.snd.snd.fst.fst d.snd.snd.fst.snd.fst)) : Int)) = false →
  (∃ (x : Nat), (((0 : Int) = (↑x : Int) ∧ True) ∧ True) ∧ x ≤ List.length (U.whyP (d.fst.fst, d.fst.snd.fst, ()) d.snd.fst d.snd.snd.fst.fst d.snd.snd.fst.snd.fst)) ∧
  ∀ (x : Nat),
  x ≤ List.length (U.whyP (d.fst.fst, d.fst.snd.fst, ()) d.snd.fst d.snd.snd.fst.fst d.snd.snd.fst.snd.fst) →
  List.length (U.whyP (d.fst.fst, d.fst.snd.fst, ()) d.snd.fst d.snd.snd.fst.fst d.snd.snd.fst.snd.fst) < (4611686018427387904 : Nat) →
  (decide ((↑x : Int) < (↑(List.length (U.whyP (d.fst.fst, d.fst.snd.fst, ()) d.snd.fst d.snd.snd.fst.fst d.snd.snd.fst.snd.fst)) : Int)) = true →
  (0 : Int) ≤ (0 : Int) ∧
  (0 : Int) ≤ (↑x : Int) ∧
  (↑x : Int) ≤ (↑(List.length (U.whyP (d.fst.fst, d.fst.snd.fst, ()) d.snd.fst d.snd.snd.fst.fst d.snd.snd.fst.snd.fst)) : Int) ∧
  (List.take ((↑x : Int).toNat - Int.toNat (0 : Int))
  (List.drop (Int.toNat (0 : Int)) (U.whyP (d.fst.fst, d.fst.snd.fst, ()) d.snd.fst d.snd.snd.fst.fst d.snd.snd.fst.snd.fst))).length ≤
  (2000000 : Nat) ∧
  In64 ((↑x : Int) + (1 : Int)) ∧
  (0 : Int) ≤ (↑x : Int) + (1 : Int) ∧
  (↑x : Int) + (1 : Int) ≤ (↑(List.length (U.whyP (d.fst.fst, d.fst.snd.fst, ()) d.snd.fst d.snd.snd.fst.fst d.snd.snd.fst.snd.fst)) : Int) ∧
  (↑(List.length (U.whyP (d.fst.fst, d.fst.snd.fst, ()) d.snd.fst d.snd.snd.fst.fst d.snd.snd.fst.snd.fst)) : Int) ≤
  (↑(List.length (U.whyP (d.fst.fst, d.fst.snd.fst, ()) d.snd.fst d.snd.snd.fst.fst d.snd.snd.fst.snd.fst)) : Int) ∧
  ((List.take ((↑x : Int).toNat - Int.toNat (0 : Int))
  (List.drop (Int.toNat (0 : Int)) (U.whyP (d.fst.fst, d.fst.snd.fst, ()) d.snd.fst d.snd.snd.fst.fst d.snd.snd.fst.snd.fst))).length +
  (List.take
  ((↑(List.length (U.whyP (d.fst.fst, d.fst.snd.fst, ()) d.snd.fst d.snd.snd.fst.fst d.snd.snd.fst.snd.fst)) : Int).toNat - ((↑x : Int) + (1 : Int)).toNat)
  (List.drop ((↑x : Int) + (1 : Int)).toNat (U.whyP (d.fst.fst, d.fst.snd.fst, ()) d.snd.fst d.snd.snd.fst.fst d.snd.snd.fst.snd.fst))).length) *
  (48 : Nat) ≤
  (140737488355328 : Nat) ∧
  ((1 : Int) ≤ d.fst.snd.fst ∧ d.fst.snd.fst ≤ (10 : Int)) ∧
  U.smallest d.fst.snd.fst
  (List.take ((↑x : Int).toNat - Int.toNat (0 : Int))
  (List.drop (Int.toNat (0 : Int)) (U.whyP (d.fst.fst, d.fst.snd.fst, ()) d.snd.fst d.snd.snd.fst.fst d.snd.snd.fst.snd.fst)) ++
  List.take
  ((↑(List.length (U.whyP (d.fst.fst, d.fst.snd.fst, ()) d.snd.fst d.snd.snd.fst.fst d.snd.snd.fst.snd.fst)) : Int).toNat - ((↑x : Int) + (1 : Int)).toNat)
  (List.drop ((↑x : Int) + (1 : Int)).toNat (U.whyP (d.fst.fst, d.fst.snd.fst, ()) d.snd.fst d.snd.snd.fst.fst d.snd.snd.fst.snd.fst))) ≠
  [] ∧
  (decide
  (U.size (U.readS d.snd.snd.fst.snd.fst (U.readings (d.fst.fst, d.fst.snd.fst, ()) d.snd.fst d.snd.snd.fst.fst)) ≤
  U.least d.fst.snd.fst
  (List.take ((↑x : Int).toNat - Int.toNat (0 : Int))
  (List.drop (Int.toNat (0 : Int)) (U.whyP (d.fst.fst, d.fst.snd.fst, ()) d.snd.fst d.snd.snd.fst.fst d.snd.snd.fst.snd.fst)) ++
  List.take
  ((↑(List.length (U.whyP (d.fst.fst, d.fst.snd.fst, ()) d.snd.fst d.snd.snd.fst.fst d.snd.snd.fst.snd.fst)) : Int).toNat -
  ((↑x : Int) + (1 : Int)).toNat)
  (List.drop ((↑x : Int) + (1 : Int)).toNat (U.whyP (d.fst.fst, d.fst.snd.fst, ()) d.snd.fst d.snd.snd.fst.fst d.snd.snd.fst.snd.fst)))) =
  true →
  (false, ()) = (true, ())) ∧
  (decide
  (U.size (U.readS d.snd.snd.fst.snd.fst (U.readings (d.fst.fst, d.fst.snd.fst, ()) d.snd.fst d.snd.snd.fst.fst)) ≤
  U.least d.fst.snd.fst
  (List.take ((↑x : Int).toNat - Int.toNat (0 : Int))
  (List.drop (Int.toNat (0 : Int)) (U.whyP (d.fst.fst, d.fst.snd.fst, ()) d.snd.fst d.snd.snd.fst.fst d.snd.snd.fst.snd.fst)) ++
  List.take
  ((↑(List.length (U.whyP (d.fst.fst, d.fst.snd.fst, ()) d.snd.fst d.snd.snd.fst.fst d.snd.snd.fst.snd.fst)) : Int).toNat -
  ((↑x : Int) + (1 : Int)).toNat)
  (List.drop ((↑x : Int) + (1 : Int)).toNat (U.whyP (d.fst.fst, d.fst.snd.fst, ()) d.snd.fst d.snd.snd.fst.fst d.snd.snd.fst.snd.fst)))) =
  false →
  In64 ((↑x : Int) + (1 : Int)) ∧
  ∃ (x' : Nat),
  (((↑x : Int) + (1 : Int) = (↑x' : Int) ∧ True) ∧ True) ∧
  x' ≤ List.length (U.whyP (d.fst.fst, d.fst.snd.fst, ()) d.snd.fst d.snd.snd.fst.fst d.snd.snd.fst.snd.fst) ∧
  List.length (U.whyP (d.fst.fst, d.fst.snd.fst, ()) d.snd.fst d.snd.snd.fst.fst d.snd.snd.fst.snd.fst) - x' <
  List.length (U.whyP (d.fst.fst, d.fst.snd.fst, ()) d.snd.fst d.snd.snd.fst.fst d.snd.snd.fst.snd.fst) - x)) ∧
  (decide ((↑x : Int) < (↑(List.length (U.whyP (d.fst.fst, d.fst.snd.fst, ()) d.snd.fst d.snd.snd.fst.fst d.snd.snd.fst.snd.fst)) : Int)) = false →
  ((!decide (d.snd.snd.fst.snd.snd.snd.snd.fst < (0 : Int))) = true → (0 : Int) ≤ d.fst.snd.fst) ∧
  ((!decide (d.snd.snd.fst.snd.snd.snd.snd.fst < (0 : Int))) = true → d.fst.snd.fst ≤ (18446744073709551615 : Int)) ∧
  ((!decide (d.snd.snd.fst.snd.snd.snd.snd.fst < (0 : Int))) = true → (0 : Int) ≤ d.fst.snd.fst) ∧
  ((!decide (d.snd.snd.fst.snd.snd.snd.snd.fst < (0 : Int))) = true → d.fst.snd.fst ≤ (64 : Int)) ∧
  ((!decide (d.snd.snd.fst.snd.snd.snd.snd.fst < (0 : Int))) = true → In64 ((1 : Int) * (2 : Int) ^ d.fst.snd.fst.toNat)) ∧
  ((decide (d.snd.snd.fst.snd.snd.snd.snd.fst < (0 : Int)) || decide ((1 : Int) * (2 : Int) ^ d.fst.snd.fst.toNat ≤ d.snd.snd.fst.snd.snd.snd.snd.fst) ||
  !U.agrees d.snd.snd.fst.snd.snd.snd.snd.fst (U.whyP (d.fst.fst, d.fst.snd.fst, ()) d.snd.fst d.snd.snd.fst.fst d.snd.snd.fst.snd.fst) ||
  decide (U.size (U.readS d.snd.snd.fst.snd.fst (U.readings (d.fst.fst, d.fst.snd.fst, ()) d.snd.fst d.snd.snd.fst.fst)) ≤ U.size d.snd.snd.fst.snd.snd.snd.snd.fst)) &&
  true,
  ()) =
  (true, ()))))))

theorem vc8_eq : fnVC (ctx 164 [(13, sp13), (14, sp14), (15, sp15), (30, sp30), (17, sp17), (16, sp16), (18, sp18), (19, sp19), (31, sp31), (23, sp23)] [(12, so12)]) (an8) Try.f8 (bodyOf Try.f8) sp8 = vc8 := by kernel_rfl


end Go.X
/-
  The statement 'GlossesProof' is true of what the program computes.
-/
namespace Go.X
open Go.Proofs

theorem drop1_sub (w : LG) (i : Nat) : (U.drop1 w i).Sublist w := by
  unfold U.drop1
  rw [← List.eraseIdx_eq_take_drop_succ]
  exact List.eraseIdx_sublist ..

theorem least_le {s : Int} (hs : 1 ≤ s ∧ s ≤ 10) {l : LG} (hl : ∀ g ∈ l, M.Sg s.toNat g) {n : Nat} (hn : n < 2 ^ s.toNat) (ha : U.agrees (n : Int) l = true) : U.least s l ≤ U.size (n : Int) := by
  obtain ⟨_, b, e, hb⟩ := M.best (s := s) (by omega) hs.2 hl
  unfold U.least
  rw [e]
  rcases hb.min n hn ha with h | h <;> omega

theorem h8 : vc8 := by
  rintro ⟨⟨fr, s, ⟨⟩⟩, l, ⟨film, frame, a, b, set, ⟨⟩⟩, ⟨⟩⟩ _
  simp only
  refine ⟨fun _ => trivial, fun h => ?_⟩
  simp only [Bool.or_eq_false_iff, Bool.not_eq_false', decide_eq_false_iff_not] at h
  obtain ⟨v1, v2⟩ := h
  obtain ⟨c1, n1, o1, _, _⟩ := M.valid_of v1
  have v2 : U.frameErr (fr, s, ()) l film frame = 0 := Classical.byContradiction v2
  obtain ⟨hfilm, hk⟩ := M.frame_zero c1 v2
  have f1 := M.filmErr_zero c1 hfilm
  have f2 := frm_of c1 ⟨hfilm, hk⟩
  have len1 := M.readings_len c1 hfilm
  have at1 := M.readings_at c1 hfilm hk
  simp only at len1 at1
  have hs := o1.s
  simp only at hs
  have hp := pow_in (by omega) hs.2
  have hpn : ((2 ^ s.toNat : Nat) : Int) = (2 : Int) ^ s.toNat := by simp
  have hsg := at_sg o1 film frame
  simp only at hsg
  have hat := at_len l film frame
  have hS : U.size (U.readS frame (U.readings (fr, s, ()) l film)) = U.least s (U.at' l film frame) := by
    rw [at1.1, M.at_eq o1]
    unfold U.setAt U.least
    rw [Int.toNat_of_nonneg hk.1]
  have hW : U.whyP (fr, s, ()) l film frame = U.whyR s (U.at' l film frame) := by
    rw [why_same (fun _ => n1)]
    unfold U.whyRP
    rw [if_pos v2]
  have hP := M.why_proof (s := s) (l := U.at' l film frame) (by omega)
  rw [hW, hS]
  generalize U.whyR s (U.at' l film frame) = W at hP ⊢
  generalize U.at' l film frame = At at hsg hat hP ⊢
  have hsgW := sub_sg hsg hP.sub
  have hlen := hP.sub.length_le
  refine ⟨fun _ => n1, fun _ => n1, by omega, fun g hg => by have := o1.gl g hg; omega, fun _ _ _ => ⟨fun _ => hfilm.1, fun _ => hfilm.2, fun hx => ?_, fun _ => ⟨by omega, ⟨0, ⟨⟨rfl, trivial⟩, trivial⟩, Nat.zero_le _⟩, fun x hx _ => ⟨fun hc => ?_, fun hc => ?_⟩⟩⟩⟩
  · exfalso
    rw [f1, f2, decide_eq_false (show ¬ nth fr film.toNat < ((U.readings (fr, s, ()) l film).length : Int) by omega), decide_eq_false (show ¬ (At.length : Int) < (W.length : Int) by omega)] at hx
    exact absurd hx (by decide)
  · have hc : x < W.length := by have := of_decide_eq_true hc; omega
    simp only [Int.toNat_natCast]
    refine ⟨⟨0, ⟨⟨rfl, rfl, trivial⟩, trivial⟩, Nat.zero_le _⟩, fun k hk _ => ⟨fun hd => ?_, fun hd => ?_⟩⟩
    · have hd : k < At.length := by have := of_decide_eq_true hd; omega
      refine ⟨fun _ => by omega, fun _ => by omega, fun _ => by omega, fun _ => by omega, L.in64 (by omega) (by omega), k + 1, ⟨⟨by simp, ?_, trivial⟩, trivial⟩, by omega, by omega⟩
      unfold U.hasG
      rw [L.take_succ hd, List.any_append]
      simp
    · have hd : At.length ≤ k := by have := of_decide_eq_false hd; omega
      have : U.hasG (At.take k) (nth W x) = true := by
        rw [List.take_of_length_le hd]
        unfold U.hasG
        rw [List.any_eq_true]
        exact ⟨nth W x, hP.sub.subset (L.mem_nth hc), by simp⟩
      rw [this]
      exact ⟨fun hq => absurd hq (by decide), fun _ => ⟨L.in64 (by omega) (by omega), x + 1, ⟨⟨by simp, trivial⟩, trivial⟩, by omega, by omega⟩⟩
  · refine ⟨⟨0, ⟨⟨rfl, trivial⟩, trivial⟩, Nat.zero_le _⟩, fun x hx _ => ⟨fun hc => ?_, fun hc => ?_⟩⟩
    · have hc : x < W.length := by have := of_decide_eq_true hc; omega
      have e1 : List.take (((x : Nat) : Int).toNat - Int.toNat (0 : Int)) (List.drop (Int.toNat (0 : Int)) W) = W.take x := by simp
      have e2 : List.take (((W.length : Nat) : Int).toNat - ((x : Int) + 1).toNat) (List.drop ((x : Int) + 1).toNat W) = W.drop (x + 1) := by
        rw [show ((x : Int) + 1).toNat = x + 1 from by omega]
        apply List.take_of_length_le
        simp
      have e3 : W.take x ++ W.drop (x + 1) = U.drop1 W x := rfl
      have hmin := hP.min x hc
      simp only [e1, e2, e3]
      refine ⟨by omega, by omega, by omega, by simp; omega, L.in64 (by omega) (by omega), by omega, by omega, by omega, by simp; omega, hs, smallest_ne hs (sub_sg hsgW (drop1_sub W x)), fun hq => ?_, fun _ => ⟨L.in64 (by omega) (by omega), x + 1, ⟨⟨by simp, trivial⟩, trivial⟩, by omega, by omega⟩⟩
      have := of_decide_eq_true hq
      omega
    · refine ⟨fun _ => by omega, fun _ => by omega, fun _ => by omega, fun _ => by omega, fun _ => by unfold In64; omega, ?_⟩
      rw [Bool.and_true]
      refine congrArg (·, ()) ?_
      by_cases q1 : set < 0
      · rw [decide_eq_true q1]; simp
      by_cases q2 : 1 * 2 ^ s.toNat ≤ set
      · rw [decide_eq_true q2]; simp
      cases q3 : U.agrees set W with
      | false => simp
      | true =>
        obtain ⟨n, rfl⟩ : ∃ n : Nat, set = (n : Int) := ⟨set.toNat, by omega⟩
        have := least_le hs hsgW (n := n) (by omega) q3
        have := hP.need
        rw [decide_eq_true (show U.least s At ≤ U.size (n : Int) by omega)]
        simp

theorem ok8 : FnOK PR 8 sp8 := mkFn (vc8_eq.mpr h8) Try.func8 (by kernel_rfl) (by kernel_rfl) (by kernel_rfl) (by kernel_rfl) ⟨fun _ => ok13, fun _ => ok14, fun _ => ok15, fun _ => ok30, fun _ => ok17, fun _ => ok16, fun _ => ok18, fun _ => ok19, fun _ => ok31, fun _ => ok23, trivial⟩ ⟨ok12, trivial⟩

end Go.X
