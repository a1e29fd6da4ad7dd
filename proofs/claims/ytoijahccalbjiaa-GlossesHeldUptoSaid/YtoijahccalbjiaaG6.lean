/-
  The statement 'GlossesMore': what is asked.
-/
import Derived.Test.YtoijahccalbjiaaG3
import Derived.Test.YtoijahccalbjiaaK7
import Derived.Test.YtoijahccalbjiaaG4
namespace Go.X
open Go.Proofs

abbrev tMore : Ty := .st [tG, .int]

def sp3 : Spec := lawSpec [tF, .slice tG, tMore]
def an3 : Ann := fun r => match r with
  | 7 => some fun σ => { X := Nat, sl := fun i => [(11, .dat .int (i : Int))], ob := fun _ => [], inv := fun i => i ≤ (gd (.slice tG) σ 1).length ∧ ∀ g ∈ (gd (.slice tG) σ 1).take i, U.au g ≠ U.au (gd tMore σ 2).1, mu := fun i => (gd (.slice tG) σ 1).length - i }
  | _ => none
def vc3 : Prop :=
  ∀ (d : (List Int × Int × Unit) × List (Int × Int × Int × Int × Int × Int × Unit) × ((Int × Int × Int × Int × Int × Int × Unit) × Int × Unit) × Unit),
  fitsAll (1048576 : Nat)
  [Ty.int.slice.pair (Ty.int.pair Ty.unit), (Ty.int.pair (Ty.int.pair (Ty.int.pair (Ty.int.pair (Ty.int.pair (Ty.int.pair Ty.unit)))))).slice,
  (Ty.int.pair (Ty.int.pair (Ty.int.pair (Ty.int.pair (Ty.int.pair (Ty.int.pair Ty.unit)))))).pair (Ty.int.pair Ty.unit)]
  d →
  d.snd.fst.length ≤ (2000000 : Nat) ∧
  (d.snd.fst.length + [(d.snd.snd.fst.fst.fst, d.snd.snd.fst.fst.snd.fst, d.snd.snd.fst.fst.snd.snd.fst, d.snd.snd.fst.fst.snd.snd.snd.fst, d.snd.snd.fst.fst.snd.snd.snd.snd.fst, d.snd.snd.fst.fst.snd.snd.snd.snd.snd.fst, ())].length) *
  (48 : Nat) ≤
  (140737488355328 : Nat) ∧
  ((!U.valid (d.fst.fst, d.fst.snd.fst, ()) d.snd.fst ||
  !U.valid (d.fst.fst, d.fst.snd.fst, ())
  (d.snd.fst ++
  [(d.snd.snd.fst.fst.fst, d.snd.snd.fst.fst.snd.fst, d.snd.snd.fst.fst.snd.snd.fst, d.snd.snd.fst.fst.snd.snd.snd.fst, d.snd.snd.fst.fst.snd.snd.snd.snd.fst, d.snd.snd.fst.fst.snd.snd.snd.snd.snd.fst, ())]) ||
  decide (U.frameErr (d.fst.fst, d.fst.snd.fst, ()) d.snd.fst d.snd.snd.fst.fst.snd.snd.fst d.snd.snd.fst.snd.fst ≠ (0 : Int))) =
  true →
  (true, ()) = (true, ())) ∧
  ((!U.valid (d.fst.fst, d.fst.snd.fst, ()) d.snd.fst ||
  !U.valid (d.fst.fst, d.fst.snd.fst, ())
  (d.snd.fst ++
  [(d.snd.snd.fst.fst.fst, d.snd.snd.fst.fst.snd.fst, d.snd.snd.fst.fst.snd.snd.fst, d.snd.snd.fst.fst.snd.snd.snd.fst, d.snd.snd.fst.fst.snd.snd.snd.snd.fst, d.snd.snd.fst.fst.snd.snd.snd.snd.snd.fst, ())]) ||
  decide (U.frameErr (d.fst.fst, d.fst.snd.fst, ()) d.snd.fst d.snd.snd.fst.fst.snd.snd.fst d.snd.snd.fst.snd.fst ≠ (0 : Int))) =
  false →
  d.snd.fst.length ≤ (100000 : Nat) ∧
  (∀ (g : Int × Int × Int × Int × Int × Int × Unit), g ∈ d.snd.fst → (0 : Int) < U.to g ∧ U.to g ≤ (1000 : Int)) ∧
  (∃ (x : Nat), (((0 : Int) = (↑x : Int) ∧ True) ∧ True) ∧ x ≤ d.snd.fst.length ∧ ∀ (g : Int × Int × Int × Int × Int × Int × Unit), g ∈ List.take x d.snd.fst → U.au g ≠ U.au d.snd.snd.fst.fst) ∧
  ∀ (x : Nat),
  (x ≤ d.snd.fst.length ∧ ∀ (g : Int × Int × Int × Int × Int × Int × Unit), g ∈ List.take x d.snd.fst → U.au g ≠ U.au d.snd.snd.fst.fst) →
  d.snd.fst.length < (4611686018427387904 : Nat) →
  (decide ((↑x : Int) < (↑d.snd.fst.length : Int)) = true →
  (0 : Int) ≤ (↑x : Int) ∧
  (↑x : Int) < (↑d.snd.fst.length : Int) ∧
  (decide ((nth d.snd.fst (↑x : Int).toNat).fst = d.snd.snd.fst.fst.fst) = true → (true, ()) = (true, ())) ∧
  (decide ((nth d.snd.fst (↑x : Int).toNat).fst = d.snd.snd.fst.fst.fst) = false →
  In64 ((↑x : Int) + (1 : Int)) ∧
  ∃ (x' : Nat),
  (((↑x : Int) + (1 : Int) = (↑x' : Int) ∧ True) ∧ True) ∧
  (x' ≤ d.snd.fst.length ∧ ∀ (g : Int × Int × Int × Int × Int × Int × Unit), g ∈ List.take x' d.snd.fst → U.au g ≠ U.au d.snd.snd.fst.fst) ∧ d.snd.fst.length - x' < d.snd.fst.length - x)) ∧
  (decide ((↑x : Int) < (↑d.snd.fst.length : Int)) = false →
  (U.check (d.fst.fst, d.fst.snd.fst, ()) d.snd.fst = (0 : Int) → d.snd.fst.length ≤ (12 : Nat)) ∧
  (U.check (d.fst.fst, d.fst.snd.fst, ())
  (d.snd.fst ++
  [(d.snd.snd.fst.fst.fst, d.snd.snd.fst.fst.snd.fst, d.snd.snd.fst.fst.snd.snd.fst, d.snd.snd.fst.fst.snd.snd.snd.fst, d.snd.snd.fst.fst.snd.snd.snd.snd.fst, d.snd.snd.fst.fst.snd.snd.snd.snd.snd.fst,
  ())]) =
  (0 : Int) →
  (d.snd.fst ++
  [(d.snd.snd.fst.fst.fst, d.snd.snd.fst.fst.snd.fst, d.snd.snd.fst.fst.snd.snd.fst, d.snd.snd.fst.fst.snd.snd.snd.fst, d.snd.snd.fst.fst.snd.snd.snd.snd.fst, d.snd.snd.fst.fst.snd.snd.snd.snd.snd.fst,
  ())]).length ≤
  (12 : Nat)) ∧
  (((!(decide (U.filmErr (d.fst.fst, d.fst.snd.fst, ()) d.snd.fst d.snd.snd.fst.fst.snd.snd.fst ≠ (0 : Int)) ||
  decide
  (U.filmErr (d.fst.fst, d.fst.snd.fst, ())
  (d.snd.fst ++
  [(d.snd.snd.fst.fst.fst, d.snd.snd.fst.fst.snd.fst, d.snd.snd.fst.fst.snd.snd.fst, d.snd.snd.fst.fst.snd.snd.snd.fst, d.snd.snd.fst.fst.snd.snd.snd.snd.fst,
  d.snd.snd.fst.fst.snd.snd.snd.snd.snd.fst, ())])
  d.snd.snd.fst.fst.snd.snd.fst ≠
  (0 : Int)))) =
  true →
  (U.readings (d.fst.fst, d.fst.snd.fst, ()) d.snd.fst d.snd.snd.fst.fst.snd.snd.fst).length < (4611686018427387904 : Nat)) →
  ((!(decide (U.filmErr (d.fst.fst, d.fst.snd.fst, ()) d.snd.fst d.snd.snd.fst.fst.snd.snd.fst ≠ (0 : Int)) ||
  decide
  (U.filmErr (d.fst.fst, d.fst.snd.fst, ())
  (d.snd.fst ++
  [(d.snd.snd.fst.fst.fst, d.snd.snd.fst.fst.snd.fst, d.snd.snd.fst.fst.snd.snd.fst, d.snd.snd.fst.fst.snd.snd.snd.fst, d.snd.snd.fst.fst.snd.snd.snd.snd.fst,
  d.snd.snd.fst.fst.snd.snd.snd.snd.snd.fst, ())])
  d.snd.snd.fst.fst.snd.snd.fst ≠
  (0 : Int)))) =
  true →
  (0 : Int) ≤ d.snd.snd.fst.fst.snd.snd.fst) ∧
  ((!(decide (U.filmErr (d.fst.fst, d.fst.snd.fst, ()) d.snd.fst d.snd.snd.fst.fst.snd.snd.fst ≠ (0 : Int)) ||
  decide
  (U.filmErr (d.fst.fst, d.fst.snd.fst, ())
  (d.snd.fst ++
  [(d.snd.snd.fst.fst.fst, d.snd.snd.fst.fst.snd.fst, d.snd.snd.fst.fst.snd.snd.fst, d.snd.snd.fst.fst.snd.snd.snd.fst, d.snd.snd.fst.fst.snd.snd.snd.snd.fst,
  d.snd.snd.fst.fst.snd.snd.snd.snd.snd.fst, ())])
  d.snd.snd.fst.fst.snd.snd.fst ≠
  (0 : Int)))) =
  true →
  d.snd.snd.fst.fst.snd.snd.fst < (↑d.fst.fst.length : Int)) ∧
  (((!(decide (U.filmErr (d.fst.fst, d.fst.snd.fst, ()) d.snd.fst d.snd.snd.fst.fst.snd.snd.fst ≠ (0 : Int)) ||
  decide
  (U.filmErr (d.fst.fst, d.fst.snd.fst, ())
  (d.snd.fst ++
  [(d.snd.snd.fst.fst.fst, d.snd.snd.fst.fst.snd.fst, d.snd.snd.fst.fst.snd.snd.fst, d.snd.snd.fst.fst.snd.snd.snd.fst, d.snd.snd.fst.fst.snd.snd.snd.snd.fst,
  d.snd.snd.fst.fst.snd.snd.snd.snd.snd.fst, ())])
  d.snd.snd.fst.fst.snd.snd.fst ≠
  (0 : Int)) ||
  decide (nth d.fst.fst d.snd.snd.fst.fst.snd.snd.fst.toNat < (↑(U.readings (d.fst.fst, d.fst.snd.fst, ()) d.snd.fst d.snd.snd.fst.fst.snd.snd.fst).length : Int)))) =
  true →
  (U.readings (d.fst.fst, d.fst.snd.fst, ())
  (d.snd.fst ++
  [(d.snd.snd.fst.fst.fst, d.snd.snd.fst.fst.snd.fst, d.snd.snd.fst.fst.snd.snd.fst, d.snd.snd.fst.fst.snd.snd.snd.fst, d.snd.snd.fst.fst.snd.snd.snd.snd.fst,
  d.snd.snd.fst.fst.snd.snd.snd.snd.snd.fst, ())])
  d.snd.snd.fst.fst.snd.snd.fst).length <
  (4611686018427387904 : Nat)) →
  ((!(decide (U.filmErr (d.fst.fst, d.fst.snd.fst, ()) d.snd.fst d.snd.snd.fst.fst.snd.snd.fst ≠ (0 : Int)) ||
  decide
  (U.filmErr (d.fst.fst, d.fst.snd.fst, ())
  (d.snd.fst ++
  [(d.snd.snd.fst.fst.fst, d.snd.snd.fst.fst.snd.fst, d.snd.snd.fst.fst.snd.snd.fst, d.snd.snd.fst.fst.snd.snd.snd.fst, d.snd.snd.fst.fst.snd.snd.snd.snd.fst,
  d.snd.snd.fst.fst.snd.snd.snd.snd.snd.fst, ())])
  d.snd.snd.fst.fst.snd.snd.fst ≠
  (0 : Int)) ||
  decide (nth d.fst.fst d.snd.snd.fst.fst.snd.snd.fst.toNat < (↑(U.readings (d.fst.fst, d.fst.snd.fst, ()) d.snd.fst d.snd.snd.fst.fst.snd.snd.fst).length : Int)))) =
  true →
  (0 : Int) ≤ d.snd.snd.fst.fst.snd.snd.fst) ∧
  ((!(decide (U.filmErr (d.fst.fst, d.fst.snd.fst, ()) d.snd.fst d.snd.snd.fst.fst.snd.snd.fst ≠ (0 : Int)) ||
  decide
  (U.filmErr (d.fst.fst, d.fst.snd.fst, ())
  (d.snd.fst ++
  [(d.snd.snd.fst.fst.fst, d.snd.snd.fst.fst.snd.fst, d.snd.snd.fst.fst.snd.snd.fst, d.snd.snd.fst.fst.snd.snd.snd.fst, d.snd.snd.fst.fst.snd.snd.snd.snd.fst,
  d.snd.snd.fst.fst.snd.snd.snd.snd.snd.fst, ())])
  d.snd.snd.fst.fst.snd.snd.fst ≠
  (0 : Int)) ||
  decide (nth d.fst.fst d.snd.snd.fst.fst.snd.snd.fst.toNat < (↑(U.readings (d.fst.fst, d.fst.snd.fst, ()) d.snd.fst d.snd.snd.fst.fst.snd.snd.fst).length : Int)))) =
  true →
  d.snd.snd.fst.fst.snd.snd.fst < (↑d.fst.fst.length : Int)) ∧
  ((decide (U.filmErr (d.fst.fst, d.fst.snd.fst, ()) d.snd.fst d.snd.snd.fst.fst.snd.snd.fst ≠ (0 : Int)) ||
  decide
  (U.filmErr (d.fst.fst, d.fst.snd.fst, ())
  (d.snd.fst ++
  [(d.snd.snd.fst.fst.fst, d.snd.snd.fst.fst.snd.fst, d.snd.snd.fst.fst.snd.snd.fst, d.snd.snd.fst.fst.snd.snd.snd.fst, d.snd.snd.fst.fst.snd.snd.snd.snd.fst,
  d.snd.snd.fst.fst.snd.snd.snd.snd.snd.fst, ())])
  d.snd.snd.fst.fst.snd.snd.fst ≠
  (0 : Int)) ||
  decide (nth d.fst.fst d.snd.snd.fst.fst.snd.snd.fst.toNat < (↑(U.readings (d.fst.fst, d.fst.snd.fst, ()) d.snd.fst d.snd.snd.fst.fst.snd.snd.fst).length : Int)) ||
  decide
  (nth d.fst.fst d.snd.snd.fst.fst.snd.snd.fst.toNat <
  (↑(U.readings (d.fst.fst, d.fst.snd.fst, ())
  (d.snd.fst ++
  [(d.snd.snd.fst.fst.fst, d.snd.snd.fst.fst.snd.fst, d.snd.snd.fst.fst.snd.snd.fst, d.snd.snd.fst.fst.snd.snd.snd.fst, d.snd.snd.fst.fst.snd.snd.snd.snd.fst,
  d.snd.snd.fst.fst.snd.snd.snd.snd.snd.fst, ())])
  d.snd.snd.fst.fst.snd.snd.fst).length :
  Int))) =
  true →
  (false, ()) = (true, ())) ∧
  ((decide (U.filmErr (d.fst.fst, d.fst.snd.fst, ()) d.snd.fst d.snd.snd.fst.fst.snd.snd.fst ≠ (0 : Int)) ||
  decide
  (U.filmErr (d.fst.fst, d.fst.snd.fst, ())
  (d.snd.fst ++
  [(d.snd.snd.fst.fst.fst, d.snd.snd.fst.fst.snd.fst, d.snd.snd.fst.fst.snd.snd.fst, d.snd.snd.fst.fst.snd.snd.snd.fst, d.snd.snd.fst.fst.snd.snd.snd.snd.fst,
  d.snd.snd.fst.fst.snd.snd.snd.snd.snd.fst, ())])
  d.snd.snd.fst.fst.snd.snd.fst ≠
  (0 : Int)) ||
  decide (nth d.fst.fst d.snd.snd.fst.fst.snd.snd.fst.toNat < (↑(U.readings (d.fst.fst, d.fst.snd.fst, ()) d.snd.fst d.snd.snd.fst.fst.snd.snd.fst).length : Int)) ||
  decide
  (nth d.fst.fst d.snd.snd.fst.fst.snd.snd.fst.toNat <
  (↑(U.readings (d.fst.fst, d.fst.snd.fst, ())
  (d.snd.fst ++
  [(d.snd.snd.fst.fst.fst, d.snd.snd.fst.fst.snd.fst, d.snd.snd.fst.fst.snd.snd.fst, d.snd.snd.fst.fst.snd.snd.snd.fst, d.snd.snd.fst.fst.snd.snd.snd.snd.fst,
  d.snd.snd.fst.fst.snd.snd.snd.snd.snd.fst, ())])
  d.snd.snd.fst.fst.snd.snd.fst).length :
  Int))) =
  false →
  (U.readings (d.fst.fst, d.fst.snd.fst, ()) d.snd.fst d.snd.snd.fst.fst.snd.snd.fst).length ≤ (100000 : Nat) ∧
  (U.readings (d.fst.fst, d.fst.snd.fst, ())
  (d.snd.fst ++
  [(d.snd.snd.fst.fst.fst, d.snd.snd.fst.fst.snd.fst, d.snd.snd.fst.fst.snd.snd.fst, d.snd.snd.fst.fst.snd.snd.snd.fst, d.snd.snd.fst.fst.snd.snd.snd.snd.fst,
  d.snd.snd.fst.fst.snd.snd.snd.snd.snd.fst, ())])
  d.snd.snd.fst.fst.snd.snd.fst).length ≤
  (100000 : Nat) ∧
  (decide
  (U.size (U.readS d.snd.snd.fst.snd.fst (U.readings (d.fst.fst, d.fst.snd.fst, ()) d.snd.fst d.snd.snd.fst.fst.snd.snd.fst)) ≤
  U.size
  (U.readS d.snd.snd.fst.snd.fst
  (U.readings (d.fst.fst, d.fst.snd.fst, ())
  (d.snd.fst ++
  [(d.snd.snd.fst.fst.fst, d.snd.snd.fst.fst.snd.fst, d.snd.snd.fst.fst.snd.snd.fst, d.snd.snd.fst.fst.snd.snd.snd.fst, d.snd.snd.fst.fst.snd.snd.snd.snd.fst,
  d.snd.snd.fst.fst.snd.snd.snd.snd.snd.fst, ())])
  d.snd.snd.fst.fst.snd.snd.fst))) =
  true →
  In64 (U.size (U.readS d.snd.snd.fst.snd.fst (U.readings (d.fst.fst, d.fst.snd.fst, ()) d.snd.fst d.snd.snd.fst.fst.snd.snd.fst)) + (1 : Int))) ∧
  (((decide
  (U.size (U.readS d.snd.snd.fst.snd.fst (U.readings (d.fst.fst, d.fst.snd.fst, ()) d.snd.fst d.snd.snd.fst.fst.snd.snd.fst)) ≤
  U.size
  (U.readS d.snd.snd.fst.snd.fst
  (U.readings (d.fst.fst, d.fst.snd.fst, ())
  (d.snd.fst ++
  [(d.snd.snd.fst.fst.fst, d.snd.snd.fst.fst.snd.fst, d.snd.snd.fst.fst.snd.snd.fst, d.snd.snd.fst.fst.snd.snd.snd.fst, d.snd.snd.fst.fst.snd.snd.snd.snd.fst,
  d.snd.snd.fst.fst.snd.snd.snd.snd.snd.fst, ())])
  d.snd.snd.fst.fst.snd.snd.fst))) &&
  decide
  (U.size
  (U.readS d.snd.snd.fst.snd.fst
  (U.readings (d.fst.fst, d.fst.snd.fst, ())
  (d.snd.fst ++
  [(d.snd.snd.fst.fst.fst, d.snd.snd.fst.fst.snd.fst, d.snd.snd.fst.fst.snd.snd.fst, d.snd.snd.fst.fst.snd.snd.snd.fst, d.snd.snd.fst.fst.snd.snd.snd.snd.fst,
  d.snd.snd.fst.fst.snd.snd.snd.snd.snd.fst, ())])
  d.snd.snd.fst.fst.snd.snd.fst)) ≤
  U.size (U.readS d.snd.snd.fst.snd.fst (U.readings (d.fst.fst, d.fst.snd.fst, ()) d.snd.fst d.snd.snd.fst.fst.snd.snd.fst)) + (1 : Int))) =
  true →
  (U.at' d.snd.fst d.snd.snd.fst.fst.snd.snd.fst d.snd.snd.fst.snd.fst).length < (4611686018427387904 : Nat)) →
  ((decide
  (U.size (U.readS d.snd.snd.fst.snd.fst (U.readings (d.fst.fst, d.fst.snd.fst, ()) d.snd.fst d.snd.snd.fst.fst.snd.snd.fst)) ≤
  U.size
  (U.readS d.snd.snd.fst.snd.fst
  (U.readings (d.fst.fst, d.fst.snd.fst, ())
  (d.snd.fst ++
  [(d.snd.snd.fst.fst.fst, d.snd.snd.fst.fst.snd.fst, d.snd.snd.fst.fst.snd.snd.fst, d.snd.snd.fst.fst.snd.snd.snd.fst, d.snd.snd.fst.fst.snd.snd.snd.snd.fst,
  d.snd.snd.fst.fst.snd.snd.snd.snd.snd.fst, ())])
  d.snd.snd.fst.fst.snd.snd.fst))) &&
  decide
  (U.size
  (U.readS d.snd.snd.fst.snd.fst
  (U.readings (d.fst.fst, d.fst.snd.fst, ())
  (d.snd.fst ++
  [(d.snd.snd.fst.fst.fst, d.snd.snd.fst.fst.snd.fst, d.snd.snd.fst.fst.snd.snd.fst, d.snd.snd.fst.fst.snd.snd.snd.fst, d.snd.snd.fst.fst.snd.snd.snd.snd.fst,
  d.snd.snd.fst.fst.snd.snd.snd.snd.snd.fst, ())])
  d.snd.snd.fst.fst.snd.snd.fst)) ≤
  U.size (U.readS d.snd.snd.fst.snd.fst (U.readings (d.fst.fst, d.fst.snd.fst, ()) d.snd.fst d.snd.snd.fst.fst.snd.snd.fst)) + (1 : Int))) =
  true →
  In64 ((↑(U.at' d.snd.fst d.snd.snd.fst.fst.snd.snd.fst d.snd.snd.fst.snd.fst).length : Int) + (1 : Int))) ∧
  (decide
  (U.size (U.readS d.snd.snd.fst.snd.fst (U.readings (d.fst.fst, d.fst.snd.fst, ()) d.snd.fst d.snd.snd.fst.fst.snd.snd.fst)) ≤
  U.size
  (U.readS d.snd.snd.fst.snd.fst
  (U.readings (d.fst.fst, d.fst.snd.fst, ())
  (d.snd.fst ++
  [(d.snd.snd.fst.fst.fst, d.snd.snd.fst.fst.snd.fst, d.snd.snd.fst.fst.snd.snd.fst, d.snd.snd.fst.fst.snd.snd.snd.fst, d.snd.snd.fst.fst.snd.snd.snd.snd.fst,
  d.snd.snd.fst.fst.snd.snd.snd.snd.snd.fst, ())])
  d.snd.snd.fst.fst.snd.snd.fst))) &&
  decide
  (U.size
  (U.readS d.snd.snd.fst.snd.fst
  (U.readings (d.fst.fst, d.fst.snd.fst, ())
  (d.snd.fst ++
  [(d.snd.snd.fst.fst.fst, d.snd.snd.fst.fst.snd.fst, d.snd.snd.fst.fst.snd.snd.fst, d.snd.snd.fst.fst.snd.snd.snd.fst, d.snd.snd.fst.fst.snd.snd.snd.snd.fst,
  d.snd.snd.fst.fst.snd.snd.snd.snd.snd.fst, ())])
  d.snd.snd.fst.fst.snd.snd.fst)) ≤
  U.size (U.readS d.snd.snd.fst.snd.fst (U.readings (d.fst.fst, d.fst.snd.fst, ()) d.snd.fst d.snd.snd.fst.fst.snd.snd.fst)) + (1 : Int)) &&
  decide
  (U.size
  (U.readS d.snd.snd.fst.snd.fst
  (U.readings (d.fst.fst, d.fst.snd.fst, ())
  (d.snd.fst ++
  [(d.snd.snd.fst.fst.fst, d.snd.snd.fst.fst.snd.fst, d.snd.snd.fst.fst.snd.snd.fst, d.snd.snd.fst.fst.snd.snd.snd.fst, d.snd.snd.fst.fst.snd.snd.snd.snd.fst,
  d.snd.snd.fst.fst.snd.snd.snd.snd.snd.fst, ())])
  d.snd.snd.fst.fst.snd.snd.fst)) ≤
  (↑(U.at' d.snd.fst d.snd.snd.fst.fst.snd.snd.fst d.snd.snd.fst.snd.fst).length : Int) + (1 : Int)) &&
  true,
  ()) =
  (true, ())))))))

theorem vc3_eq : fnVC (ctx 150 [(13, sp13), (14, sp14), (15, sp15), (16, sp16), (17, sp17), (18, sp18), (19, sp19)] [(12, so12)]) (an3) Try.f3 (bodyOf Try.f3) sp3 = vc3 := by kernel_rfl


end Go.X
/-
  The statements 'GlossesTaken', 'GlossesPair', 'GlossesHeard': what is asked; Sure, and what it calls.
-/
namespace Go.X
open Go.Proofs

abbrev tSpot : Ty := .st [.int, .int, .int, .int, .int]

namespace U
def without (a : Int) (l : List GD) : List GD := l.filter (fun g => !decide (au g = a))
def sumI (l : List Int) : Int := l.foldl (fun s n => s + n) 0
def frmErr (f : FD) (l : List GD) (film frame : Int) : Int := if check f l ≠ 0 then check f l else if (0 ≤ film ∧ film < f.1.length) ∧ 0 ≤ frame ∧ frame < nth f.1 film.toNat then 0 else 1
def andAll (o : List Int) (s : Int) : Int := o.foldl (fun a x => band a x) s
def orAll (o : List Int) (s : Int) : Int := o.foldl (fun a x => bor a x) s
def sureG (f : FD) (l : List GD) (film frame : Int) : Int := if frmErr f l film frame = 0 then andAll (smallest f.2.1 ((heldG l).filter (inFrame film frame))) (1 * 2 ^ f.2.1.toNat - 1) else 0
def mayG (f : FD) (l : List GD) (film frame : Int) : Int := if frmErr f l film frame = 0 then orAll (smallest f.2.1 ((heldG l).filter (inFrame film frame))) 0 else 0
end U

def sp4 : Spec := lawSpec [tF, .slice tG, tG]
def an4 : Ann := fun r => match r with
  | 7 => some fun σ => { X := Nat, sl := fun i => [(9, .dat .int (i : Int)), (8, .own 8 tG)], ob := fun i => [(8, some (.row 27 tG false .yes (U.without (U.au (gd tG σ 2)) ((gd (.slice tG) σ 1).take i))))], inv := fun i => i ≤ (gd (.slice tG) σ 1).length ∧ ∀ g ∈ (gd (.slice tG) σ 1).take i, U.au g = U.au (gd tG σ 2) → U.st g ≠ 9999, mu := fun i => (gd (.slice tG) σ 1).length - i }
  | 18 => some fun σ => { X := Nat, sl := fun k => [(14, .dat .int (U.fr (gd tG σ 2) + (k : Int)))], ob := fun _ => [], inv := fun k => k ≤ (U.to (gd tG σ 2) - U.fr (gd tG σ 2)).toNat, mu := fun k => (U.to (gd tG σ 2) - U.fr (gd tG σ 2)).toNat - k }
  | _ => none
def vc4 : Prop :=
  ∀ (d : (List Int × Int × Unit) × List (Int × Int × Int × Int × Int × Int × Unit) × (Int × Int × Int × Int × Int × Int × Unit) × Unit),
  fitsAll (1048576 : Nat)
  [Ty.int.slice.pair (Ty.int.pair Ty.unit), (Ty.int.pair (Ty.int.pair (Ty.int.pair (Ty.int.pair (Ty.int.pair (Ty.int.pair Ty.unit)))))).slice, Ty.int.pair (Ty.int.pair (Ty.int.pair (Ty.int.pair (Ty.int.pair (Ty.int.pair Ty.unit)))))]
  d →
  d.snd.fst.length ≤ (2000000 : Nat) ∧
  (d.snd.fst.length + [(d.snd.snd.fst.fst, (9999 : Int), d.snd.snd.fst.snd.snd.fst, d.snd.snd.fst.snd.snd.snd.fst, d.snd.snd.fst.snd.snd.snd.snd.fst, (0 : Int), ())].length) * (48 : Nat) ≤ (140737488355328 : Nat) ∧
  ((!U.valid (d.fst.fst, d.fst.snd.fst, ()) d.snd.fst ||
  !U.valid (d.fst.fst, d.fst.snd.fst, ()) (d.snd.fst ++ [(d.snd.snd.fst.fst, (9999 : Int), d.snd.snd.fst.snd.snd.fst, d.snd.snd.fst.snd.snd.snd.fst, d.snd.snd.fst.snd.snd.snd.snd.fst, (0 : Int), ())])) =
  true →
  (true, ()) = (true, ())) ∧
  ((!U.valid (d.fst.fst, d.fst.snd.fst, ()) d.snd.fst ||
  !U.valid (d.fst.fst, d.fst.snd.fst, ()) (d.snd.fst ++ [(d.snd.snd.fst.fst, (9999 : Int), d.snd.snd.fst.snd.snd.fst, d.snd.snd.fst.snd.snd.snd.fst, d.snd.snd.fst.snd.snd.snd.snd.fst, (0 : Int), ())])) =
  false →
  (∃ (x : Nat),
  (((0 : Int) = (↑x : Int) ∧ True ∧ True) ∧ U.without (U.au d.snd.snd.fst) (List.take x d.snd.fst) = [] ∧ True) ∧
  x ≤ d.snd.fst.length ∧ ∀ (g : Int × Int × Int × Int × Int × Int × Unit), g ∈ List.take x d.snd.fst → U.au g = U.au d.snd.snd.fst → U.st g ≠ (9999 : Int)) ∧
  ∀ (x : Nat),
  (x ≤ d.snd.fst.length ∧ ∀ (g : Int × Int × Int × Int × Int × Int × Unit), g ∈ List.take x d.snd.fst → U.au g = U.au d.snd.snd.fst → U.st g ≠ (9999 : Int)) →
  d.snd.fst.length < (4611686018427387904 : Nat) →
  (decide ((↑x : Int) < (↑d.snd.fst.length : Int)) = true →
  (0 : Int) ≤ (↑x : Int) ∧
  (↑x : Int) < (↑d.snd.fst.length : Int) ∧
  (decide ((nth d.snd.fst (↑x : Int).toNat).fst ≠ d.snd.snd.fst.fst) = true →
  (0 : Int) ≤ (↑x : Int) ∧
  (↑x : Int) < (↑d.snd.fst.length : Int) ∧
  ((U.without (U.au d.snd.snd.fst) (List.take x d.snd.fst)).length + [nth d.snd.fst (↑x : Int).toNat].length) * (48 : Nat) ≤ (140737488355328 : Nat) ∧
  In64 ((↑x : Int) + (1 : Int)) ∧
  ∃ (x' : Nat),
  (((↑x : Int) + (1 : Int) = (↑x' : Int) ∧ True ∧ True) ∧
  U.without (U.au d.snd.snd.fst) (List.take x d.snd.fst) ++ [nth d.snd.fst (↑x : Int).toNat] = U.without (U.au d.snd.snd.fst) (List.take x' d.snd.fst) ∧ True) ∧
  (x' ≤ d.snd.fst.length ∧ ∀ (g : Int × Int × Int × Int × Int × Int × Unit), g ∈ List.take x' d.snd.fst → U.au g = U.au d.snd.snd.fst → U.st g ≠ (9999 : Int)) ∧
  d.snd.fst.length - x' < d.snd.fst.length - x) ∧
  (decide ((nth d.snd.fst (↑x : Int).toNat).fst ≠ d.snd.snd.fst.fst) = false →
  (0 : Int) ≤ (↑x : Int) ∧
  (↑x : Int) < (↑d.snd.fst.length : Int) ∧
  (decide ((nth d.snd.fst (↑x : Int).toNat).snd.fst = (9999 : Int)) = true → (true, ()) = (true, ())) ∧
  (decide ((nth d.snd.fst (↑x : Int).toNat).snd.fst = (9999 : Int)) = false →
  In64 ((↑x : Int) + (1 : Int)) ∧
  ∃ (x' : Nat),
  ((True ∧ (↑x : Int) + (1 : Int) = (↑x' : Int) ∧ True) ∧ U.without (U.au d.snd.snd.fst) (List.take x d.snd.fst) = U.without (U.au d.snd.snd.fst) (List.take x' d.snd.fst) ∧ True) ∧
  (x' ≤ d.snd.fst.length ∧ ∀ (g : Int × Int × Int × Int × Int × Int × Unit), g ∈ List.take x' d.snd.fst → U.au g = U.au d.snd.snd.fst → U.st g ≠ (9999 : Int)) ∧
  d.snd.fst.length - x' < d.snd.fst.length - x))) ∧
  (decide ((↑x : Int) < (↑d.snd.fst.length : Int)) = false →
  (U.check (d.fst.fst, d.fst.snd.fst, ()) (d.snd.fst ++ [(d.snd.snd.fst.fst, (9999 : Int), d.snd.snd.fst.snd.snd.fst, d.snd.snd.fst.snd.snd.snd.fst, d.snd.snd.fst.snd.snd.snd.snd.fst, (0 : Int), ())]) = (0 : Int) →
  (d.snd.fst ++ [(d.snd.snd.fst.fst, (9999 : Int), d.snd.snd.fst.snd.snd.fst, d.snd.snd.fst.snd.snd.snd.fst, d.snd.snd.fst.snd.snd.snd.snd.fst, (0 : Int), ())]).length ≤ (12 : Nat)) ∧
  (U.check (d.fst.fst, d.fst.snd.fst, ()) (U.without (U.au d.snd.snd.fst) (List.take x d.snd.fst)) = (0 : Int) → (U.without (U.au d.snd.snd.fst) (List.take x d.snd.fst)).length ≤ (12 : Nat)) ∧
  (((!(decide
  (U.filmErr (d.fst.fst, d.fst.snd.fst, ()) (d.snd.fst ++ [(d.snd.snd.fst.fst, (9999 : Int), d.snd.snd.fst.snd.snd.fst, d.snd.snd.fst.snd.snd.snd.fst, d.snd.snd.fst.snd.snd.snd.snd.fst, (0 : Int), ())])
  d.snd.snd.fst.snd.snd.fst ≠
  (0 : Int)) ||
  decide (U.filmErr (d.fst.fst, d.fst.snd.fst, ()) (U.without (U.au d.snd.snd.fst) (List.take x d.snd.fst)) d.snd.snd.fst.snd.snd.fst ≠ (0 : Int)))) =
  true →
  (U.readings (d.fst.fst, d.fst.snd.fst, ()) (d.snd.fst ++ [(d.snd.snd.fst.fst, (9999 : Int), d.snd.snd.fst.snd.snd.fst, d.snd.snd.fst.snd.snd.snd.fst, d.snd.snd.fst.snd.snd.snd.snd.fst, (0 : Int), ())])
  d.snd.snd.fst.snd.snd.fst).length <
  (4611686018427387904 : Nat)) →
  ((!(decide
  (U.filmErr (d.fst.fst, d.fst.snd.fst, ())
  (d.snd.fst ++ [(d.snd.snd.fst.fst, (9999 : Int), d.snd.snd.fst.snd.snd.fst, d.snd.snd.fst.snd.snd.snd.fst, d.snd.snd.fst.snd.snd.snd.snd.fst, (0 : Int), ())]) d.snd.snd.fst.snd.snd.fst ≠
  (0 : Int)) ||
  decide (U.filmErr (d.fst.fst, d.fst.snd.fst, ()) (U.without (U.au d.snd.snd.fst) (List.take x d.snd.fst)) d.snd.snd.fst.snd.snd.fst ≠ (0 : Int)))) =
  true →
  (0 : Int) ≤ d.snd.snd.fst.snd.snd.fst) ∧
  ((!(decide
  (U.filmErr (d.fst.fst, d.fst.snd.fst, ())
  (d.snd.fst ++ [(d.snd.snd.fst.fst, (9999 : Int), d.snd.snd.fst.snd.snd.fst, d.snd.snd.fst.snd.snd.snd.fst, d.snd.snd.fst.snd.snd.snd.snd.fst, (0 : Int), ())]) d.snd.snd.fst.snd.snd.fst ≠
  (0 : Int)) ||
  decide (U.filmErr (d.fst.fst, d.fst.snd.fst, ()) (U.without (U.au d.snd.snd.fst) (List.take x d.snd.fst)) d.snd.snd.fst.snd.snd.fst ≠ (0 : Int)))) =
  true →
  d.snd.snd.fst.snd.snd.fst < (↑d.fst.fst.length : Int)) ∧
  (((!(decide
  (U.filmErr (d.fst.fst, d.fst.snd.fst, ())
  (d.snd.fst ++ [(d.snd.snd.fst.fst, (9999 : Int), d.snd.snd.fst.snd.snd.fst, d.snd.snd.fst.snd.snd.snd.fst, d.snd.snd.fst.snd.snd.snd.snd.fst, (0 : Int), ())]) d.snd.snd.fst.snd.snd.fst ≠
  (0 : Int)) ||
  decide (U.filmErr (d.fst.fst, d.fst.snd.fst, ()) (U.without (U.au d.snd.snd.fst) (List.take x d.snd.fst)) d.snd.snd.fst.snd.snd.fst ≠ (0 : Int)) ||
  decide
  (nth d.fst.fst d.snd.snd.fst.snd.snd.fst.toNat <
  (↑(U.readings (d.fst.fst, d.fst.snd.fst, ())
  (d.snd.fst ++ [(d.snd.snd.fst.fst, (9999 : Int), d.snd.snd.fst.snd.snd.fst, d.snd.snd.fst.snd.snd.snd.fst, d.snd.snd.fst.snd.snd.snd.snd.fst, (0 : Int), ())])
  d.snd.snd.fst.snd.snd.fst).length :
  Int)))) =
  true →
  (U.readings (d.fst.fst, d.fst.snd.fst, ()) (U.without (U.au d.snd.snd.fst) (List.take x d.snd.fst)) d.snd.snd.fst.snd.snd.fst).length < (4611686018427387904 : Nat)) →
  ((!(decide
  (U.filmErr (d.fst.fst, d.fst.snd.fst, ())
  (d.snd.fst ++ [(d.snd.snd.fst.fst, (9999 : Int), d.snd.snd.fst.snd.snd.fst, d.snd.snd.fst.snd.snd.snd.fst, d.snd.snd.fst.snd.snd.snd.snd.fst, (0 : Int), ())]) d.snd.snd.fst.snd.snd.fst ≠
  (0 : Int)) ||
  decide (U.filmErr (d.fst.fst, d.fst.snd.fst, ()) (U.without (U.au d.snd.snd.fst) (List.take x d.snd.fst)) d.snd.snd.fst.snd.snd.fst ≠ (0 : Int)) ||
  decide
  (nth d.fst.fst d.snd.snd.fst.snd.snd.fst.toNat <
  (↑(U.readings (d.fst.fst, d.fst.snd.fst, ())
  (d.snd.fst ++ [(d.snd.snd.fst.fst, (9999 : Int), d.snd.snd.fst.snd.snd.fst, d.snd.snd.fst.snd.snd.snd.fst, d.snd.snd.fst.snd.snd.snd.snd.fst, (0 : Int), ())])
  d.snd.snd.fst.snd.snd.fst).length :
  Int)))) =
  true →
  (0 : Int) ≤ d.snd.snd.fst.snd.snd.fst) ∧
  ((!(decide
  (U.filmErr (d.fst.fst, d.fst.snd.fst, ())
  (d.snd.fst ++ [(d.snd.snd.fst.fst, (9999 : Int), d.snd.snd.fst.snd.snd.fst, d.snd.snd.fst.snd.snd.snd.fst, d.snd.snd.fst.snd.snd.snd.snd.fst, (0 : Int), ())])
  d.snd.snd.fst.snd.snd.fst ≠
  (0 : Int)) ||
  decide (U.filmErr (d.fst.fst, d.fst.snd.fst, ()) (U.without (U.au d.snd.snd.fst) (List.take x d.snd.fst)) d.snd.snd.fst.snd.snd.fst ≠ (0 : Int)) ||
  decide
  (nth d.fst.fst d.snd.snd.fst.snd.snd.fst.toNat <
  (↑(U.readings (d.fst.fst, d.fst.snd.fst, ())
  (d.snd.fst ++ [(d.snd.snd.fst.fst, (9999 : Int), d.snd.snd.fst.snd.snd.fst, d.snd.snd.fst.snd.snd.snd.fst, d.snd.snd.fst.snd.snd.snd.snd.fst, (0 : Int), ())])
  d.snd.snd.fst.snd.snd.fst).length :
  Int)))) =
  true →
  d.snd.snd.fst.snd.snd.fst < (↑d.fst.fst.length : Int)) ∧
  ((decide
  (U.filmErr (d.fst.fst, d.fst.snd.fst, ())
  (d.snd.fst ++ [(d.snd.snd.fst.fst, (9999 : Int), d.snd.snd.fst.snd.snd.fst, d.snd.snd.fst.snd.snd.snd.fst, d.snd.snd.fst.snd.snd.snd.snd.fst, (0 : Int), ())])
  d.snd.snd.fst.snd.snd.fst ≠
  (0 : Int)) ||
  decide (U.filmErr (d.fst.fst, d.fst.snd.fst, ()) (U.without (U.au d.snd.snd.fst) (List.take x d.snd.fst)) d.snd.snd.fst.snd.snd.fst ≠ (0 : Int)) ||
  decide
  (nth d.fst.fst d.snd.snd.fst.snd.snd.fst.toNat <
  (↑(U.readings (d.fst.fst, d.fst.snd.fst, ())
  (d.snd.fst ++ [(d.snd.snd.fst.fst, (9999 : Int), d.snd.snd.fst.snd.snd.fst, d.snd.snd.fst.snd.snd.snd.fst, d.snd.snd.fst.snd.snd.snd.snd.fst, (0 : Int), ())])
  d.snd.snd.fst.snd.snd.fst).length :
  Int)) ||
  decide
  (nth d.fst.fst d.snd.snd.fst.snd.snd.fst.toNat <
  (↑(U.readings (d.fst.fst, d.fst.snd.fst, ()) (U.without (U.au d.snd.snd.fst) (List.take x d.snd.fst)) d.snd.snd.fst.snd.snd.fst).length : Int))) =
  true →
  (false, ()) = (true, ())) ∧
  ((decide
  (U.filmErr (d.fst.fst, d.fst.snd.fst, ())
  (d.snd.fst ++ [(d.snd.snd.fst.fst, (9999 : Int), d.snd.snd.fst.snd.snd.fst, d.snd.snd.fst.snd.snd.snd.fst, d.snd.snd.fst.snd.snd.snd.snd.fst, (0 : Int), ())])
  d.snd.snd.fst.snd.snd.fst ≠
  (0 : Int)) ||
  decide (U.filmErr (d.fst.fst, d.fst.snd.fst, ()) (U.without (U.au d.snd.snd.fst) (List.take x d.snd.fst)) d.snd.snd.fst.snd.snd.fst ≠ (0 : Int)) ||
  decide
  (nth d.fst.fst d.snd.snd.fst.snd.snd.fst.toNat <
  (↑(U.readings (d.fst.fst, d.fst.snd.fst, ())
  (d.snd.fst ++ [(d.snd.snd.fst.fst, (9999 : Int), d.snd.snd.fst.snd.snd.fst, d.snd.snd.fst.snd.snd.snd.fst, d.snd.snd.fst.snd.snd.snd.snd.fst, (0 : Int), ())])
  d.snd.snd.fst.snd.snd.fst).length :
  Int)) ||
  decide
  (nth d.fst.fst d.snd.snd.fst.snd.snd.fst.toNat <
  (↑(U.readings (d.fst.fst, d.fst.snd.fst, ()) (U.without (U.au d.snd.snd.fst) (List.take x d.snd.fst)) d.snd.snd.fst.snd.snd.fst).length : Int))) =
  false →
  (∃ (x : Nat), ((d.snd.snd.fst.snd.snd.snd.fst = U.fr d.snd.snd.fst + (↑x : Int) ∧ True) ∧ True) ∧ x ≤ (U.to d.snd.snd.fst - U.fr d.snd.snd.fst).toNat) ∧
  ∀ (x_7 : Nat),
  x_7 ≤ (U.to d.snd.snd.fst - U.fr d.snd.snd.fst).toNat →
  (decide (U.fr d.snd.snd.fst + (↑x_7 : Int) < d.snd.snd.fst.snd.snd.snd.snd.fst) = true →
  (U.readings (d.fst.fst, d.fst.snd.fst, ())
  (d.snd.fst ++ [(d.snd.snd.fst.fst, (9999 : Int), d.snd.snd.fst.snd.snd.fst, d.snd.snd.fst.snd.snd.snd.fst, d.snd.snd.fst.snd.snd.snd.snd.fst, (0 : Int), ())])
  d.snd.snd.fst.snd.snd.fst).length ≤
  (100000 : Nat) ∧
  (U.readings (d.fst.fst, d.fst.snd.fst, ()) (U.without (U.au d.snd.snd.fst) (List.take x d.snd.fst)) d.snd.snd.fst.snd.snd.fst).length ≤ (100000 : Nat) ∧
  ((decide
  (U.readS (U.fr d.snd.snd.fst + (↑x_7 : Int))
  (U.readings (d.fst.fst, d.fst.snd.fst, ())
  (d.snd.fst ++ [(d.snd.snd.fst.fst, (9999 : Int), d.snd.snd.fst.snd.snd.fst, d.snd.snd.fst.snd.snd.snd.fst, d.snd.snd.fst.snd.snd.snd.snd.fst, (0 : Int), ())])
  d.snd.snd.fst.snd.snd.fst) ≠
  U.readS (U.fr d.snd.snd.fst + (↑x_7 : Int))
  (U.readings (d.fst.fst, d.fst.snd.fst, ()) (U.without (U.au d.snd.snd.fst) (List.take x d.snd.fst)) d.snd.snd.fst.snd.snd.fst)) ||
  !decide
  (U.readN (U.fr d.snd.snd.fst + (↑x_7 : Int))
  (U.readings (d.fst.fst, d.fst.snd.fst, ())
  (d.snd.fst ++ [(d.snd.snd.fst.fst, (9999 : Int), d.snd.snd.fst.snd.snd.fst, d.snd.snd.fst.snd.snd.snd.fst, d.snd.snd.fst.snd.snd.snd.snd.fst, (0 : Int), ())])
  d.snd.snd.fst.snd.snd.fst) ≤
  (1 : Int)) ||
  !decide
  (U.readN (U.fr d.snd.snd.fst + (↑x_7 : Int))
  (U.readings (d.fst.fst, d.fst.snd.fst, ()) (U.without (U.au d.snd.snd.fst) (List.take x d.snd.fst)) d.snd.snd.fst.snd.snd.fst) ≤
  (1 : Int))) =
  true →
  (false, ()) = (true, ())) ∧
  ((decide
  (U.readS (U.fr d.snd.snd.fst + (↑x_7 : Int))
  (U.readings (d.fst.fst, d.fst.snd.fst, ())
  (d.snd.fst ++ [(d.snd.snd.fst.fst, (9999 : Int), d.snd.snd.fst.snd.snd.fst, d.snd.snd.fst.snd.snd.snd.fst, d.snd.snd.fst.snd.snd.snd.snd.fst, (0 : Int), ())])
  d.snd.snd.fst.snd.snd.fst) ≠
  U.readS (U.fr d.snd.snd.fst + (↑x_7 : Int))
  (U.readings (d.fst.fst, d.fst.snd.fst, ()) (U.without (U.au d.snd.snd.fst) (List.take x d.snd.fst)) d.snd.snd.fst.snd.snd.fst)) ||
  !decide
  (U.readN (U.fr d.snd.snd.fst + (↑x_7 : Int))
  (U.readings (d.fst.fst, d.fst.snd.fst, ())
  (d.snd.fst ++ [(d.snd.snd.fst.fst, (9999 : Int), d.snd.snd.fst.snd.snd.fst, d.snd.snd.fst.snd.snd.snd.fst, d.snd.snd.fst.snd.snd.snd.snd.fst, (0 : Int), ())])
  d.snd.snd.fst.snd.snd.fst) ≤
  (1 : Int)) ||
  !decide
  (U.readN (U.fr d.snd.snd.fst + (↑x_7 : Int))
  (U.readings (d.fst.fst, d.fst.snd.fst, ()) (U.without (U.au d.snd.snd.fst) (List.take x d.snd.fst)) d.snd.snd.fst.snd.snd.fst) ≤
  (1 : Int))) =
  false →
  In64 (U.fr d.snd.snd.fst + (↑x_7 : Int) + (1 : Int)) ∧
  ∃ (x' : Nat),
  ((U.fr d.snd.snd.fst + (↑x_7 : Int) + (1 : Int) = U.fr d.snd.snd.fst + (↑x' : Int) ∧ True) ∧ True) ∧
  x' ≤ (U.to d.snd.snd.fst - U.fr d.snd.snd.fst).toNat ∧ (U.to d.snd.snd.fst - U.fr d.snd.snd.fst).toNat - x' < (U.to d.snd.snd.fst - U.fr d.snd.snd.fst).toNat - x_7)) ∧
  (decide (U.fr d.snd.snd.fst + (↑x_7 : Int) < d.snd.snd.fst.snd.snd.snd.snd.fst) = false → (true, ()) = (true, ())))))))

theorem vc4_eq : fnVC (ctx 141 [(13, sp13), (15, sp15), (17, sp17), (18, sp18)] [(12, so12)]) (an4) Try.f4 (bodyOf Try.f4) sp4 = vc4 := by kernel_rfl


def sp5 : Spec := lawSpec [tF, .slice tG, tSpot]
def an5 : Ann := fun r => match r with
  | 7 => some fun σ => { X := Nat, sl := fun i => [(14, .dat .int (i : Int)), (13, .dat .int (U.sumI ((gd tF σ 0).1.take i)))], ob := fun _ => [], inv := fun i => i ≤ (gd tF σ 0).1.length, mu := fun i => (gd tF σ 0).1.length - i }
  | _ => none
def vc5 : Prop :=
  ∀ (d : (List Int × Int × Unit) × List (Int × Int × Int × Int × Int × Int × Unit) × (Int × Int × Int × Int × Int × Unit) × Unit),
  fitsAll (1048576 : Nat)
  [Ty.int.slice.pair (Ty.int.pair Ty.unit), (Ty.int.pair (Ty.int.pair (Ty.int.pair (Ty.int.pair (Ty.int.pair (Ty.int.pair Ty.unit)))))).slice, Ty.int.pair (Ty.int.pair (Ty.int.pair (Ty.int.pair (Ty.int.pair Ty.unit))))] d →
  ((!U.valid (d.fst.fst, d.fst.snd.fst, ()) d.snd.fst || !U.areAuthors d.snd.snd.fst.snd.snd.fst d.snd.snd.fst.snd.snd.snd.fst) = true → (true, ()) = (true, ())) ∧
  ((!U.valid (d.fst.fst, d.fst.snd.fst, ()) d.snd.fst || !U.areAuthors d.snd.snd.fst.snd.snd.fst d.snd.snd.fst.snd.snd.snd.fst) = false →
  (U.check (d.fst.fst, d.fst.snd.fst, ()) d.snd.fst = (0 : Int) → d.snd.fst.length ≤ (12 : Nat)) ∧
  (U.check (d.fst.fst, d.fst.snd.fst, ()) d.snd.fst = (0 : Int) → d.snd.fst.length ≤ (12 : Nat)) ∧
  (∃ (x : Nat), (((0 : Int) = (↑x : Int) ∧ (0 : Int) = U.sumI (List.take x d.fst.fst) ∧ True) ∧ True) ∧ x ≤ d.fst.fst.length) ∧
  ∀ (x : Nat),
  x ≤ d.fst.fst.length →
  d.fst.fst.length < (4611686018427387904 : Nat) →
  (decide ((↑x : Int) < (↑d.fst.fst.length : Int)) = true →
  (0 : Int) ≤ (↑x : Int) ∧
  (↑x : Int) < (↑d.fst.fst.length : Int) ∧
  In64 (U.sumI (List.take x d.fst.fst) + nth d.fst.fst (↑x : Int).toNat) ∧
  In64 ((↑x : Int) + (1 : Int)) ∧
  ∃ (x' : Nat),
  (((↑x : Int) + (1 : Int) = (↑x' : Int) ∧ U.sumI (List.take x d.fst.fst) + nth d.fst.fst (↑x : Int).toNat = U.sumI (List.take x' d.fst.fst) ∧ True) ∧ True) ∧
  x' ≤ d.fst.fst.length ∧ d.fst.fst.length - x' < d.fst.fst.length - x) ∧
  (decide ((↑x : Int) < (↑d.fst.fst.length : Int)) = false →
  ((decide (U.authErr (d.fst.fst, d.fst.snd.fst, ()) d.snd.fst d.snd.snd.fst.snd.snd.fst d.snd.snd.fst.snd.snd.snd.fst ≠ (0 : Int)) ||
  decide (U.authErr (d.fst.fst, d.fst.snd.fst, ()) d.snd.fst d.snd.snd.fst.snd.snd.snd.fst d.snd.snd.fst.snd.snd.fst ≠ (0 : Int)) ||
  decide
  ((if U.authErr (d.fst.fst, d.fst.snd.fst, ()) d.snd.fst d.snd.snd.fst.snd.snd.fst d.snd.snd.fst.snd.snd.snd.fst = (0 : Int) then
  U.both (U.heldG d.snd.fst) d.snd.snd.fst.snd.snd.fst d.snd.snd.fst.snd.snd.snd.fst
  else (0 : Int)) ≠
  if U.authErr (d.fst.fst, d.fst.snd.fst, ()) d.snd.fst d.snd.snd.fst.snd.snd.snd.fst d.snd.snd.fst.snd.snd.fst = (0 : Int) then
  U.both (U.heldG d.snd.fst) d.snd.snd.fst.snd.snd.snd.fst d.snd.snd.fst.snd.snd.fst
  else (0 : Int)) ||
  decide
  ((if U.authErr (d.fst.fst, d.fst.snd.fst, ()) d.snd.fst d.snd.snd.fst.snd.snd.fst d.snd.snd.fst.snd.snd.snd.fst = (0 : Int) then
  U.same (U.heldG d.snd.fst) d.snd.snd.fst.snd.snd.fst d.snd.snd.fst.snd.snd.snd.fst
  else (0 : Int)) ≠
  if U.authErr (d.fst.fst, d.fst.snd.fst, ()) d.snd.fst d.snd.snd.fst.snd.snd.snd.fst d.snd.snd.fst.snd.snd.fst = (0 : Int) then
  U.same (U.heldG d.snd.fst) d.snd.snd.fst.snd.snd.snd.fst d.snd.snd.fst.snd.snd.fst
  else (0 : Int)) ||
  decide
  ((if U.authErr (d.fst.fst, d.fst.snd.fst, ()) d.snd.fst d.snd.snd.fst.snd.snd.fst d.snd.snd.fst.snd.snd.snd.fst = (0 : Int) then
  U.same (U.heldG d.snd.fst) d.snd.snd.fst.snd.snd.fst d.snd.snd.fst.snd.snd.snd.fst
  else (0 : Int)) <
  (0 : Int)) ||
  decide
  ((if U.authErr (d.fst.fst, d.fst.snd.fst, ()) d.snd.fst d.snd.snd.fst.snd.snd.fst d.snd.snd.fst.snd.snd.snd.fst = (0 : Int) then
  U.both (U.heldG d.snd.fst) d.snd.snd.fst.snd.snd.fst d.snd.snd.fst.snd.snd.snd.fst
  else (0 : Int)) <
  if U.authErr (d.fst.fst, d.fst.snd.fst, ()) d.snd.fst d.snd.snd.fst.snd.snd.fst d.snd.snd.fst.snd.snd.snd.fst = (0 : Int) then
  U.same (U.heldG d.snd.fst) d.snd.snd.fst.snd.snd.fst d.snd.snd.fst.snd.snd.snd.fst
  else (0 : Int)) ||
  decide
  (U.sumI (List.take x d.fst.fst) <
  if U.authErr (d.fst.fst, d.fst.snd.fst, ()) d.snd.fst d.snd.snd.fst.snd.snd.fst d.snd.snd.fst.snd.snd.snd.fst = (0 : Int) then
  U.both (U.heldG d.snd.fst) d.snd.snd.fst.snd.snd.fst d.snd.snd.fst.snd.snd.snd.fst
  else (0 : Int))) =
  true →
  (false, ()) = (true, ())) ∧
  ((decide (U.authErr (d.fst.fst, d.fst.snd.fst, ()) d.snd.fst d.snd.snd.fst.snd.snd.fst d.snd.snd.fst.snd.snd.snd.fst ≠ (0 : Int)) ||
  decide (U.authErr (d.fst.fst, d.fst.snd.fst, ()) d.snd.fst d.snd.snd.fst.snd.snd.snd.fst d.snd.snd.fst.snd.snd.fst ≠ (0 : Int)) ||
  decide
  ((if U.authErr (d.fst.fst, d.fst.snd.fst, ()) d.snd.fst d.snd.snd.fst.snd.snd.fst d.snd.snd.fst.snd.snd.snd.fst = (0 : Int) then
  U.both (U.heldG d.snd.fst) d.snd.snd.fst.snd.snd.fst d.snd.snd.fst.snd.snd.snd.fst
  else (0 : Int)) ≠
  if U.authErr (d.fst.fst, d.fst.snd.fst, ()) d.snd.fst d.snd.snd.fst.snd.snd.snd.fst d.snd.snd.fst.snd.snd.fst = (0 : Int) then
  U.both (U.heldG d.snd.fst) d.snd.snd.fst.snd.snd.snd.fst d.snd.snd.fst.snd.snd.fst
  else (0 : Int)) ||
  decide
  ((if U.authErr (d.fst.fst, d.fst.snd.fst, ()) d.snd.fst d.snd.snd.fst.snd.snd.fst d.snd.snd.fst.snd.snd.snd.fst = (0 : Int) then
  U.same (U.heldG d.snd.fst) d.snd.snd.fst.snd.snd.fst d.snd.snd.fst.snd.snd.snd.fst
  else (0 : Int)) ≠
  if U.authErr (d.fst.fst, d.fst.snd.fst, ()) d.snd.fst d.snd.snd.fst.snd.snd.snd.fst d.snd.snd.fst.snd.snd.fst = (0 : Int) then
  U.same (U.heldG d.snd.fst) d.snd.snd.fst.snd.snd.snd.fst d.snd.snd.fst.snd.snd.fst
  else (0 : Int)) ||
  decide
  ((if U.authErr (d.fst.fst, d.fst.snd.fst, ()) d.snd.fst d.snd.snd.fst.snd.snd.fst d.snd.snd.fst.snd.snd.snd.fst = (0 : Int) then
  U.same (U.heldG d.snd.fst) d.snd.snd.fst.snd.snd.fst d.snd.snd.fst.snd.snd.snd.fst
  else (0 : Int)) <
  (0 : Int)) ||
  decide
  ((if U.authErr (d.fst.fst, d.fst.snd.fst, ()) d.snd.fst d.snd.snd.fst.snd.snd.fst d.snd.snd.fst.snd.snd.snd.fst = (0 : Int) then
  U.both (U.heldG d.snd.fst) d.snd.snd.fst.snd.snd.fst d.snd.snd.fst.snd.snd.snd.fst
  else (0 : Int)) <
  if U.authErr (d.fst.fst, d.fst.snd.fst, ()) d.snd.fst d.snd.snd.fst.snd.snd.fst d.snd.snd.fst.snd.snd.snd.fst = (0 : Int) then
  U.same (U.heldG d.snd.fst) d.snd.snd.fst.snd.snd.fst d.snd.snd.fst.snd.snd.snd.fst
  else (0 : Int)) ||
  decide
  (U.sumI (List.take x d.fst.fst) <
  if U.authErr (d.fst.fst, d.fst.snd.fst, ()) d.snd.fst d.snd.snd.fst.snd.snd.fst d.snd.snd.fst.snd.snd.snd.fst = (0 : Int) then
  U.both (U.heldG d.snd.fst) d.snd.snd.fst.snd.snd.fst d.snd.snd.fst.snd.snd.snd.fst
  else (0 : Int))) =
  false →
  (decide (U.frameErr (d.fst.fst, d.fst.snd.fst, ()) d.snd.fst d.snd.snd.fst.fst d.snd.snd.fst.snd.fst ≠ (0 : Int)) = true → (true, ()) = (true, ())) ∧
  (decide (U.frameErr (d.fst.fst, d.fst.snd.fst, ()) d.snd.fst d.snd.snd.fst.fst d.snd.snd.fst.snd.fst ≠ (0 : Int)) = false →
  d.snd.fst.length ≤ (100000 : Nat) ∧
  (∀ (g : Int × Int × Int × Int × Int × Int × Unit), g ∈ d.snd.fst → (0 : Int) < U.to g ∧ U.to g ≤ (1000 : Int)) ∧
  (U.check (d.fst.fst, d.fst.snd.fst, ()) d.snd.fst = (0 : Int) → d.snd.fst.length ≤ (12 : Nat)) ∧
  (((!decide (U.filmErr (d.fst.fst, d.fst.snd.fst, ()) d.snd.fst d.snd.snd.fst.fst ≠ (0 : Int))) = true →
  (U.readings (d.fst.fst, d.fst.snd.fst, ()) d.snd.fst d.snd.snd.fst.fst).length < (4611686018427387904 : Nat)) →
  ((!decide (U.filmErr (d.fst.fst, d.fst.snd.fst, ()) d.snd.fst d.snd.snd.fst.fst ≠ (0 : Int))) = true → (0 : Int) ≤ d.snd.snd.fst.fst) ∧
  ((!decide (U.filmErr (d.fst.fst, d.fst.snd.fst, ()) d.snd.fst d.snd.snd.fst.fst ≠ (0 : Int))) = true → d.snd.snd.fst.fst < (↑d.fst.fst.length : Int)) ∧
  ((decide (U.filmErr (d.fst.fst, d.fst.snd.fst, ()) d.snd.fst d.snd.snd.fst.fst ≠ (0 : Int)) ||
  decide (nth d.fst.fst d.snd.snd.fst.fst.toNat < (↑(U.readings (d.fst.fst, d.fst.snd.fst, ()) d.snd.fst d.snd.snd.fst.fst).length : Int))) =
  true →
  (false, ()) = (true, ())) ∧
  ((decide (U.filmErr (d.fst.fst, d.fst.snd.fst, ()) d.snd.fst d.snd.snd.fst.fst ≠ (0 : Int)) ||
  decide (nth d.fst.fst d.snd.snd.fst.fst.toNat < (↑(U.readings (d.fst.fst, d.fst.snd.fst, ()) d.snd.fst d.snd.snd.fst.fst).length : Int))) =
  false →
  (U.readings (d.fst.fst, d.fst.snd.fst, ()) d.snd.fst d.snd.snd.fst.fst).length ≤ (100000 : Nat) ∧
  ((decide (U.readN d.snd.snd.fst.snd.fst (U.readings (d.fst.fst, d.fst.snd.fst, ()) d.snd.fst d.snd.snd.fst.fst) ≤ (1 : Int)) &&
  !decide ((↑(U.at' d.snd.fst d.snd.snd.fst.fst d.snd.snd.fst.snd.fst).length : Int) ≠ (2 : Int))) =
  true →
  (0 : Int) ≤ (0 : Int)) ∧
  ((decide (U.readN d.snd.snd.fst.snd.fst (U.readings (d.fst.fst, d.fst.snd.fst, ()) d.snd.fst d.snd.snd.fst.fst) ≤ (1 : Int)) &&
  !decide ((↑(U.at' d.snd.fst d.snd.snd.fst.fst d.snd.snd.fst.snd.fst).length : Int) ≠ (2 : Int))) =
  true →
  (0 : Int) < (↑(U.at' d.snd.fst d.snd.snd.fst.fst d.snd.snd.fst.snd.fst).length : Int)) ∧
  ((decide (U.readN d.snd.snd.fst.snd.fst (U.readings (d.fst.fst, d.fst.snd.fst, ()) d.snd.fst d.snd.snd.fst.fst) ≤ (1 : Int)) &&
  !decide ((↑(U.at' d.snd.fst d.snd.snd.fst.fst d.snd.snd.fst.snd.fst).length : Int) ≠ (2 : Int))) =
  true →
  (0 : Int) ≤ (1 : Int)) ∧
  ((decide (U.readN d.snd.snd.fst.snd.fst (U.readings (d.fst.fst, d.fst.snd.fst, ()) d.snd.fst d.snd.snd.fst.fst) ≤ (1 : Int)) &&
  !decide ((↑(U.at' d.snd.fst d.snd.snd.fst.fst d.snd.snd.fst.snd.fst).length : Int) ≠ (2 : Int))) =
  true →
  (1 : Int) < (↑(U.at' d.snd.fst d.snd.snd.fst.fst d.snd.snd.fst.snd.fst).length : Int)) ∧
  (decide (U.readN d.snd.snd.fst.snd.fst (U.readings (d.fst.fst, d.fst.snd.fst, ()) d.snd.fst d.snd.snd.fst.fst) ≤ (1 : Int)) &&
  (decide ((↑(U.at' d.snd.fst d.snd.snd.fst.fst d.snd.snd.fst.snd.fst).length : Int) ≠ (2 : Int)) ||
  decide
  (band (nth (U.at' d.snd.fst d.snd.snd.fst.fst d.snd.snd.fst.snd.fst) (Int.toNat (0 : Int))).snd.snd.snd.snd.snd.fst
  (nth (U.at' d.snd.fst d.snd.snd.fst.fst d.snd.snd.fst.snd.fst) (Int.toNat (1 : Int))).snd.snd.snd.snd.snd.fst =
  (0 : Int)) ||
  decide (U.size (U.readS d.snd.snd.fst.snd.fst (U.readings (d.fst.fst, d.fst.snd.fst, ()) d.snd.fst d.snd.snd.fst.fst)) = (1 : Int))) &&
  true,
  ()) =
  (true, ())))))))

theorem vc5_eq : fnVC (ctx 168 [(13, sp13), (14, sp14), (15, sp15), (16, sp16), (17, sp17), (18, sp18), (19, sp19), (20, sp20), (21, sp21)] []) (an5) Try.f5 (bodyOf Try.f5) sp5 = vc5 := by kernel_rfl


def sp50 : Spec := ⟨[.val tFs, .val (.slice tG), .val .int, .val .int], [.slice tG, .int], false, fun d => [U.check d.1.1 d.2.1 = 0 → d.2.1.length ≤ 12], fun d => (if U.frmErr d.1.1 d.2.1 d.2.2.1 d.2.2.2.1 = 0 then (U.heldG d.2.1).filter (U.inFrame d.2.2.1 d.2.2.2.1) else [], U.frmErr d.1.1 d.2.1 d.2.2.1 d.2.2.2.1, ())⟩
def vc50 : Prop :=
  ∀ (d : ((List Int × Int × Unit) × Unit) × List (Int × Int × Int × Int × Int × Int × Unit) × Int × Int × Unit),
  (U.check d.fst.fst d.snd.fst = (0 : Int) → d.snd.fst.length ≤ (12 : Nat)) →
  (decide (U.check (d.fst.fst.fst, d.fst.fst.snd.fst, ()) d.snd.fst ≠ (0 : Int)) = true →
  ([], U.check (d.fst.fst.fst, d.fst.fst.snd.fst, ()) d.snd.fst, ()) =
  (if U.frmErr d.fst.fst d.snd.fst d.snd.snd.fst d.snd.snd.snd.fst = (0 : Int) then List.filter (U.inFrame d.snd.snd.fst d.snd.snd.snd.fst) (U.heldG d.snd.fst) else [], U.frmErr d.fst.fst d.snd.fst d.snd.snd.fst d.snd.snd.snd.fst,
  ())) ∧
  (decide (U.check (d.fst.fst.fst, d.fst.fst.snd.fst, ()) d.snd.fst ≠ (0 : Int)) = false →
  ((!(!decide ((0 : Int) ≤ d.snd.snd.fst ∧ d.snd.snd.fst < (↑d.fst.fst.fst.length : Int)) || decide (d.snd.snd.snd.fst < (0 : Int)))) = true → (0 : Int) ≤ d.snd.snd.fst) ∧
  ((!(!decide ((0 : Int) ≤ d.snd.snd.fst ∧ d.snd.snd.fst < (↑d.fst.fst.fst.length : Int)) || decide (d.snd.snd.snd.fst < (0 : Int)))) = true → d.snd.snd.fst < (↑d.fst.fst.fst.length : Int)) ∧
  ((!decide ((0 : Int) ≤ d.snd.snd.fst ∧ d.snd.snd.fst < (↑d.fst.fst.fst.length : Int)) || decide (d.snd.snd.snd.fst < (0 : Int)) || decide (nth d.fst.fst.fst d.snd.snd.fst.toNat ≤ d.snd.snd.snd.fst)) = true →
  ([], (1 : Int), ()) =
  (if U.frmErr d.fst.fst d.snd.fst d.snd.snd.fst d.snd.snd.snd.fst = (0 : Int) then List.filter (U.inFrame d.snd.snd.fst d.snd.snd.snd.fst) (U.heldG d.snd.fst) else [],
  U.frmErr d.fst.fst d.snd.fst d.snd.snd.fst d.snd.snd.snd.fst, ())) ∧
  ((!decide ((0 : Int) ≤ d.snd.snd.fst ∧ d.snd.snd.fst < (↑d.fst.fst.fst.length : Int)) || decide (d.snd.snd.snd.fst < (0 : Int)) || decide (nth d.fst.fst.fst d.snd.snd.fst.toNat ≤ d.snd.snd.snd.fst)) = false →
  d.snd.fst.length ≤ (12 : Nat) ∧
  (∀ (g : Int × Int × Int × Int × Int × Int × Unit), g ∈ d.snd.fst → U.small g) ∧
  (U.heldG d.snd.fst).length ≤ (100000 : Nat) ∧
  (List.filter (U.inFrame d.snd.snd.fst d.snd.snd.snd.fst) (U.heldG d.snd.fst), (0 : Int), ()) =
  (if U.frmErr d.fst.fst d.snd.fst d.snd.snd.fst d.snd.snd.snd.fst = (0 : Int) then List.filter (U.inFrame d.snd.snd.fst d.snd.snd.snd.fst) (U.heldG d.snd.fst) else [],
  U.frmErr d.fst.fst d.snd.fst d.snd.snd.fst d.snd.snd.snd.fst, ())))

theorem vc50_eq : fnVC (ctx 41 [(37, sp37), (44, sp44), (45, sp45), (47, sp47)] []) (fun _ => none) Try.f50 (bodyOf Try.f50) sp50 = vc50 := by kernel_rfl


def sp22 : Spec := ⟨[.val tF, .val (.slice tG), .val .int, .val .int], [.int, .int, .int], false, fun d => [U.check d.1 d.2.1 = 0 → d.2.1.length ≤ 12], fun d => (U.sureG d.1 d.2.1 d.2.2.1 d.2.2.2.1, U.mayG d.1 d.2.1 d.2.2.1 d.2.2.2.1, U.frmErr d.1 d.2.1 d.2.2.1 d.2.2.2.1, ())⟩
def an22 : Ann := fun r => match r with
  | 7 => some fun σ => { X := Nat, sl := fun j => [(36, .dat .int (j : Int)), (8, .dat .int (U.andAll ((gd (.slice .int) σ 34).take j) (gd .int σ 8))), (9, .dat .int (U.orAll ((gd (.slice .int) σ 34).take j) (gd .int σ 9)))], ob := fun _ => [], inv := fun j => j ≤ (gd (.slice .int) σ 34).length, mu := fun j => (gd (.slice .int) σ 34).length - j }
  | _ => none
def vc22 : Prop :=
  ∀ (d : (List Int × Int × Unit) × List (Int × Int × Int × Int × Int × Int × Unit) × Int × Int × Unit),
  (U.check d.fst d.snd.fst = (0 : Int) → d.snd.fst.length ≤ (12 : Nat)) →
  (U.check (d.fst.fst, d.fst.snd.fst, ()) d.snd.fst = (0 : Int) → d.snd.fst.length ≤ (12 : Nat)) ∧
  (decide (U.frmErr (d.fst.fst, d.fst.snd.fst, ()) d.snd.fst d.snd.snd.fst d.snd.snd.snd.fst ≠ (0 : Int)) = true →
  ((0 : Int), (0 : Int), U.frmErr (d.fst.fst, d.fst.snd.fst, ()) d.snd.fst d.snd.snd.fst d.snd.snd.snd.fst, ()) =
  (U.sureG d.fst d.snd.fst d.snd.snd.fst d.snd.snd.snd.fst, U.mayG d.fst d.snd.fst d.snd.snd.fst d.snd.snd.snd.fst, U.frmErr d.fst d.snd.fst d.snd.snd.fst d.snd.snd.snd.fst, ())) ∧
  (decide (U.frmErr (d.fst.fst, d.fst.snd.fst, ()) d.snd.fst d.snd.snd.fst d.snd.snd.snd.fst ≠ (0 : Int)) = false →
  (0 : Int) ≤ d.fst.snd.fst ∧
  d.fst.snd.fst ≤ (64 : Int) ∧
  In64 ((1 : Int) * (2 : Int) ^ d.fst.snd.fst.toNat) ∧
  In64 ((1 : Int) * (2 : Int) ^ d.fst.snd.fst.toNat - (1 : Int)) ∧
  ((1 : Int) ≤ d.fst.snd.fst ∧ d.fst.snd.fst ≤ (10 : Int)) ∧
  ((U.smallest d.fst.snd.fst
  (if U.frmErr (d.fst.fst, d.fst.snd.fst, ()) d.snd.fst d.snd.snd.fst d.snd.snd.snd.fst = (0 : Int) then List.filter (U.inFrame d.snd.snd.fst d.snd.snd.snd.fst) (U.heldG d.snd.fst) else [])).length <
  (4611686018427387904 : Nat) →
  (∃ (x : Nat),
  (((0 : Int) = (↑x : Int) ∧
  (1 : Int) * (2 : Int) ^ d.fst.snd.fst.toNat - (1 : Int) =
  U.andAll
  (List.take x
  (U.smallest d.fst.snd.fst
  (if U.frmErr (d.fst.fst, d.fst.snd.fst, ()) d.snd.fst d.snd.snd.fst d.snd.snd.snd.fst = (0 : Int) then List.filter (U.inFrame d.snd.snd.fst d.snd.snd.snd.fst) (U.heldG d.snd.fst) else [])))
  ((1 : Int) * (2 : Int) ^ d.fst.snd.fst.toNat - (1 : Int)) ∧
  (0 : Int) =
  U.orAll
  (List.take x
  (U.smallest d.fst.snd.fst
  (if U.frmErr (d.fst.fst, d.fst.snd.fst, ()) d.snd.fst d.snd.snd.fst d.snd.snd.snd.fst = (0 : Int) then List.filter (U.inFrame d.snd.snd.fst d.snd.snd.snd.fst) (U.heldG d.snd.fst) else [])))
  (0 : Int) ∧
  True) ∧
  True) ∧
  x ≤
  (U.smallest d.fst.snd.fst
  (if U.frmErr (d.fst.fst, d.fst.snd.fst, ()) d.snd.fst d.snd.snd.fst d.snd.snd.snd.fst = (0 : Int) then List.filter (U.inFrame d.snd.snd.fst d.snd.snd.snd.fst) (U.heldG d.snd.fst) else [])).length) ∧
  ∀ (x : Nat),
  x ≤
  (U.smallest d.fst.snd.fst
  (if U.frmErr (d.fst.fst, d.fst.snd.fst, ()) d.snd.fst d.snd.snd.fst d.snd.snd.snd.fst = (0 : Int) then List.filter (U.inFrame d.snd.snd.fst d.snd.snd.snd.fst) (U.heldG d.snd.fst) else [])).length →
  (decide
  ((↑x : Int) <
  (↑(U.smallest d.fst.snd.fst
  (if U.frmErr (d.fst.fst, d.fst.snd.fst, ()) d.snd.fst d.snd.snd.fst d.snd.snd.snd.fst = (0 : Int) then List.filter (U.inFrame d.snd.snd.fst d.snd.snd.snd.fst) (U.heldG d.snd.fst)
  else [])).length :
  Int)) =
  true →
  (0 : Int) ≤ (↑x : Int) ∧
  (↑x : Int) <
  (↑(U.smallest d.fst.snd.fst
  (if U.frmErr (d.fst.fst, d.fst.snd.fst, ()) d.snd.fst d.snd.snd.fst d.snd.snd.snd.fst = (0 : Int) then List.filter (U.inFrame d.snd.snd.fst d.snd.snd.snd.fst) (U.heldG d.snd.fst)
  else [])).length :
  Int) ∧
  In64 ((↑x : Int) + (1 : Int)) ∧
  ∃ (x' : Nat),
  (((↑x : Int) + (1 : Int) = (↑x' : Int) ∧
  bor
  (U.orAll
  (List.take x
  (U.smallest d.fst.snd.fst
  (if U.frmErr (d.fst.fst, d.fst.snd.fst, ()) d.snd.fst d.snd.snd.fst d.snd.snd.snd.fst = (0 : Int) then List.filter (U.inFrame d.snd.snd.fst d.snd.snd.snd.fst) (U.heldG d.snd.fst)
  else [])))
  (0 : Int))
  (nth
  (U.smallest d.fst.snd.fst
  (if U.frmErr (d.fst.fst, d.fst.snd.fst, ()) d.snd.fst d.snd.snd.fst d.snd.snd.snd.fst = (0 : Int) then List.filter (U.inFrame d.snd.snd.fst d.snd.snd.snd.fst) (U.heldG d.snd.fst)
  else []))
  (↑x : Int).toNat) =
  U.orAll
  (List.take x'
  (U.smallest d.fst.snd.fst
  (if U.frmErr (d.fst.fst, d.fst.snd.fst, ()) d.snd.fst d.snd.snd.fst d.snd.snd.snd.fst = (0 : Int) then List.filter (U.inFrame d.snd.snd.fst d.snd.snd.snd.fst) (U.heldG d.snd.fst)
  else [])))
  (0 : Int) ∧
  band
  (U.andAll
  (List.take x
  (U.smallest d.fst.snd.fst
  (if U.frmErr (d.fst.fst, d.fst.snd.fst, ()) d.snd.fst d.snd.snd.fst d.snd.snd.snd.fst = (0 : Int) then List.filter (U.inFrame d.snd.snd.fst d.snd.snd.snd.fst) (U.heldG d.snd.fst)
  else [])))
  ((1 : Int) * (2 : Int) ^ d.fst.snd.fst.toNat - (1 : Int)))
  (nth
  (U.smallest d.fst.snd.fst
  (if U.frmErr (d.fst.fst, d.fst.snd.fst, ()) d.snd.fst d.snd.snd.fst d.snd.snd.snd.fst = (0 : Int) then List.filter (U.inFrame d.snd.snd.fst d.snd.snd.snd.fst) (U.heldG d.snd.fst)
  else []))
  (↑x : Int).toNat) =
  U.andAll
  (List.take x'
  (U.smallest d.fst.snd.fst
  (if U.frmErr (d.fst.fst, d.fst.snd.fst, ()) d.snd.fst d.snd.snd.fst d.snd.snd.snd.fst = (0 : Int) then List.filter (U.inFrame d.snd.snd.fst d.snd.snd.snd.fst) (U.heldG d.snd.fst)
  else [])))
  ((1 : Int) * (2 : Int) ^ d.fst.snd.fst.toNat - (1 : Int)) ∧
  True) ∧
  True) ∧
  x' ≤
  (U.smallest d.fst.snd.fst
  (if U.frmErr (d.fst.fst, d.fst.snd.fst, ()) d.snd.fst d.snd.snd.fst d.snd.snd.snd.fst = (0 : Int) then List.filter (U.inFrame d.snd.snd.fst d.snd.snd.snd.fst) (U.heldG d.snd.fst)
  else [])).length ∧
  (U.smallest d.fst.snd.fst
  (if U.frmErr (d.fst.fst, d.fst.snd.fst, ()) d.snd.fst d.snd.snd.fst d.snd.snd.snd.fst = (0 : Int) then List.filter (U.inFrame d.snd.snd.fst d.snd.snd.snd.fst) (U.heldG d.snd.fst)
  else [])).length -
  x' <
  (U.smallest d.fst.snd.fst
  (if U.frmErr (d.fst.fst, d.fst.snd.fst, ()) d.snd.fst d.snd.snd.fst d.snd.snd.snd.fst = (0 : Int) then List.filter (U.inFrame d.snd.snd.fst d.snd.snd.snd.fst) (U.heldG d.snd.fst)
  else [])).length -
  x) ∧
  (decide
  ((↑x : Int) <
  (↑(U.smallest d.fst.snd.fst
  (if U.frmErr (d.fst.fst, d.fst.snd.fst, ()) d.snd.fst d.snd.snd.fst d.snd.snd.snd.fst = (0 : Int) then List.filter (U.inFrame d.snd.snd.fst d.snd.snd.snd.fst) (U.heldG d.snd.fst)
  else [])).length :
  Int)) =
  false →
  (U.andAll
  (List.take x
  (U.smallest d.fst.snd.fst
  (if U.frmErr (d.fst.fst, d.fst.snd.fst, ()) d.snd.fst d.snd.snd.fst d.snd.snd.snd.fst = (0 : Int) then List.filter (U.inFrame d.snd.snd.fst d.snd.snd.snd.fst) (U.heldG d.snd.fst) else [])))
  ((1 : Int) * (2 : Int) ^ d.fst.snd.fst.toNat - (1 : Int)),
  U.orAll
  (List.take x
  (U.smallest d.fst.snd.fst
  (if U.frmErr (d.fst.fst, d.fst.snd.fst, ()) d.snd.fst d.snd.snd.fst d.snd.snd.snd.fst = (0 : Int) then List.filter (U.inFrame d.snd.snd.fst d.snd.snd.snd.fst) (U.heldG d.snd.fst) else [])))
  (0 : Int),
  (0 : Int), ()) =
  (U.sureG d.fst d.snd.fst d.snd.snd.fst d.snd.snd.snd.fst, U.mayG d.fst d.snd.fst d.snd.snd.fst d.snd.snd.snd.fst, U.frmErr d.fst d.snd.fst d.snd.snd.fst d.snd.snd.snd.fst, ()))))

theorem vc22_eq : fnVC (ctx 49 [(50, sp50), (46, sp46)] []) (an22) Try.f22 (bodyOf Try.f22) sp22 = vc22 := by kernel_rfl


def sp6 : Spec := lawSpec [tF, .slice tG, tSpot]
def vc6 : Prop :=
  ∀ (d : (List Int × Int × Unit) × List (Int × Int × Int × Int × Int × Int × Unit) × (Int × Int × Int × Int × Int × Unit) × Unit),
  fitsAll (1048576 : Nat)
  [Ty.int.slice.pair (Ty.int.pair Ty.unit), (Ty.int.pair (Ty.int.pair (Ty.int.pair (Ty.int.pair (Ty.int.pair (Ty.int.pair Ty.unit)))))).slice, Ty.int.pair (Ty.int.pair (Ty.int.pair (Ty.int.pair (Ty.int.pair Ty.unit))))] d →
  ((!U.valid (d.fst.fst, d.fst.snd.fst, ()) d.snd.fst || decide (U.frameErr (d.fst.fst, d.fst.snd.fst, ()) d.snd.fst d.snd.snd.fst.fst d.snd.snd.fst.snd.fst ≠ (0 : Int))) = true → (true, ()) = (true, ())) ∧
  ((!U.valid (d.fst.fst, d.fst.snd.fst, ()) d.snd.fst || decide (U.frameErr (d.fst.fst, d.fst.snd.fst, ()) d.snd.fst d.snd.snd.fst.fst d.snd.snd.fst.snd.fst ≠ (0 : Int))) = false →
  (U.check (d.fst.fst, d.fst.snd.fst, ()) d.snd.fst = (0 : Int) → d.snd.fst.length ≤ (12 : Nat)) ∧
  (U.check (d.fst.fst, d.fst.snd.fst, ()) d.snd.fst = (0 : Int) → d.snd.fst.length ≤ (12 : Nat)) ∧
  (((!(decide (U.filmErr (d.fst.fst, d.fst.snd.fst, ()) d.snd.fst d.snd.snd.fst.fst ≠ (0 : Int)) || decide (U.frmErr (d.fst.fst, d.fst.snd.fst, ()) d.snd.fst d.snd.snd.fst.fst d.snd.snd.fst.snd.fst ≠ (0 : Int)))) = true →
  (U.readings (d.fst.fst, d.fst.snd.fst, ()) d.snd.fst d.snd.snd.fst.fst).length < (4611686018427387904 : Nat)) →
  ((!(decide (U.filmErr (d.fst.fst, d.fst.snd.fst, ()) d.snd.fst d.snd.snd.fst.fst ≠ (0 : Int)) || decide (U.frmErr (d.fst.fst, d.fst.snd.fst, ()) d.snd.fst d.snd.snd.fst.fst d.snd.snd.fst.snd.fst ≠ (0 : Int)))) = true →
  (0 : Int) ≤ d.snd.snd.fst.fst) ∧
  ((!(decide (U.filmErr (d.fst.fst, d.fst.snd.fst, ()) d.snd.fst d.snd.snd.fst.fst ≠ (0 : Int)) || decide (U.frmErr (d.fst.fst, d.fst.snd.fst, ()) d.snd.fst d.snd.snd.fst.fst d.snd.snd.fst.snd.fst ≠ (0 : Int)))) = true →
  d.snd.snd.fst.fst < (↑d.fst.fst.length : Int)) ∧
  ((decide (U.filmErr (d.fst.fst, d.fst.snd.fst, ()) d.snd.fst d.snd.snd.fst.fst ≠ (0 : Int)) || decide (U.frmErr (d.fst.fst, d.fst.snd.fst, ()) d.snd.fst d.snd.snd.fst.fst d.snd.snd.fst.snd.fst ≠ (0 : Int)) ||
  decide (nth d.fst.fst d.snd.snd.fst.fst.toNat < (↑(U.readings (d.fst.fst, d.fst.snd.fst, ()) d.snd.fst d.snd.snd.fst.fst).length : Int))) =
  true →
  (false, ()) = (true, ())) ∧
  ((decide (U.filmErr (d.fst.fst, d.fst.snd.fst, ()) d.snd.fst d.snd.snd.fst.fst ≠ (0 : Int)) || decide (U.frmErr (d.fst.fst, d.fst.snd.fst, ()) d.snd.fst d.snd.snd.fst.fst d.snd.snd.fst.snd.fst ≠ (0 : Int)) ||
  decide (nth d.fst.fst d.snd.snd.fst.fst.toNat < (↑(U.readings (d.fst.fst, d.fst.snd.fst, ()) d.snd.fst d.snd.snd.fst.fst).length : Int))) =
  false →
  (U.readings (d.fst.fst, d.fst.snd.fst, ()) d.snd.fst d.snd.snd.fst.fst).length ≤ (100000 : Nat) ∧
  d.snd.fst.length ≤ (100000 : Nat) ∧
  (∀ (g : Int × Int × Int × Int × Int × Int × Unit), g ∈ d.snd.fst → (0 : Int) < U.to g ∧ U.to g ≤ (1000 : Int)) ∧
  ((!(!decide (U.readN d.snd.snd.fst.snd.fst (U.readings (d.fst.fst, d.fst.snd.fst, ()) d.snd.fst d.snd.snd.fst.fst) ≤ (1 : Int)) ||
  decide (U.readS d.snd.snd.fst.snd.fst (U.readings (d.fst.fst, d.fst.snd.fst, ()) d.snd.fst d.snd.snd.fst.fst) < (0 : Int)))) =
  true →
  (0 : Int) ≤ d.fst.snd.fst) ∧
  ((!(!decide (U.readN d.snd.snd.fst.snd.fst (U.readings (d.fst.fst, d.fst.snd.fst, ()) d.snd.fst d.snd.snd.fst.fst) ≤ (1 : Int)) ||
  decide (U.readS d.snd.snd.fst.snd.fst (U.readings (d.fst.fst, d.fst.snd.fst, ()) d.snd.fst d.snd.snd.fst.fst) < (0 : Int)))) =
  true →
  d.fst.snd.fst ≤ (18446744073709551615 : Int)) ∧
  ((!(!decide (U.readN d.snd.snd.fst.snd.fst (U.readings (d.fst.fst, d.fst.snd.fst, ()) d.snd.fst d.snd.snd.fst.fst) ≤ (1 : Int)) ||
  decide (U.readS d.snd.snd.fst.snd.fst (U.readings (d.fst.fst, d.fst.snd.fst, ()) d.snd.fst d.snd.snd.fst.fst) < (0 : Int)))) =
  true →
  (0 : Int) ≤ d.fst.snd.fst) ∧
  ((!(!decide (U.readN d.snd.snd.fst.snd.fst (U.readings (d.fst.fst, d.fst.snd.fst, ()) d.snd.fst d.snd.snd.fst.fst) ≤ (1 : Int)) ||
  decide (U.readS d.snd.snd.fst.snd.fst (U.readings (d.fst.fst, d.fst.snd.fst, ()) d.snd.fst d.snd.snd.fst.fst) < (0 : Int)))) =
  true →
  d.fst.snd.fst ≤ (64 : Int)) ∧
  ((!(!decide (U.readN d.snd.snd.fst.snd.fst (U.readings (d.fst.fst, d.fst.snd.fst, ()) d.snd.fst d.snd.snd.fst.fst) ≤ (1 : Int)) ||
  decide (U.readS d.snd.snd.fst.snd.fst (U.readings (d.fst.fst, d.fst.snd.fst, ()) d.snd.fst d.snd.snd.fst.fst) < (0 : Int)))) =
  true →
  In64 ((1 : Int) * (2 : Int) ^ d.fst.snd.fst.toNat)) ∧
  ((!decide (U.readN d.snd.snd.fst.snd.fst (U.readings (d.fst.fst, d.fst.snd.fst, ()) d.snd.fst d.snd.snd.fst.fst) ≤ (1 : Int)) ||
  decide (U.readS d.snd.snd.fst.snd.fst (U.readings (d.fst.fst, d.fst.snd.fst, ()) d.snd.fst d.snd.snd.fst.fst) < (0 : Int)) ||
  decide ((1 : Int) * (2 : Int) ^ d.fst.snd.fst.toNat ≤ U.readS d.snd.snd.fst.snd.fst (U.readings (d.fst.fst, d.fst.snd.fst, ()) d.snd.fst d.snd.snd.fst.fst)) ||
  !U.agrees (U.readS d.snd.snd.fst.snd.fst (U.readings (d.fst.fst, d.fst.snd.fst, ()) d.snd.fst d.snd.snd.fst.fst)) (U.at' d.snd.fst d.snd.snd.fst.fst d.snd.snd.fst.snd.fst) ||
  decide
  (bandn (U.sureG (d.fst.fst, d.fst.snd.fst, ()) d.snd.fst d.snd.snd.fst.fst d.snd.snd.fst.snd.fst)
  (U.readS d.snd.snd.fst.snd.fst (U.readings (d.fst.fst, d.fst.snd.fst, ()) d.snd.fst d.snd.snd.fst.fst)) ≠
  (0 : Int)) ||
  decide
  (bandn (U.readS d.snd.snd.fst.snd.fst (U.readings (d.fst.fst, d.fst.snd.fst, ()) d.snd.fst d.snd.snd.fst.fst))
  (U.mayG (d.fst.fst, d.fst.snd.fst, ()) d.snd.fst d.snd.snd.fst.fst d.snd.snd.fst.snd.fst) ≠
  (0 : Int)) ||
  !U.agrees (U.mayG (d.fst.fst, d.fst.snd.fst, ()) d.snd.fst d.snd.snd.fst.fst d.snd.snd.fst.snd.fst) (U.at' d.snd.fst d.snd.snd.fst.fst d.snd.snd.fst.snd.fst)) =
  true →
  (false, ()) = (true, ())) ∧
  ((!decide (U.readN d.snd.snd.fst.snd.fst (U.readings (d.fst.fst, d.fst.snd.fst, ()) d.snd.fst d.snd.snd.fst.fst) ≤ (1 : Int)) ||
  decide (U.readS d.snd.snd.fst.snd.fst (U.readings (d.fst.fst, d.fst.snd.fst, ()) d.snd.fst d.snd.snd.fst.fst) < (0 : Int)) ||
  decide ((1 : Int) * (2 : Int) ^ d.fst.snd.fst.toNat ≤ U.readS d.snd.snd.fst.snd.fst (U.readings (d.fst.fst, d.fst.snd.fst, ()) d.snd.fst d.snd.snd.fst.fst)) ||
  !U.agrees (U.readS d.snd.snd.fst.snd.fst (U.readings (d.fst.fst, d.fst.snd.fst, ()) d.snd.fst d.snd.snd.fst.fst)) (U.at' d.snd.fst d.snd.snd.fst.fst d.snd.snd.fst.snd.fst) ||
  decide
  (bandn (U.sureG (d.fst.fst, d.fst.snd.fst, ()) d.snd.fst d.snd.snd.fst.fst d.snd.snd.fst.snd.fst)
  (U.readS d.snd.snd.fst.snd.fst (U.readings (d.fst.fst, d.fst.snd.fst, ()) d.snd.fst d.snd.snd.fst.fst)) ≠
  (0 : Int)) ||
  decide
  (bandn (U.readS d.snd.snd.fst.snd.fst (U.readings (d.fst.fst, d.fst.snd.fst, ()) d.snd.fst d.snd.snd.fst.fst))
  (U.mayG (d.fst.fst, d.fst.snd.fst, ()) d.snd.fst d.snd.snd.fst.fst d.snd.snd.fst.snd.fst) ≠
  (0 : Int)) ||
  !U.agrees (U.mayG (d.fst.fst, d.fst.snd.fst, ()) d.snd.fst d.snd.snd.fst.fst d.snd.snd.fst.snd.fst) (U.at' d.snd.fst d.snd.snd.fst.fst d.snd.snd.fst.snd.fst)) =
  false →
  ((!decide (d.snd.snd.fst.snd.snd.snd.snd.fst < (0 : Int))) = true → (0 : Int) ≤ d.fst.snd.fst) ∧
  ((!decide (d.snd.snd.fst.snd.snd.snd.snd.fst < (0 : Int))) = true → d.fst.snd.fst ≤ (18446744073709551615 : Int)) ∧
  ((!decide (d.snd.snd.fst.snd.snd.snd.snd.fst < (0 : Int))) = true → (0 : Int) ≤ d.fst.snd.fst) ∧
  ((!decide (d.snd.snd.fst.snd.snd.snd.snd.fst < (0 : Int))) = true → d.fst.snd.fst ≤ (64 : Int)) ∧
  ((!decide (d.snd.snd.fst.snd.snd.snd.snd.fst < (0 : Int))) = true → In64 ((1 : Int) * (2 : Int) ^ d.fst.snd.fst.toNat)) ∧
  ((decide (d.snd.snd.fst.snd.snd.snd.snd.fst < (0 : Int)) || decide ((1 : Int) * (2 : Int) ^ d.fst.snd.fst.toNat ≤ d.snd.snd.fst.snd.snd.snd.snd.fst) ||
  !U.agrees d.snd.snd.fst.snd.snd.snd.snd.fst (U.at' d.snd.fst d.snd.snd.fst.fst d.snd.snd.fst.snd.fst)) =
  true →
  (true, ()) = (true, ())) ∧
  ((decide (d.snd.snd.fst.snd.snd.snd.snd.fst < (0 : Int)) || decide ((1 : Int) * (2 : Int) ^ d.fst.snd.fst.toNat ≤ d.snd.snd.fst.snd.snd.snd.snd.fst) ||
  !U.agrees d.snd.snd.fst.snd.snd.snd.snd.fst (U.at' d.snd.fst d.snd.snd.fst.fst d.snd.snd.fst.snd.fst)) =
  false →
  ((decide (U.size (U.readS d.snd.snd.fst.snd.fst (U.readings (d.fst.fst, d.fst.snd.fst, ()) d.snd.fst d.snd.snd.fst.fst)) < U.size d.snd.snd.fst.snd.snd.snd.snd.fst) ||
  decide (U.size (U.readS d.snd.snd.fst.snd.fst (U.readings (d.fst.fst, d.fst.snd.fst, ()) d.snd.fst d.snd.snd.fst.fst)) = U.size d.snd.snd.fst.snd.snd.snd.snd.fst) &&
  decide (U.readS d.snd.snd.fst.snd.fst (U.readings (d.fst.fst, d.fst.snd.fst, ()) d.snd.fst d.snd.snd.fst.fst) ≤ d.snd.snd.fst.snd.snd.snd.snd.fst) &&
  decide (bandn (U.sureG (d.fst.fst, d.fst.snd.fst, ()) d.snd.fst d.snd.snd.fst.fst d.snd.snd.fst.snd.fst) d.snd.snd.fst.snd.snd.snd.snd.fst = (0 : Int)) &&
  decide (bandn d.snd.snd.fst.snd.snd.snd.snd.fst (U.mayG (d.fst.fst, d.fst.snd.fst, ()) d.snd.fst d.snd.snd.fst.fst d.snd.snd.fst.snd.fst) = (0 : Int))) &&
  true,
  ()) =
  (true, ()))))))

theorem vc6_eq : fnVC (ctx 171 [(13, sp13), (14, sp14), (15, sp15), (16, sp16), (17, sp17), (18, sp18), (19, sp19), (22, sp22), (23, sp23)] []) (fun _ => none) Try.f6 (bodyOf Try.f6) sp6 = vc6 := by kernel_rfl


end Go.X
/-
  What an author takes back; counting of frames.
-/
namespace Go.X
open Go.Proofs
namespace M

theorem check_sub {f : FD} {l m : List GD} (h : U.check f l = 0) (hm : ∀ g ∈ m, g ∈ l) (hlen : m.length ≤ 40) : U.check f m = 0 := by
  obtain ⟨h1, h2, _, h4⟩ := check_films h
  have hc : U.clash m = false := by
    cases e : U.clash m with
    | false => rfl
    | true =>
      obtain ⟨a, ha, b, hb, e1, e2⟩ := clash_iff.1 e
      exact absurd (noClash_of h4 a (hm a ha) b (hm b hb) e1) e2
  have ha : (m.all (U.okGloss f) && decide (m.length ≤ 40)) = true := by
    rw [Bool.and_eq_true, decide_eq_true_eq]
    exact ⟨List.all_eq_true.2 fun g hg => List.all_eq_true.1 h2 g (hm g hg), hlen⟩
  unfold U.check
  rw [if_pos h1, if_pos ha, hc]
  rfl

theorem inFrame_iff {film k : Int} {g : GD} : U.inFrame film k g = true ↔ U.fi g = film ∧ U.fr g ≤ k ∧ k < U.to g := by
  unfold U.inFrame
  rw [decide_eq_true_eq]
  omega

/-- the glosses that hold in a frame, where an author has taken back what was there -/
theorem taken_mem {f : FD} {l : List GD} {bk : GD} (h1 : Ok f (l ++ [bk])) (h2 : Ok f (U.without (U.au bk) l)) (hb : U.sg bk = 0 ∧ U.st bk = 9999) (hs : ∀ g ∈ l, U.au g = U.au bk → U.st g ≠ 9999)
    {k : Int} (hk : U.fr bk ≤ k ∧ k < U.to bk) (g : GD) : g ∈ (U.heldG (l ++ [bk])).filter (U.inFrame (U.fi bk) k) ↔ g ∈ (U.heldG (U.without (U.au bk) l)).filter (U.inFrame (U.fi bk) k) := by
  have mw : ∀ x, x ∈ U.without (U.au bk) l ↔ x ∈ l ∧ U.au x ≠ U.au bk := fun x => by
    unfold U.without
    rw [List.mem_filter]
    simp
  rw [List.mem_filter, List.mem_filter, mem_held_iff h1, mem_held_iff h2, holds_iff, holds_iff, inFrame_iff]
  constructor
  · rintro ⟨⟨hm, hl, hsg⟩, hf⟩
    refine ⟨?_, hf⟩
    rcases List.mem_append.1 hm with hm | hm
    · have hne : U.au g ≠ U.au bk := by
        intro e
        have hlt := (h1.gl g (by simp [hm])).2.2.2.1
        have hne := hs g hm e
        have := hl bk (by simp)
        unfold U.later U.over at this
        rw [decide_eq_true (show U.au bk = U.au g ∧ U.st g < U.st bk from ⟨e.symm, by omega⟩), decide_eq_true (show U.fi bk = U.fi g ∧ U.fr bk < U.to g ∧ U.fr g < U.to bk from ⟨hf.1.symm, by omega, by omega⟩)] at this
        cases this
      exact ⟨(mw g).2 ⟨hm, hne⟩, fun m hm' => hl m (by simp [((mw m).1 hm').1]), hsg⟩
    · have : g = bk := by simpa using hm
      subst this
      exact absurd hb.1 hsg
  · rintro ⟨⟨hm, hl, hsg⟩, hf⟩
    obtain ⟨hm1, hm2⟩ := (mw g).1 hm
    refine ⟨⟨by simp [hm1], fun m hm' => ?_, hsg⟩, hf⟩
    by_cases e : U.au m = U.au g
    · rcases List.mem_append.1 hm' with hm' | hm'
      · exact hl m ((mw m).2 ⟨hm', by rw [e]; exact hm2⟩)
      · have : m = bk := by simpa using hm'
        subst this
        exact absurd e.symm hm2
    · exact later_au e

theorem taken_set {f : FD} {l : List GD} {bk : GD} (h1 : Ok f (l ++ [bk])) (h2 : Ok f (U.without (U.au bk) l)) (hb : U.sg bk = 0 ∧ U.st bk = 9999) (hs : ∀ g ∈ l, U.au g = U.au bk → U.st g ≠ 9999)
    {k : Nat} (hk : U.fr bk ≤ (k : Int) ∧ (k : Int) < U.to bk) : U.setAt f.2.1 (U.heldG (l ++ [bk])) (U.fi bk) k = U.setAt f.2.1 (U.heldG (U.without (U.au bk) l)) (U.fi bk) k := by
  obtain ⟨a, ea, hA⟩ := frame_best h1 (U.fi bk) k
  obtain ⟨b, eb, hB⟩ := frame_best h2 (U.fi bk) k
  rw [ea, eb, best_unique (fun n _ => agrees_mem (taken_mem h1 h2 hb hs hk) (n : Int)) hA hB]

end M
end Go.X
