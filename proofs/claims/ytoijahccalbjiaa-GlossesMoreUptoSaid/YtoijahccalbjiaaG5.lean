/-
  The statement 'GlossesMore': what is asked.
-/
import Derived.Test.YtoijahccalbjiaaG3
import Derived.Test.YtoijahccalbjiaaK7
import Derived.Test.YtoijahccalbjiaaG4
namespace Go.X
open Go.Proofs

abbrev tMore : Ty := .st [tG, .int]

def sp3 : Spec := lawSpec [tF, .slice tG, tMore]
def an3 : Ann := fun r => match r with
  | 7 => some fun σ => { X := Nat, sl := fun i => [(11, .dat .int (i : Int))], ob := fun _ => [], inv := fun i => i ≤ (gd (.slice tG) σ 1).length ∧ ∀ g ∈ (gd (.slice tG) σ 1).take i, U.au g ≠ U.au (gd tMore σ 2).1, mu := fun i => (gd (.slice tG) σ 1).length - i }
  | _ => none
def vc3 : Prop :=
  ∀ (d : (List Int × Int × Unit) × List (Int × Int × Int × Int × Int × Int × Unit) × ((Int × Int × Int × Int × Int × Int × Unit) × Int × Unit) × Unit),
    fitsAll (1048576 : Nat)
        [Ty.int.slice.pair (Ty.int.pair Ty.unit), (Ty.int.pair (Ty.int.pair (Ty.int.pair (Ty.int.pair (Ty.int.pair (Ty.int.pair Ty.unit)))))).slice,
          (Ty.int.pair (Ty.int.pair (Ty.int.pair (Ty.int.pair (Ty.int.pair (Ty.int.pair Ty.unit)))))).pair (Ty.int.pair Ty.unit)]
        d →
      d.snd.fst.length ≤ (2000000 : Nat) ∧
        (d.snd.fst.length + [(d.snd.snd.fst.fst.fst, d.snd.snd.fst.fst.snd.fst, d.snd.snd.fst.fst.snd.snd.fst, d.snd.snd.fst.fst.snd.snd.snd.fst, d.snd.snd.fst.fst.snd.snd.snd.snd.fst, d.snd.snd.fst.fst.snd.snd.snd.snd.snd.fst, ())].length) *
              (48 : Nat) ≤
            (140737488355328 : Nat) ∧
          ((!U.valid (d.fst.fst, d.fst.snd.fst, ()) d.snd.fst ||
                    !U.valid (d.fst.fst, d.fst.snd.fst, ())
                        (d.snd.fst ++
                          [(d.snd.snd.fst.fst.fst, d.snd.snd.fst.fst.snd.fst, d.snd.snd.fst.fst.snd.snd.fst, d.snd.snd.fst.fst.snd.snd.snd.fst, d.snd.snd.fst.fst.snd.snd.snd.snd.fst, d.snd.snd.fst.fst.snd.snd.snd.snd.snd.fst, ())]) ||
                  decide (U.frameErr (d.fst.fst, d.fst.snd.fst, ()) d.snd.fst d.snd.snd.fst.fst.snd.snd.fst d.snd.snd.fst.snd.fst ≠ (0 : Int))) =
                true →
              (true, ()) = (true, ())) ∧
            ((!U.valid (d.fst.fst, d.fst.snd.fst, ()) d.snd.fst ||
                    !U.valid (d.fst.fst, d.fst.snd.fst, ())
                        (d.snd.fst ++
                          [(d.snd.snd.fst.fst.fst, d.snd.snd.fst.fst.snd.fst, d.snd.snd.fst.fst.snd.snd.fst, d.snd.snd.fst.fst.snd.snd.snd.fst, d.snd.snd.fst.fst.snd.snd.snd.snd.fst, d.snd.snd.fst.fst.snd.snd.snd.snd.snd.fst, ())]) ||
                  decide (U.frameErr (d.fst.fst, d.fst.snd.fst, ()) d.snd.fst d.snd.snd.fst.fst.snd.snd.fst d.snd.snd.fst.snd.fst ≠ (0 : Int))) =
                false →
              d.snd.fst.length ≤ (100000 : Nat) ∧
                (∀ (g : Int × Int × Int × Int × Int × Int × Unit), g ∈ d.snd.fst → (0 : Int) < U.to g ∧ U.to g ≤ (1000 : Int)) ∧
                  (∃ (x : Nat), (((0 : Int) = (↑x : Int) ∧ True) ∧ True) ∧ x ≤ d.snd.fst.length ∧ ∀ (g : Int × Int × Int × Int × Int × Int × Unit), g ∈ List.take x d.snd.fst → U.au g ≠ U.au d.snd.snd.fst.fst) ∧
                    ∀ (x : Nat),
                      (x ≤ d.snd.fst.length ∧ ∀ (g : Int × Int × Int × Int × Int × Int × Unit), g ∈ List.take x d.snd.fst → U.au g ≠ U.au d.snd.snd.fst.fst) →
                        d.snd.fst.length < (4611686018427387904 : Nat) →
                          (decide ((↑x : Int) < (↑d.snd.fst.length : Int)) = true →
                              (0 : Int) ≤ (↑x : Int) ∧
                                (↑x : Int) < (↑d.snd.fst.length : Int) ∧
                                  (decide ((nth d.snd.fst (↑x : Int).toNat).fst = d.snd.snd.fst.fst.fst) = true → (true, ()) = (true, ())) ∧
                                    (decide ((nth d.snd.fst (↑x : Int).toNat).fst = d.snd.snd.fst.fst.fst) = false →
                                      In64 ((↑x : Int) + (1 : Int)) ∧
                                        ∃ (x' : Nat),
                                          (((↑x : Int) + (1 : Int) = (↑x' : Int) ∧ True) ∧ True) ∧
                                            (x' ≤ d.snd.fst.length ∧ ∀ (g : Int × Int × Int × Int × Int × Int × Unit), g ∈ List.take x' d.snd.fst → U.au g ≠ U.au d.snd.snd.fst.fst) ∧ d.snd.fst.length - x' < d.snd.fst.length - x)) ∧
                            (decide ((↑x : Int) < (↑d.snd.fst.length : Int)) = false →
                              (U.check (d.fst.fst, d.fst.snd.fst, ()) d.snd.fst = (0 : Int) → d.snd.fst.length ≤ (12 : Nat)) ∧
                                (U.check (d.fst.fst, d.fst.snd.fst, ())
                                        (d.snd.fst ++
                                          [(d.snd.snd.fst.fst.fst, d.snd.snd.fst.fst.snd.fst, d.snd.snd.fst.fst.snd.snd.fst, d.snd.snd.fst.fst.snd.snd.snd.fst, d.snd.snd.fst.fst.snd.snd.snd.snd.fst, d.snd.snd.fst.fst.snd.snd.snd.snd.snd.fst,
                                              ())]) =
                                      (0 : Int) →
                                    (d.snd.fst ++
                                          [(d.snd.snd.fst.fst.fst, d.snd.snd.fst.fst.snd.fst, d.snd.snd.fst.fst.snd.snd.fst, d.snd.snd.fst.fst.snd.snd.snd.fst, d.snd.snd.fst.fst.snd.snd.snd.snd.fst, d.snd.snd.fst.fst.snd.snd.snd.snd.snd.fst,
                                              ())]).length ≤
                                      (12 : Nat)) ∧
                                  (((!(decide (U.filmErr (d.fst.fst, d.fst.snd.fst, ()) d.snd.fst d.snd.snd.fst.fst.snd.snd.fst ≠ (0 : Int)) ||
                                            decide
                                              (U.filmErr (d.fst.fst, d.fst.snd.fst, ())
                                                  (d.snd.fst ++
                                                    [(d.snd.snd.fst.fst.fst, d.snd.snd.fst.fst.snd.fst, d.snd.snd.fst.fst.snd.snd.fst, d.snd.snd.fst.fst.snd.snd.snd.fst, d.snd.snd.fst.fst.snd.snd.snd.snd.fst,
                                                        d.snd.snd.fst.fst.snd.snd.snd.snd.snd.fst, ())])
                                                  d.snd.snd.fst.fst.snd.snd.fst ≠
                                                (0 : Int)))) =
                                        true →
                                      (U.readings (d.fst.fst, d.fst.snd.fst, ()) d.snd.fst d.snd.snd.fst.fst.snd.snd.fst).length < (4611686018427387904 : Nat)) →
                                    ((!(decide (U.filmErr (d.fst.fst, d.fst.snd.fst, ()) d.snd.fst d.snd.snd.fst.fst.snd.snd.fst ≠ (0 : Int)) ||
                                              decide
                                                (U.filmErr (d.fst.fst, d.fst.snd.fst, ())
                                                    (d.snd.fst ++
                                                      [(d.snd.snd.fst.fst.fst, d.snd.snd.fst.fst.snd.fst, d.snd.snd.fst.fst.snd.snd.fst, d.snd.snd.fst.fst.snd.snd.snd.fst, d.snd.snd.fst.fst.snd.snd.snd.snd.fst,
                                                          d.snd.snd.fst.fst.snd.snd.snd.snd.snd.fst, ())])
                                                    d.snd.snd.fst.fst.snd.snd.fst ≠
                                                  (0 : Int)))) =
                                          true →
                                        (0 : Int) ≤ d.snd.snd.fst.fst.snd.snd.fst) ∧
                                      ((!(decide (U.filmErr (d.fst.fst, d.fst.snd.fst, ()) d.snd.fst d.snd.snd.fst.fst.snd.snd.fst ≠ (0 : Int)) ||
                                                decide
                                                  (U.filmErr (d.fst.fst, d.fst.snd.fst, ())
                                                      (d.snd.fst ++
                                                        [(d.snd.snd.fst.fst.fst, d.snd.snd.fst.fst.snd.fst, d.snd.snd.fst.fst.snd.snd.fst, d.snd.snd.fst.fst.snd.snd.snd.fst, d.snd.snd.fst.fst.snd.snd.snd.snd.fst,
                                                            d.snd.snd.fst.fst.snd.snd.snd.snd.snd.fst, ())])
                                                      d.snd.snd.fst.fst.snd.snd.fst ≠
                                                    (0 : Int)))) =
                                            true →
                                          d.snd.snd.fst.fst.snd.snd.fst < (↑d.fst.fst.length : Int)) ∧
                                        (((!(decide (U.filmErr (d.fst.fst, d.fst.snd.fst, ()) d.snd.fst d.snd.snd.fst.fst.snd.snd.fst ≠ (0 : Int)) ||
                                                    decide
                                                      (U.filmErr (d.fst.fst, d.fst.snd.fst, ())
                                                          (d.snd.fst ++
                                                            [(d.snd.snd.fst.fst.fst, d.snd.snd.fst.fst.snd.fst, d.snd.snd.fst.fst.snd.snd.fst, d.snd.snd.fst.fst.snd.snd.snd.fst, d.snd.snd.fst.fst.snd.snd.snd.snd.fst,
                                                                d.snd.snd.fst.fst.snd.snd.snd.snd.snd.fst, ())])
                                                          d.snd.snd.fst.fst.snd.snd.fst ≠
                                                        (0 : Int)) ||
                                                  decide (nth d.fst.fst d.snd.snd.fst.fst.snd.snd.fst.toNat < (↑(U.readings (d.fst.fst, d.fst.snd.fst, ()) d.snd.fst d.snd.snd.fst.fst.snd.snd.fst).length : Int)))) =
                                              true →
                                            (U.readings (d.fst.fst, d.fst.snd.fst, ())
                                                  (d.snd.fst ++
                                                    [(d.snd.snd.fst.fst.fst, d.snd.snd.fst.fst.snd.fst, d.snd.snd.fst.fst.snd.snd.fst, d.snd.snd.fst.fst.snd.snd.snd.fst, d.snd.snd.fst.fst.snd.snd.snd.snd.fst,
                                                        d.snd.snd.fst.fst.snd.snd.snd.snd.snd.fst, ())])
                                                  d.snd.snd.fst.fst.snd.snd.fst).length <
                                              (4611686018427387904 : Nat)) →
                                          ((!(decide (U.filmErr (d.fst.fst, d.fst.snd.fst, ()) d.snd.fst d.snd.snd.fst.fst.snd.snd.fst ≠ (0 : Int)) ||
                                                      decide
                                                        (U.filmErr (d.fst.fst, d.fst.snd.fst, ())
                                                            (d.snd.fst ++
                                                              [(d.snd.snd.fst.fst.fst, d.snd.snd.fst.fst.snd.fst, d.snd.snd.fst.fst.snd.snd.fst, d.snd.snd.fst.fst.snd.snd.snd.fst, d.snd.snd.fst.fst.snd.snd.snd.snd.fst,
                                                                  d.snd.snd.fst.fst.snd.snd.snd.snd.snd.fst, ())])
                                                            d.snd.snd.fst.fst.snd.snd.fst ≠
                                                          (0 : Int)) ||
                                                    decide (nth d.fst.fst d.snd.snd.fst.fst.snd.snd.fst.toNat < (↑(U.readings (d.fst.fst, d.fst.snd.fst, ()) d.snd.fst d.snd.snd.fst.fst.snd.snd.fst).length : Int)))) =
                                                true →
                                              (0 : Int) ≤ d.snd.snd.fst.fst.snd.snd.fst) ∧
                                            ((!(decide (U.filmErr (d.fst.fst, d.fst.snd.fst, ()) d.snd.fst d.snd.snd.fst.fst.snd.snd.fst ≠ (0 : Int)) ||
                                                        decide
                                                          (U.filmErr (d.fst.fst, d.fst.snd.fst, ())
                                                              (d.snd.fst ++
                                                                [(d.snd.snd.fst.fst.fst, d.snd.snd.fst.fst.snd.fst, d.snd.snd.fst.fst.snd.snd.fst, d.snd.snd.fst.fst.snd.snd.snd.fst, d.snd.snd.fst.fst.snd.snd.snd.snd.fst,
                                                                    d.snd.snd.fst.fst.snd.snd.snd.snd.snd.fst, ())])
                                                              d.snd.snd.fst.fst.snd.snd.fst ≠
                                                            (0 : Int)) ||
                                                      decide (nth d.fst.fst d.snd.snd.fst.fst.snd.snd.fst.toNat < (↑(U.readings (d.fst.fst, d.fst.snd.fst, ()) d.snd.fst d.snd.snd.fst.fst.snd.snd.fst).length : Int)))) =
                                                  true →
                                                d.snd.snd.fst.fst.snd.snd.fst < (↑d.fst.fst.length : Int)) ∧
                                              ((decide (U.filmErr (d.fst.fst, d.fst.snd.fst, ()) d.snd.fst d.snd.snd.fst.fst.snd.snd.fst ≠ (0 : Int)) ||
                                                          decide
                                                            (U.filmErr (d.fst.fst, d.fst.snd.fst, ())
                                                                (d.snd.fst ++
                                                                  [(d.snd.snd.fst.fst.fst, d.snd.snd.fst.fst.snd.fst, d.snd.snd.fst.fst.snd.snd.fst, d.snd.snd.fst.fst.snd.snd.snd.fst, d.snd.snd.fst.fst.snd.snd.snd.snd.fst,
                                                                      d.snd.snd.fst.fst.snd.snd.snd.snd.snd.fst, ())])
                                                                d.snd.snd.fst.fst.snd.snd.fst ≠
                                                              (0 : Int)) ||
                                                        decide (nth d.fst.fst d.snd.snd.fst.fst.snd.snd.fst.toNat < (↑(U.readings (d.fst.fst, d.fst.snd.fst, ()) d.snd.fst d.snd.snd.fst.fst.snd.snd.fst).length : Int)) ||
                                                      decide
                                                        (nth d.fst.fst d.snd.snd.fst.fst.snd.snd.fst.toNat <
                                                          (↑(U.readings (d.fst.fst, d.fst.snd.fst, ())
                                                                  (d.snd.fst ++
                                                                    [(d.snd.snd.fst.fst.fst, d.snd.snd.fst.fst.snd.fst, d.snd.snd.fst.fst.snd.snd.fst, d.snd.snd.fst.fst.snd.snd.snd.fst, d.snd.snd.fst.fst.snd.snd.snd.snd.fst,
                                                                        d.snd.snd.fst.fst.snd.snd.snd.snd.snd.fst, ())])
                                                                  d.snd.snd.fst.fst.snd.snd.fst).length :
                                                            Int))) =
                                                    true →
                                                  (false, ()) = (true, ())) ∧
                                                ((decide (U.filmErr (d.fst.fst, d.fst.snd.fst, ()) d.snd.fst d.snd.snd.fst.fst.snd.snd.fst ≠ (0 : Int)) ||
                                                          decide
                                                            (U.filmErr (d.fst.fst, d.fst.snd.fst, ())
                                                                (d.snd.fst ++
                                                                  [(d.snd.snd.fst.fst.fst, d.snd.snd.fst.fst.snd.fst, d.snd.snd.fst.fst.snd.snd.fst, d.snd.snd.fst.fst.snd.snd.snd.fst, d.snd.snd.fst.fst.snd.snd.snd.snd.fst,
                                                                      d.snd.snd.fst.fst.snd.snd.snd.snd.snd.fst, ())])
                                                                d.snd.snd.fst.fst.snd.snd.fst ≠
                                                              (0 : Int)) ||
                                                        decide (nth d.fst.fst d.snd.snd.fst.fst.snd.snd.fst.toNat < (↑(U.readings (d.fst.fst, d.fst.snd.fst, ()) d.snd.fst d.snd.snd.fst.fst.snd.snd.fst).length : Int)) ||
                                                      decide
                                                        (nth d.fst.fst d.snd.snd.fst.fst.snd.snd.fst.toNat <
                                                          (↑(U.readings (d.fst.fst, d.fst.snd.fst, ())
                                                                  (d.snd.fst ++
                                                                    [(d.snd.snd.fst.fst.fst, d.snd.snd.fst.fst.snd.fst, d.snd.snd.fst.fst.snd.snd.fst, d.snd.snd.fst.fst.snd.snd.snd.fst, d.snd.snd.fst.fst.snd.snd.snd.snd.fst,
                                                                        d.snd.snd.fst.fst.snd.snd.snd.snd.snd.fst, ())])
                                                                  d.snd.snd.fst.fst.snd.snd.fst).length :
                                                            Int))) =
                                                    false →
                                                  (U.readings (d.fst.fst, d.fst.snd.fst, ()) d.snd.fst d.snd.snd.fst.fst.snd.snd.fst).length ≤ (100000 : Nat) ∧
                                                    (U.readings (d.fst.fst, d.fst.snd.fst, ())
                                                            (d.snd.fst ++
                                                              [(d.snd.snd.fst.fst.fst, d.snd.snd.fst.fst.snd.fst, d.snd.snd.fst.fst.snd.snd.fst, d.snd.snd.fst.fst.snd.snd.snd.fst, d.snd.snd.fst.fst.snd.snd.snd.snd.fst,
                                                                  d.snd.snd.fst.fst.snd.snd.snd.snd.snd.fst, ())])
                                                            d.snd.snd.fst.fst.snd.snd.fst).length ≤
                                                        (100000 : Nat) ∧
                                                      (decide
                                                              (U.size (U.readS d.snd.snd.fst.snd.fst (U.readings (d.fst.fst, d.fst.snd.fst, ()) d.snd.fst d.snd.snd.fst.fst.snd.snd.fst)) ≤
                                                                U.size
                                                                  (U.readS d.snd.snd.fst.snd.fst
                                                                    (U.readings (d.fst.fst, d.fst.snd.fst, ())
                                                                      (d.snd.fst ++
                                                                        [(d.snd.snd.fst.fst.fst, d.snd.snd.fst.fst.snd.fst, d.snd.snd.fst.fst.snd.snd.fst, d.snd.snd.fst.fst.snd.snd.snd.fst, d.snd.snd.fst.fst.snd.snd.snd.snd.fst,
                                                                            d.snd.snd.fst.fst.snd.snd.snd.snd.snd.fst, ())])
                                                                      d.snd.snd.fst.fst.snd.snd.fst))) =
                                                            true →
                                                          In64 (U.size (U.readS d.snd.snd.fst.snd.fst (U.readings (d.fst.fst, d.fst.snd.fst, ()) d.snd.fst d.snd.snd.fst.fst.snd.snd.fst)) + (1 : Int))) ∧
                                                        (((decide
                                                                  (U.size (U.readS d.snd.snd.fst.snd.fst (U.readings (d.fst.fst, d.fst.snd.fst, ()) d.snd.fst d.snd.snd.fst.fst.snd.snd.fst)) ≤
                                                                    U.size
                                                                      (U.readS d.snd.snd.fst.snd.fst
                                                                        (U.readings (d.fst.fst, d.fst.snd.fst, ())
                                                                          (d.snd.fst ++
                                                                            [(d.snd.snd.fst.fst.fst, d.snd.snd.fst.fst.snd.fst, d.snd.snd.fst.fst.snd.snd.fst, d.snd.snd.fst.fst.snd.snd.snd.fst, d.snd.snd.fst.fst.snd.snd.snd.snd.fst,
                                                                                d.snd.snd.fst.fst.snd.snd.snd.snd.snd.fst, ())])
                                                                          d.snd.snd.fst.fst.snd.snd.fst))) &&
                                                                decide
                                                                  (U.size
                                                                      (U.readS d.snd.snd.fst.snd.fst
                                                                        (U.readings (d.fst.fst, d.fst.snd.fst, ())
                                                                          (d.snd.fst ++
                                                                            [(d.snd.snd.fst.fst.fst, d.snd.snd.fst.fst.snd.fst, d.snd.snd.fst.fst.snd.snd.fst, d.snd.snd.fst.fst.snd.snd.snd.fst, d.snd.snd.fst.fst.snd.snd.snd.snd.fst,
                                                                                d.snd.snd.fst.fst.snd.snd.snd.snd.snd.fst, ())])
                                                                          d.snd.snd.fst.fst.snd.snd.fst)) ≤
                                                                    U.size (U.readS d.snd.snd.fst.snd.fst (U.readings (d.fst.fst, d.fst.snd.fst, ()) d.snd.fst d.snd.snd.fst.fst.snd.snd.fst)) + (1 : Int))) =
                                                              true →
                                                            (U.at' d.snd.fst d.snd.snd.fst.fst.snd.snd.fst d.snd.snd.fst.snd.fst).length < (4611686018427387904 : Nat)) →
                                                          ((decide
                                                                    (U.size (U.readS d.snd.snd.fst.snd.fst (U.readings (d.fst.fst, d.fst.snd.fst, ()) d.snd.fst d.snd.snd.fst.fst.snd.snd.fst)) ≤
                                                                      U.size
                                                                        (U.readS d.snd.snd.fst.snd.fst
                                                                          (U.readings (d.fst.fst, d.fst.snd.fst, ())
                                                                            (d.snd.fst ++
                                                                              [(d.snd.snd.fst.fst.fst, d.snd.snd.fst.fst.snd.fst, d.snd.snd.fst.fst.snd.snd.fst, d.snd.snd.fst.fst.snd.snd.snd.fst, d.snd.snd.fst.fst.snd.snd.snd.snd.fst,
                                                                                  d.snd.snd.fst.fst.snd.snd.snd.snd.snd.fst, ())])
                                                                            d.snd.snd.fst.fst.snd.snd.fst))) &&
                                                                  decide
                                                                    (U.size
                                                                        (U.readS d.snd.snd.fst.snd.fst
                                                                          (U.readings (d.fst.fst, d.fst.snd.fst, ())
                                                                            (d.snd.fst ++
                                                                              [(d.snd.snd.fst.fst.fst, d.snd.snd.fst.fst.snd.fst, d.snd.snd.fst.fst.snd.snd.fst, d.snd.snd.fst.fst.snd.snd.snd.fst, d.snd.snd.fst.fst.snd.snd.snd.snd.fst,
                                                                                  d.snd.snd.fst.fst.snd.snd.snd.snd.snd.fst, ())])
                                                                            d.snd.snd.fst.fst.snd.snd.fst)) ≤
                                                                      U.size (U.readS d.snd.snd.fst.snd.fst (U.readings (d.fst.fst, d.fst.snd.fst, ()) d.snd.fst d.snd.snd.fst.fst.snd.snd.fst)) + (1 : Int))) =
                                                                true →
                                                              In64 ((↑(U.at' d.snd.fst d.snd.snd.fst.fst.snd.snd.fst d.snd.snd.fst.snd.fst).length : Int) + (1 : Int))) ∧
                                                            (decide
                                                                        (U.size (U.readS d.snd.snd.fst.snd.fst (U.readings (d.fst.fst, d.fst.snd.fst, ()) d.snd.fst d.snd.snd.fst.fst.snd.snd.fst)) ≤
                                                                          U.size
                                                                            (U.readS d.snd.snd.fst.snd.fst
                                                                              (U.readings (d.fst.fst, d.fst.snd.fst, ())
                                                                                (d.snd.fst ++
                                                                                  [(d.snd.snd.fst.fst.fst, d.snd.snd.fst.fst.snd.fst, d.snd.snd.fst.fst.snd.snd.fst, d.snd.snd.fst.fst.snd.snd.snd.fst, d.snd.snd.fst.fst.snd.snd.snd.snd.fst,
                                                                                      d.snd.snd.fst.fst.snd.snd.snd.snd.snd.fst, ())])
                                                                                d.snd.snd.fst.fst.snd.snd.fst))) &&
                                                                      decide
                                                                        (U.size
                                                                            (U.readS d.snd.snd.fst.snd.fst
                                                                              (U.readings (d.fst.fst, d.fst.snd.fst, ())
                                                                                (d.snd.fst ++
                                                                                  [(d.snd.snd.fst.fst.fst, d.snd.snd.fst.fst.snd.fst, d.snd.snd.fst.fst.snd.snd.fst, d.snd.snd.fst.fst.snd.snd.snd.fst, d.snd.snd.fst.fst.snd.snd.snd.snd.fst,
                                                                                      d.snd.snd.fst.fst.snd.snd.snd.snd.snd.fst, ())])
                                                                                d.snd.snd.fst.fst.snd.snd.fst)) ≤
                                                                          U.size (U.readS d.snd.snd.fst.snd.fst (U.readings (d.fst.fst, d.fst.snd.fst, ()) d.snd.fst d.snd.snd.fst.fst.snd.snd.fst)) + (1 : Int)) &&
                                                                    decide
                                                                      (U.size
                                                                          (U.readS d.snd.snd.fst.snd.fst
                                                                            (U.readings (d.fst.fst, d.fst.snd.fst, ())
                                                                              (d.snd.fst ++
                                                                                [(d.snd.snd.fst.fst.fst, d.snd.snd.fst.fst.snd.fst, d.snd.snd.fst.fst.snd.snd.fst, d.snd.snd.fst.fst.snd.snd.snd.fst, d.snd.snd.fst.fst.snd.snd.snd.snd.fst,
                                                                                    d.snd.snd.fst.fst.snd.snd.snd.snd.snd.fst, ())])
                                                                              d.snd.snd.fst.fst.snd.snd.fst)) ≤
                                                                        (↑(U.at' d.snd.fst d.snd.snd.fst.fst.snd.snd.fst d.snd.snd.fst.snd.fst).length : Int) + (1 : Int)) &&
                                                                  true,
                                                                ()) =
                                                              (true, ())))))))

theorem vc3_eq : fnVC (ctx 150 [(13, sp13), (14, sp14), (15, sp15), (16, sp16), (17, sp17), (18, sp18), (19, sp19)] [(12, so12)]) (an3) Try.f3 (bodyOf Try.f3) sp3 = vc3 := by kernel_rfl


end Go.X
/-
  The statement 'GlossesMore' is true of what the program computes.
-/
namespace Go.X
open Go.Proofs

theorem h3 : vc3 := by
  rintro ⟨⟨fr, s, ⟨⟩⟩, l, ⟨more, k, ⟨⟩⟩, ⟨⟩⟩ hfit
  have hlen : l.length ≤ 1048576 := hfit.2.1.1
  have hmore : (more.1, more.2.1, more.2.2.1, more.2.2.2.1, more.2.2.2.2.1, more.2.2.2.2.2.1, ()) = more := rfl
  simp only
  refine ⟨by omega, by simp only [List.length_cons, List.length_nil]; omega, fun _ => trivial, fun h => ?_⟩
  simp only [Bool.or_eq_false_iff, Bool.not_eq_false', decide_eq_false_iff_not] at h
  obtain ⟨⟨v1, v2⟩, v3⟩ := h
  obtain ⟨c1, n1, o1, _, _⟩ := M.valid_of v1
  obtain ⟨c2, n2, o2, _, _⟩ := M.valid_of v2
  have v3 : U.frameErr (fr, s, ()) l (U.fi more) k = 0 := Classical.byContradiction v3
  have hfr : 0 ≤ U.fi more ∧ U.fi more ≤ (fr.length : Int) - 1 ∧ 0 ≤ k ∧ k ≤ nth fr (U.fi more).toNat - 1 := by
    unfold U.frameErr at v3
    rw [if_neg (by rw [c1]; simp)] at v3
    split at v3
    · assumption
    · cases v3
  have hfilm : 0 ≤ U.fi more ∧ U.fi more < ((fr, s, ()) : FD).1.length := by simp only; omega
  have hk : 0 ≤ k ∧ k < nth ((fr, s, ()) : FD).1 (U.fi more).toNat := by simp only; omega
  refine ⟨by omega, fun g hg => ?_, ⟨0, ⟨⟨rfl, trivial⟩, trivial⟩, Nat.zero_le _, by simp⟩, fun i hi _ => ⟨fun hc => ?_, fun hc => ?_⟩⟩
  · have := o1.gl g hg; omega
  · have hc : i < l.length := by have := of_decide_eq_true hc; omega
    simp only [Int.toNat_natCast]
    refine ⟨by omega, by omega, fun _ => trivial, fun hb => ⟨by unfold In64; omega, i + 1, ⟨⟨by simp, trivial⟩, trivial⟩, ⟨by omega, fun g hg => ?_⟩, by omega⟩⟩
    rw [L.take_succ hc, List.mem_append, List.mem_singleton] at hg
    rcases hg with hg | rfl
    · exact hi.2 g hg
    · exact of_decide_eq_false hb
  · have hc : l.length ≤ i := by have := of_decide_eq_false hc; omega
    have ha : ∀ g ∈ l, U.au g ≠ U.au more := fun g hg => hi.2 g (by rw [List.take_of_length_le hc]; exact hg)
    have e1 := M.filmErr_zero c1 hfilm
    have e2 := M.filmErr_zero c2 hfilm
    have len1 := M.readings_len c1 hfilm
    have len2 := M.readings_len c2 hfilm
    have at1 := (M.readings_at c1 hfilm hk).1
    have at2 := (M.readings_at c2 hfilm hk).1
    obtain ⟨m1, m2, m3⟩ := M.more_size o1 o2 ha (U.fi more) k.toNat
    rw [← at1, ← at2] at m1 m2
    rw [← at1] at m3
    have hkk : ((k.toNat : Nat) : Int) = k := Int.toNat_of_nonneg hk.1
    rw [hkk, M.held_eq o1] at m3
    have hat : (U.at' l (U.fi more) k).length = ((U.held l).filter (U.inFrame (U.fi more) k)).length := rfl
    have hatl : (U.at' l (U.fi more) k).length ≤ 12 := by
      rw [hat]
      exact Nat.le_trans (List.length_filter_le _ _) (Nat.le_trans (held_len l) n1)
    have s1 := M.size_nonneg (U.readS k (U.readings (fr, s, ()) l (U.fi more)))
    have s1' : U.size (U.readS k (U.readings (fr, s, ()) l (U.fi more))) ≤ 10 := (sizeTo_bound _ 10).2
    simp only at len1 len2
    refine ⟨fun _ => n1, fun _ => n2, fun _ => ⟨fun _ => hfilm.1, fun _ => hfilm.2, fun _ => ⟨fun _ => hfilm.1, fun _ => hfilm.2, fun hb => ?_, fun _ => ?_⟩⟩⟩
    · exfalso
      have e1 : U.filmErr (fr, s, ()) l more.2.2.1 = 0 := e1
      have e2 : U.filmErr (fr, s, ()) (l ++ [more]) more.2.2.1 = 0 := e2
      have d1 : ¬ nth fr more.2.2.1.toNat < ((U.readings (fr, s, ()) l more.2.2.1).length : Int) := by
        have := len1.1
        exact fun h' => by have : ((U.readings (fr, s, ()) l more.2.2.1).length : Int) ≤ nth fr more.2.2.1.toNat := len1.1; omega
      have d2 : ¬ nth fr more.2.2.1.toNat < ((U.readings (fr, s, ()) (l ++ [more]) more.2.2.1).length : Int) := by
        exact fun h' => by have : ((U.readings (fr, s, ()) (l ++ [more]) more.2.2.1).length : Int) ≤ nth fr more.2.2.1.toNat := len2.1; omega
      rw [hmore, e1, e2, decide_eq_false d1, decide_eq_false d2] at hb
      exact absurd hb (by decide)
    · have d1 : decide (U.size (U.readS k (U.readings (fr, s, ()) l more.2.2.1)) ≤ U.size (U.readS k (U.readings (fr, s, ()) (l ++ [more]) more.2.2.1))) = true := decide_eq_true m1
      have d2 : decide (U.size (U.readS k (U.readings (fr, s, ()) (l ++ [more]) more.2.2.1)) ≤ U.size (U.readS k (U.readings (fr, s, ()) l more.2.2.1)) + 1) = true := decide_eq_true m2
      have d3 : decide (U.size (U.readS k (U.readings (fr, s, ()) (l ++ [more]) more.2.2.1)) ≤ ((U.at' l more.2.2.1 k).length : Int) + 1) = true := decide_eq_true (by
        have m3 : U.size (U.readS k (U.readings (fr, s, ()) l more.2.2.1)) ≤ ((U.at' l more.2.2.1 k).length : Int) := m3
        have m2 : U.size (U.readS k (U.readings (fr, s, ()) (l ++ [more]) more.2.2.1)) ≤ U.size (U.readS k (U.readings (fr, s, ()) l more.2.2.1)) + 1 := m2
        omega)
      refine ⟨Nat.le_trans len1.2 (by omega), Nat.le_trans len2.2 (by omega), fun _ => ?_, fun _ => ⟨fun _ => ?_, ?_⟩⟩
      · have s1 : 0 ≤ U.size (U.readS k (U.readings (fr, s, ()) l more.2.2.1)) := s1
        have s1' : U.size (U.readS k (U.readings (fr, s, ()) l more.2.2.1)) ≤ 10 := s1'
        unfold In64; omega
      · have hatl : (U.at' l more.2.2.1 k).length ≤ 12 := hatl
        unfold In64; omega
      · rw [hmore, d1, d2, d3]; rfl

theorem ok3 : FnOK PR 3 sp3 := mkFn (vc3_eq.mpr h3) Try.func3 (by kernel_rfl) (by kernel_rfl) (by kernel_rfl) (by kernel_rfl) ⟨fun _ => ok13, fun _ => ok14, fun _ => ok15, fun _ => ok16, fun _ => ok17, fun _ => ok18, fun _ => ok19, trivial⟩ ⟨ok12, trivial⟩

end Go.X
