/-
  Signs: the law of the signer.
-/
import Derived.Test.YtafidkjlgchbbaaGreatG6
namespace Go.X
open Go.Proofs

namespace U
def setAt (m : Int) (ss out : List Int) : Int := if out.length < ss.length then bor (two m) (nth ss out.length) else two m
/-- the sets of the moves that are not missed -/
def setsTo (l ss : List Int) (q : Int) : Nat → List Int
  | 0 => []
  | i + 1 => if bit q (i : Int) = true then setsTo l ss q i else setsTo l ss q i ++ [setAt (nth l i) ss (setsTo l ss q i)]
def lostTo (q : Int) : Nat → Int
  | 0 => 0
  | i + 1 => if bit q (i : Int) = true then lostTo q i + 1 else lostTo q i
end U
/-- the cells of a box -/
def bx (σ : St) (o : Nat) : List SV := match σ.obj o with | some (.box _ _ cs) => cs | _ => []
/-- the data of a box -/
def gb (t : Ty) (σ : St) (o : Nat) : t.Data := match decode σ t (bx σ o) with | some (x, _) => x | none => t.dflt

def sp6 : Spec := lawSpec [.slice tE, tSn, tSg]
def an6 : Ann := fun r => match r with
  | 14 => some fun σ => { X := Nat, sl := fun i => [(10, .dat .int (i : Int))], ob := fun i => [(9, some (.box 27 false ((bx σ 9).take 4 ++ [.dat .int (U.lostTo (gd tSg σ 2).2.2.2.1 i)] ++ ((bx σ 9).drop 5).take 6 ++ [.own (nestR 9 11) .int]))), (nestR 9 11, some (.row 3 .int false .yes (U.setsTo (U.mv (gb tFm σ 8)) (U.mvs (gd tSn σ 1)) (gd tSg σ 2).2.2.2.1 i)))], inv := fun i => i ≤ (U.mv (gb tFm σ 8)).length, mu := fun i => (U.mv (gb tFm σ 8)).length - i }
  | _ => none
def vc6 : Prop :=
  ∀
  (d :
  List ED ×
  SnD × (Int × Int × Int × Int × Bool × Unit) × Unit),
  fitsAll 1048576
  [(Ty.int.pair (Ty.int.pair (Ty.int.pair ((Ty.int.pair (Ty.int.pair (Ty.int.pair (Ty.int.pair (Ty.int.pair (Ty.int.slice.pair Ty.unit)))))).pair ((Ty.int.pair (Ty.int.pair Ty.unit)).pair Ty.unit))))).slice,
  Ty.int.pair (Ty.int.pair (Ty.int.pair (Ty.int.pair (Ty.int.pair ((Ty.int.pair (Ty.int.pair Ty.unit)).pair ((Ty.int.pair (Ty.int.pair Ty.unit)).pair ((Ty.int.pair (Ty.int.pair Ty.unit)).pair (Ty.int.slice.pair Ty.unit)))))))),
  Ty.int.pair (Ty.int.pair (Ty.int.pair (Ty.int.pair (Ty.bool.pair Ty.unit))))]
  d →
  ((!!U.ready d.1) = true → d.2.1.2.2.2.2.2.2.2.2.1.length < 4611686018427387904) →
  ((!(!U.ready d.1 || decide (20 < (d.2.1.2.2.2.2.2.2.2.2.1.length : Int)) || !U.okS d.2.1 || decide (d.2.2.1.1 < (0 : Int)))) = true → d.1.length < 4611686018427387904) →
  ((!U.ready d.1 || decide (20 < (d.2.1.2.2.2.2.2.2.2.2.1.length : Int)) || !U.okS d.2.1 || decide (d.2.2.1.1 < (0 : Int)) || decide ((d.1.length : Int) ≤ d.2.2.1.1) ||
  decide (d.2.2.1.2.2.2.1 < (0 : Int))) =
  true →
  (true, ()) = (true, ())) ∧
  ((!U.ready d.1 || decide (20 < (d.2.1.2.2.2.2.2.2.2.2.1.length : Int)) || !U.okS d.2.1 || decide (d.2.2.1.1 < (0 : Int)) || decide ((d.1.length : Int) ≤ d.2.2.1.1) ||
  decide (d.2.2.1.2.2.2.1 < (0 : Int))) =
  false →
  (0 : Int) ≤ d.2.2.1.1 ∧
  d.2.2.1.1 < (d.1.length : Int) ∧
  ((!(decide (d.2.2.1.2.1 < (0 : Int)) || decide ((7 : Int) < d.2.2.1.2.1))) = true → (0 : Int) ≤ d.2.2.1.2.1) ∧
  ((!(decide (d.2.2.1.2.1 < (0 : Int)) || decide ((7 : Int) < d.2.2.1.2.1))) = true → d.2.2.1.2.1 ≤ (18446744073709551615 : Int)) ∧
  ((!(decide (d.2.2.1.2.1 < (0 : Int)) || decide ((7 : Int) < d.2.2.1.2.1))) = true → (0 : Int) ≤ d.2.2.1.2.1) ∧
  ((!(decide (d.2.2.1.2.1 < (0 : Int)) || decide ((7 : Int) < d.2.2.1.2.1))) = true → d.2.2.1.2.1 ≤ (64 : Int)) ∧
  ((decide (d.2.2.1.2.1 < (0 : Int)) || decide ((7 : Int) < d.2.2.1.2.1) ||
  decide (band ((nth d.1 d.2.2.1.1.toNat).2.2.1 / (2 : Int) ^ d.2.2.1.2.1.toNat) (1 : Int) = (0 : Int)) ||
  decide (d.2.2.1.2.2.1 < (nth d.1 d.2.2.1.1.toNat).2.2.2.2.1.1) ||
  decide ((nth d.1 d.2.2.1.1.toNat).2.2.2.2.1.2.1 < d.2.2.1.2.2.1)) =
  true →
  (true, ()) = (true, ())) ∧
  ((decide (d.2.2.1.2.1 < (0 : Int)) || decide ((7 : Int) < d.2.2.1.2.1) ||
  decide (band ((nth d.1 d.2.2.1.1.toNat).2.2.1 / (2 : Int) ^ d.2.2.1.2.1.toNat) (1 : Int) = (0 : Int)) ||
  decide (d.2.2.1.2.2.1 < (nth d.1 d.2.2.1.1.toNat).2.2.2.2.1.1) ||
  decide ((nth d.1 d.2.2.1.1.toNat).2.2.2.2.1.2.1 < d.2.2.1.2.2.1)) =
  false →
  (d.2.2.1.2.2.2.2.1 = true →
  U.okForm (nth d.1 d.2.2.1.1.toNat).2.2.2.1 = true ∧
  In64 ((U.mir (nth d.1 d.2.2.1.1.toNat).2.2.2.1).1 + (1 : Int)) ∧
  (0 : Int) ≤ (U.mir (nth d.1 d.2.2.1.1.toNat).2.2.2.1).1 + (1 : Int) ∧
  (U.mir (nth d.1 d.2.2.1.1.toNat).2.2.2.1).1 + (1 : Int) ≤ (18446744073709551615 : Int) ∧
  (0 : Int) ≤ (U.mir (nth d.1 d.2.2.1.1.toNat).2.2.2.1).1 + (1 : Int) ∧
  (U.mir (nth d.1 d.2.2.1.1.toNat).2.2.2.1).1 + (1 : Int) ≤ (64 : Int) ∧
  In64 ((1 : Int) * (2 : Int) ^ ((U.mir (nth d.1 d.2.2.1.1.toNat).2.2.2.1).1 + (1 : Int)).toNat) ∧
  In64 ((U.mir (nth d.1 d.2.2.1.1.toNat).2.2.2.1).2.1 + (1 : Int)) ∧
  (0 : Int) ≤ (U.mir (nth d.1 d.2.2.1.1.toNat).2.2.2.1).2.1 + (1 : Int) ∧
  (U.mir (nth d.1 d.2.2.1.1.toNat).2.2.2.1).2.1 + (1 : Int) ≤ (18446744073709551615 : Int) ∧
  (0 : Int) ≤ (U.mir (nth d.1 d.2.2.1.1.toNat).2.2.2.1).2.1 + (1 : Int) ∧
  (U.mir (nth d.1 d.2.2.1.1.toNat).2.2.2.1).2.1 + (1 : Int) ≤ (64 : Int) ∧
  In64 ((1 : Int) * (2 : Int) ^ ((U.mir (nth d.1 d.2.2.1.1.toNat).2.2.2.1).2.1 + (1 : Int)).toNat) ∧
  (0 : Int) ≤ (U.mir (nth d.1 d.2.2.1.1.toNat).2.2.2.1).2.2.2.2.1 ∧
  (U.mir (nth d.1 d.2.2.1.1.toNat).2.2.2.1).2.2.2.2.1 ≤ (18446744073709551615 : Int) ∧
  (0 : Int) ≤ (U.mir (nth d.1 d.2.2.1.1.toNat).2.2.2.1).2.2.2.2.1 ∧
  (U.mir (nth d.1 d.2.2.1.1.toNat).2.2.2.1).2.2.2.2.1 ≤ (64 : Int) ∧
  In64 ((1 : Int) * (2 : Int) ^ (U.mir (nth d.1 d.2.2.1.1.toNat).2.2.2.1).2.2.2.2.1.toNat) ∧
  (0 : Int) ≤ d.2.2.1.2.1 ∧
  d.2.2.1.2.1 ≤ (18446744073709551615 : Int) ∧
  (0 : Int) ≤ d.2.2.1.2.1 ∧
  d.2.2.1.2.1 ≤ (64 : Int) ∧
  In64 ((1 : Int) * (2 : Int) ^ d.2.2.1.2.1.toNat) ∧
  (∃ (x : Nat),
  (((0 : Int) = (x : Int) ∧ True) ∧
  (bor d.2.1.1 ((1 : Int) * (2 : Int) ^ ((U.mir (nth d.1 d.2.2.1.1.toNat).2.2.2.1).1 + (1 : Int)).toNat) =
  bor d.2.1.1 ((1 : Int) * (2 : Int) ^ ((U.mir (nth d.1 d.2.2.1.1.toNat).2.2.2.1).1 + (1 : Int)).toNat) ∧
  bor d.2.1.2.1 ((1 : Int) * (2 : Int) ^ ((U.mir (nth d.1 d.2.2.1.1.toNat).2.2.2.1).2.1 + (1 : Int)).toNat) =
  bor d.2.1.2.1 ((1 : Int) * (2 : Int) ^ ((U.mir (nth d.1 d.2.2.1.1.toNat).2.2.2.1).2.1 + (1 : Int)).toNat) ∧
  bor d.2.1.2.2.1 ((1 : Int) * (2 : Int) ^ (U.mir (nth d.1 d.2.2.1.1.toNat).2.2.2.1).2.2.2.2.1.toNat) =
  bor d.2.1.2.2.1 ((1 : Int) * (2 : Int) ^ (U.mir (nth d.1 d.2.2.1.1.toNat).2.2.2.1).2.2.2.2.1.toNat) ∧
  bor d.2.1.2.2.2.1 ((1 : Int) * (2 : Int) ^ d.2.2.1.2.1.toNat) =
  bor d.2.1.2.2.2.1 ((1 : Int) * (2 : Int) ^ d.2.2.1.2.1.toNat) ∧
  (0 : Int) = U.lostTo d.2.2.1.2.2.2.1 x ∧
  min d.2.1.2.2.2.2.2.1.1 (U.mir (nth d.1 d.2.2.1.1.toNat).2.2.2.1).2.2.1 =
  min d.2.1.2.2.2.2.2.1.1 (U.mir (nth d.1 d.2.2.1.1.toNat).2.2.2.1).2.2.1 ∧
  max d.2.1.2.2.2.2.2.1.2.1 (U.mir (nth d.1 d.2.2.1.1.toNat).2.2.2.1).2.2.1 =
  max d.2.1.2.2.2.2.2.1.2.1 (U.mir (nth d.1 d.2.2.1.1.toNat).2.2.2.1).2.2.1 ∧
  min d.2.1.2.2.2.2.2.2.1.1 (U.mir (nth d.1 d.2.2.1.1.toNat).2.2.2.1).2.2.2.1 =
  min d.2.1.2.2.2.2.2.2.1.1 (U.mir (nth d.1 d.2.2.1.1.toNat).2.2.2.1).2.2.2.1 ∧
  max d.2.1.2.2.2.2.2.2.1.2.1 (U.mir (nth d.1 d.2.2.1.1.toNat).2.2.2.1).2.2.2.1 =
  max d.2.1.2.2.2.2.2.2.1.2.1 (U.mir (nth d.1 d.2.2.1.1.toNat).2.2.2.1).2.2.2.1 ∧
  min d.2.1.2.2.2.2.2.2.2.1.1 d.2.2.1.2.2.1 =
  min d.2.1.2.2.2.2.2.2.2.1.1 d.2.2.1.2.2.1 ∧
  max d.2.1.2.2.2.2.2.2.2.1.2.1 d.2.2.1.2.2.1 =
  max d.2.1.2.2.2.2.2.2.2.1.2.1 d.2.2.1.2.2.1 ∧
  True ∧ True) ∧
  U.setsTo (U.mv (U.mir (nth d.1 d.2.2.1.1.toNat).2.2.2.1)) (U.mvs d.2.1) d.2.2.1.2.2.2.1 x = [] ∧ True) ∧
  x ≤ (U.mv (U.mir (nth d.1 d.2.2.1.1.toNat).2.2.2.1)).length) ∧
  ∀ (x : Nat),
  x ≤ (U.mv (U.mir (nth d.1 d.2.2.1.1.toNat).2.2.2.1)).length →
  (U.mir (nth d.1 d.2.2.1.1.toNat).2.2.2.1).2.2.2.2.2.1.length < 4611686018427387904 →
  (decide ((x : Int) < (↑(U.mir (nth d.1 d.2.2.1.1.toNat).2.2.2.1).2.2.2.2.2.1.length : Int)) = true →
  0 ≤ (x : Int) ∧
  (x : Int) ≤ (18446744073709551615 : Int) ∧
  0 ≤ (x : Int) ∧
  (x : Int) ≤ (64 : Int) ∧
  (decide (band (d.2.2.1.2.2.2.1 / (2 : Int) ^ (x : Int).toNat) (1 : Int) = (1 : Int)) = true →
  In64 (U.lostTo d.2.2.1.2.2.2.1 x + (1 : Int)) ∧
  In64 ((x : Int) + 1) ∧
  ∃ (x' : Nat),
  (((x : Int) + 1 = (x' : Int) ∧ True) ∧
  U.setsTo (U.mv (U.mir (nth d.1 d.2.2.1.1.toNat).2.2.2.1)) (U.mvs d.2.1) d.2.2.1.2.2.2.1 x =
  U.setsTo (U.mv (U.mir (nth d.1 d.2.2.1.1.toNat).2.2.2.1)) (U.mvs d.2.1) d.2.2.1.2.2.2.1
  x' ∧
  (bor d.2.1.1
  ((1 : Int) * (2 : Int) ^ ((U.mir (nth d.1 d.2.2.1.1.toNat).2.2.2.1).1 + (1 : Int)).toNat) =
  bor d.2.1.1
  ((1 : Int) * (2 : Int) ^ ((U.mir (nth d.1 d.2.2.1.1.toNat).2.2.2.1).1 + (1 : Int)).toNat) ∧
  bor d.2.1.2.1
  ((1 : Int) * (2 : Int) ^ ((U.mir (nth d.1 d.2.2.1.1.toNat).2.2.2.1).2.1 + (1 : Int)).toNat) =
  bor d.2.1.2.1
  ((1 : Int) * (2 : Int) ^ ((U.mir (nth d.1 d.2.2.1.1.toNat).2.2.2.1).2.1 + (1 : Int)).toNat) ∧
  bor d.2.1.2.2.1
  ((1 : Int) * (2 : Int) ^ (U.mir (nth d.1 d.2.2.1.1.toNat).2.2.2.1).2.2.2.2.1.toNat) =
  bor d.2.1.2.2.1
  ((1 : Int) * (2 : Int) ^ (U.mir (nth d.1 d.2.2.1.1.toNat).2.2.2.1).2.2.2.2.1.toNat) ∧
  bor d.2.1.2.2.2.1 ((1 : Int) * (2 : Int) ^ d.2.2.1.2.1.toNat) =
  bor d.2.1.2.2.2.1 ((1 : Int) * (2 : Int) ^ d.2.2.1.2.1.toNat) ∧
  U.lostTo d.2.2.1.2.2.2.1 x + (1 : Int) = U.lostTo d.2.2.1.2.2.2.1 x' ∧
  min d.2.1.2.2.2.2.2.1.1
  (U.mir (nth d.1 d.2.2.1.1.toNat).2.2.2.1).2.2.1 =
  min d.2.1.2.2.2.2.2.1.1
  (U.mir (nth d.1 d.2.2.1.1.toNat).2.2.2.1).2.2.1 ∧
  max d.2.1.2.2.2.2.2.1.2.1
  (U.mir (nth d.1 d.2.2.1.1.toNat).2.2.2.1).2.2.1 =
  max d.2.1.2.2.2.2.2.1.2.1
  (U.mir (nth d.1 d.2.2.1.1.toNat).2.2.2.1).2.2.1 ∧
  min d.2.1.2.2.2.2.2.2.1.1
  (U.mir (nth d.1 d.2.2.1.1.toNat).2.2.2.1).2.2.2.1 =
  min d.2.1.2.2.2.2.2.2.1.1
  (U.mir (nth d.1 d.2.2.1.1.toNat).2.2.2.1).2.2.2.1 ∧
  max d.2.1.2.2.2.2.2.2.1.2.1
  (U.mir (nth d.1 d.2.2.1.1.toNat).2.2.2.1).2.2.2.1 =
  max d.2.1.2.2.2.2.2.2.1.2.1
  (U.mir (nth d.1 d.2.2.1.1.toNat).2.2.2.1).2.2.2.1 ∧
  min d.2.1.2.2.2.2.2.2.2.1.1 d.2.2.1.2.2.1 =
  min d.2.1.2.2.2.2.2.2.2.1.1 d.2.2.1.2.2.1 ∧
  max d.2.1.2.2.2.2.2.2.2.1.2.1 d.2.2.1.2.2.1 =
  max d.2.1.2.2.2.2.2.2.2.1.2.1 d.2.2.1.2.2.1 ∧
  True ∧ True) ∧
  True) ∧
  x' ≤ (U.mv (U.mir (nth d.1 d.2.2.1.1.toNat).2.2.2.1)).length ∧
  (U.mv (U.mir (nth d.1 d.2.2.1.1.toNat).2.2.2.1)).length - x' <
  (U.mv (U.mir (nth d.1 d.2.2.1.1.toNat).2.2.2.1)).length - x) ∧
  (decide (band (d.2.2.1.2.2.2.1 / (2 : Int) ^ (x : Int).toNat) (1 : Int) = (1 : Int)) = false →
  0 ≤ (x : Int) ∧
  (x : Int) < (↑(U.mir (nth d.1 d.2.2.1.1.toNat).2.2.2.1).2.2.2.2.2.1.length : Int) ∧
  (0 : Int) ≤ nth (U.mir (nth d.1 d.2.2.1.1.toNat).2.2.2.1).2.2.2.2.2.1 (x : Int).toNat ∧
  nth (U.mir (nth d.1 d.2.2.1.1.toNat).2.2.2.1).2.2.2.2.2.1 (x : Int).toNat ≤
  (18446744073709551615 : Int) ∧
  (0 : Int) ≤ nth (U.mir (nth d.1 d.2.2.1.1.toNat).2.2.2.1).2.2.2.2.2.1 (x : Int).toNat ∧
  nth (U.mir (nth d.1 d.2.2.1.1.toNat).2.2.2.1).2.2.2.2.2.1 (x : Int).toNat ≤ (64 : Int) ∧
  In64
  ((1 : Int) *
  (2 : Int) ^
  (nth (U.mir (nth d.1 d.2.2.1.1.toNat).2.2.2.1).2.2.2.2.2.1 (x : Int).toNat).toNat) ∧
  ((U.setsTo (U.mv (U.mir (nth d.1 d.2.2.1.1.toNat).2.2.2.1)) (U.mvs d.2.1)
  d.2.2.1.2.2.2.1 x).length <
  4611686018427387904 →
  d.2.1.2.2.2.2.2.2.2.2.1.length < 4611686018427387904 →
  (decide
  ((↑(U.setsTo (U.mv (U.mir (nth d.1 d.2.2.1.1.toNat).2.2.2.1)) (U.mvs d.2.1)
  d.2.2.1.2.2.2.1 x).length :
  Int) <
  (d.2.1.2.2.2.2.2.2.2.2.1.length : Int)) =
  true →
  (U.setsTo (U.mv (U.mir (nth d.1 d.2.2.1.1.toNat).2.2.2.1)) (U.mvs d.2.1)
  d.2.2.1.2.2.2.1 x).length <
  4611686018427387904 →
  (0 : Int) ≤
  (↑(U.setsTo (U.mv (U.mir (nth d.1 d.2.2.1.1.toNat).2.2.2.1)) (U.mvs d.2.1)
  d.2.2.1.2.2.2.1 x).length :
  Int) ∧
  (↑(U.setsTo (U.mv (U.mir (nth d.1 d.2.2.1.1.toNat).2.2.2.1)) (U.mvs d.2.1)
  d.2.2.1.2.2.2.1 x).length :
  Int) <
  (d.2.1.2.2.2.2.2.2.2.2.1.length : Int) ∧
  ((U.setsTo (U.mv (U.mir (nth d.1 d.2.2.1.1.toNat).2.2.2.1)) (U.mvs d.2.1)
  d.2.2.1.2.2.2.1 x).length +
  [bor
  ((1 : Int) *
  (2 : Int) ^
  (nth (U.mir (nth d.1 d.2.2.1.1.toNat).2.2.2.1).2.2.2.2.2.1
  (x : Int).toNat).toNat)
  (nth d.2.1.2.2.2.2.2.2.2.2.1
  (↑(U.setsTo (U.mv (U.mir (nth d.1 d.2.2.1.1.toNat).2.2.2.1))
  (U.mvs d.2.1) d.2.2.1.2.2.2.1 x).length :
  Int).toNat)].length) *
  8 ≤
  140737488355328 ∧
  In64 ((x : Int) + 1) ∧
  ∃ (x' : Nat),
  (((x : Int) + 1 = (x' : Int) ∧ True) ∧
  (bor d.2.1.1
  ((1 : Int) *
  (2 : Int) ^
  ((U.mir (nth d.1 d.2.2.1.1.toNat).2.2.2.1).1 + (1 : Int)).toNat) =
  bor d.2.1.1
  ((1 : Int) *
  (2 : Int) ^
  ((U.mir (nth d.1 d.2.2.1.1.toNat).2.2.2.1).1 + (1 : Int)).toNat) ∧
  bor d.2.1.2.1
  ((1 : Int) *
  (2 : Int) ^
  ((U.mir (nth d.1 d.2.2.1.1.toNat).2.2.2.1).2.1 +
  (1 : Int)).toNat) =
  bor d.2.1.2.1
  ((1 : Int) *
  (2 : Int) ^
  ((U.mir (nth d.1 d.2.2.1.1.toNat).2.2.2.1).2.1 +
  (1 : Int)).toNat) ∧
  bor d.2.1.2.2.1
  ((1 : Int) *
  (2 : Int) ^
  (U.mir
  (nth d.1
  d.2.2.1.1.toNat).2.2.2.1).2.2.2.2.1.toNat) =
  bor d.2.1.2.2.1
  ((1 : Int) *
  (2 : Int) ^
  (U.mir
  (nth d.1
  d.2.2.1.1.toNat).2.2.2.1).2.2.2.2.1.toNat) ∧
  bor d.2.1.2.2.2.1 ((1 : Int) * (2 : Int) ^ d.2.2.1.2.1.toNat) =
  bor d.2.1.2.2.2.1 ((1 : Int) * (2 : Int) ^ d.2.2.1.2.1.toNat) ∧
  U.lostTo d.2.2.1.2.2.2.1 x = U.lostTo d.2.2.1.2.2.2.1 x' ∧
  min d.2.1.2.2.2.2.2.1.1
  (U.mir (nth d.1 d.2.2.1.1.toNat).2.2.2.1).2.2.1 =
  min d.2.1.2.2.2.2.2.1.1
  (U.mir (nth d.1 d.2.2.1.1.toNat).2.2.2.1).2.2.1 ∧
  max d.2.1.2.2.2.2.2.1.2.1
  (U.mir (nth d.1 d.2.2.1.1.toNat).2.2.2.1).2.2.1 =
  max d.2.1.2.2.2.2.2.1.2.1
  (U.mir (nth d.1 d.2.2.1.1.toNat).2.2.2.1).2.2.1 ∧
  min d.2.1.2.2.2.2.2.2.1.1
  (U.mir (nth d.1 d.2.2.1.1.toNat).2.2.2.1).2.2.2.1 =
  min d.2.1.2.2.2.2.2.2.1.1
  (U.mir (nth d.1 d.2.2.1.1.toNat).2.2.2.1).2.2.2.1 ∧
  max d.2.1.2.2.2.2.2.2.1.2.1
  (U.mir
  (nth d.1
  d.2.2.1.1.toNat).2.2.2.1).2.2.2.1 =
  max d.2.1.2.2.2.2.2.2.1.2.1
  (U.mir
  (nth d.1
  d.2.2.1.1.toNat).2.2.2.1).2.2.2.1 ∧
  min d.2.1.2.2.2.2.2.2.2.1.1 d.2.2.1.2.2.1 =
  min d.2.1.2.2.2.2.2.2.2.1.1
  d.2.2.1.2.2.1 ∧
  max d.2.1.2.2.2.2.2.2.2.1.2.1
  d.2.2.1.2.2.1 =
  max d.2.1.2.2.2.2.2.2.2.1.2.1
  d.2.2.1.2.2.1 ∧
  True ∧ True) ∧
  U.setsTo (U.mv (U.mir (nth d.1 d.2.2.1.1.toNat).2.2.2.1)) (U.mvs d.2.1)
  d.2.2.1.2.2.2.1 x ++
  [bor
  ((1 : Int) *
  (2 : Int) ^
  (nth
  (U.mir
  (nth d.1
  d.2.2.1.1.toNat).2.2.2.1).2.2.2.2.2.1
  (x : Int).toNat).toNat)
  (nth d.2.1.2.2.2.2.2.2.2.2.1
  (↑(U.setsTo (U.mv (U.mir (nth d.1 d.2.2.1.1.toNat).2.2.2.1))
  (U.mvs d.2.1) d.2.2.1.2.2.2.1 x).length :
  Int).toNat)] =
  U.setsTo (U.mv (U.mir (nth d.1 d.2.2.1.1.toNat).2.2.2.1)) (U.mvs d.2.1)
  d.2.2.1.2.2.2.1 x' ∧
  True) ∧
  x' ≤ (U.mv (U.mir (nth d.1 d.2.2.1.1.toNat).2.2.2.1)).length ∧
  (U.mv (U.mir (nth d.1 d.2.2.1.1.toNat).2.2.2.1)).length - x' <
  (U.mv (U.mir (nth d.1 d.2.2.1.1.toNat).2.2.2.1)).length - x) ∧
  (decide
  ((↑(U.setsTo (U.mv (U.mir (nth d.1 d.2.2.1.1.toNat).2.2.2.1)) (U.mvs d.2.1)
  d.2.2.1.2.2.2.1 x).length :
  Int) <
  (d.2.1.2.2.2.2.2.2.2.2.1.length : Int)) =
  false →
  ((U.setsTo (U.mv (U.mir (nth d.1 d.2.2.1.1.toNat).2.2.2.1)) (U.mvs d.2.1)
  d.2.2.1.2.2.2.1 x).length +
  [(1 : Int) *
  (2 : Int) ^
  (nth (U.mir (nth d.1 d.2.2.1.1.toNat).2.2.2.1).2.2.2.2.2.1
  (x : Int).toNat).toNat].length) *
  8 ≤
  140737488355328 ∧
  In64 ((x : Int) + 1) ∧
  ∃ (x' : Nat),
  (((x : Int) + 1 = (x' : Int) ∧ True) ∧
  (bor d.2.1.1
  ((1 : Int) *
  (2 : Int) ^
  ((U.mir (nth d.1 d.2.2.1.1.toNat).2.2.2.1).1 + (1 : Int)).toNat) =
  bor d.2.1.1
  ((1 : Int) *
  (2 : Int) ^
  ((U.mir (nth d.1 d.2.2.1.1.toNat).2.2.2.1).1 + (1 : Int)).toNat) ∧
  bor d.2.1.2.1
  ((1 : Int) *
  (2 : Int) ^
  ((U.mir (nth d.1 d.2.2.1.1.toNat).2.2.2.1).2.1 + (1 : Int)).toNat) =
  bor d.2.1.2.1
  ((1 : Int) *
  (2 : Int) ^
  ((U.mir (nth d.1 d.2.2.1.1.toNat).2.2.2.1).2.1 + (1 : Int)).toNat) ∧
  bor d.2.1.2.2.1
  ((1 : Int) *
  (2 : Int) ^
  (U.mir (nth d.1 d.2.2.1.1.toNat).2.2.2.1).2.2.2.2.1.toNat) =
  bor d.2.1.2.2.1
  ((1 : Int) *
  (2 : Int) ^
  (U.mir (nth d.1 d.2.2.1.1.toNat).2.2.2.1).2.2.2.2.1.toNat) ∧
  bor d.2.1.2.2.2.1 ((1 : Int) * (2 : Int) ^ d.2.2.1.2.1.toNat) =
  bor d.2.1.2.2.2.1 ((1 : Int) * (2 : Int) ^ d.2.2.1.2.1.toNat) ∧
  U.lostTo d.2.2.1.2.2.2.1 x = U.lostTo d.2.2.1.2.2.2.1 x' ∧
  min d.2.1.2.2.2.2.2.1.1
  (U.mir (nth d.1 d.2.2.1.1.toNat).2.2.2.1).2.2.1 =
  min d.2.1.2.2.2.2.2.1.1
  (U.mir (nth d.1 d.2.2.1.1.toNat).2.2.2.1).2.2.1 ∧
  max d.2.1.2.2.2.2.2.1.2.1
  (U.mir (nth d.1 d.2.2.1.1.toNat).2.2.2.1).2.2.1 =
  max d.2.1.2.2.2.2.2.1.2.1
  (U.mir (nth d.1 d.2.2.1.1.toNat).2.2.2.1).2.2.1 ∧
  min d.2.1.2.2.2.2.2.2.1.1
  (U.mir (nth d.1 d.2.2.1.1.toNat).2.2.2.1).2.2.2.1 =
  min d.2.1.2.2.2.2.2.2.1.1
  (U.mir (nth d.1 d.2.2.1.1.toNat).2.2.2.1).2.2.2.1 ∧
  max d.2.1.2.2.2.2.2.2.1.2.1
  (U.mir (nth d.1 d.2.2.1.1.toNat).2.2.2.1).2.2.2.1 =
  max d.2.1.2.2.2.2.2.2.1.2.1
  (U.mir (nth d.1 d.2.2.1.1.toNat).2.2.2.1).2.2.2.1 ∧
  min d.2.1.2.2.2.2.2.2.2.1.1 d.2.2.1.2.2.1 =
  min d.2.1.2.2.2.2.2.2.2.1.1 d.2.2.1.2.2.1 ∧
  max d.2.1.2.2.2.2.2.2.2.1.2.1 d.2.2.1.2.2.1 =
  max d.2.1.2.2.2.2.2.2.2.1.2.1
  d.2.2.1.2.2.1 ∧
  True ∧ True) ∧
  U.setsTo (U.mv (U.mir (nth d.1 d.2.2.1.1.toNat).2.2.2.1)) (U.mvs d.2.1)
  d.2.2.1.2.2.2.1 x ++
  [(1 : Int) *
  (2 : Int) ^
  (nth (U.mir (nth d.1 d.2.2.1.1.toNat).2.2.2.1).2.2.2.2.2.1
  (x : Int).toNat).toNat] =
  U.setsTo (U.mv (U.mir (nth d.1 d.2.2.1.1.toNat).2.2.2.1)) (U.mvs d.2.1)
  d.2.2.1.2.2.2.1 x' ∧
  True) ∧
  x' ≤ (U.mv (U.mir (nth d.1 d.2.2.1.1.toNat).2.2.2.1)).length ∧
  (U.mv (U.mir (nth d.1 d.2.2.1.1.toNat).2.2.2.1)).length - x' <
  (U.mv (U.mir (nth d.1 d.2.2.1.1.toNat).2.2.2.1)).length - x)))) ∧
  (decide ((x : Int) < (↑(U.mir (nth d.1 d.2.2.1.1.toNat).2.2.2.1).2.2.2.2.2.1.length : Int)) = false →
  (decide
  ((U.fnd d.1
  (bor d.2.1.1 ((1 : Int) * (2 : Int) ^ ((U.mir (nth d.1 d.2.2.1.1.toNat).2.2.2.1).1 + (1 : Int)).toNat),
  bor d.2.1.2.1
  ((1 : Int) * (2 : Int) ^ ((U.mir (nth d.1 d.2.2.1.1.toNat).2.2.2.1).2.1 + (1 : Int)).toNat),
  bor d.2.1.2.2.1
  ((1 : Int) * (2 : Int) ^ (U.mir (nth d.1 d.2.2.1.1.toNat).2.2.2.1).2.2.2.2.1.toNat),
  bor d.2.1.2.2.2.1 ((1 : Int) * (2 : Int) ^ d.2.2.1.2.1.toNat), U.lostTo d.2.2.1.2.2.2.1 x,
  (min d.2.1.2.2.2.2.2.1.1 (U.mir (nth d.1 d.2.2.1.1.toNat).2.2.2.1).2.2.1,
  max d.2.1.2.2.2.2.2.1.2.1 (U.mir (nth d.1 d.2.2.1.1.toNat).2.2.2.1).2.2.1, ()),
  (min d.2.1.2.2.2.2.2.2.1.1 (U.mir (nth d.1 d.2.2.1.1.toNat).2.2.2.1).2.2.2.1,
  max d.2.1.2.2.2.2.2.2.1.2.1 (U.mir (nth d.1 d.2.2.1.1.toNat).2.2.2.1).2.2.2.1,
  ()),
  (min d.2.1.2.2.2.2.2.2.2.1.1 d.2.2.1.2.2.1,
  max d.2.1.2.2.2.2.2.2.2.1.2.1 d.2.2.1.2.2.1, ()),
  U.setsTo (U.mv (U.mir (nth d.1 d.2.2.1.1.toNat).2.2.2.1)) (U.mvs d.2.1) d.2.2.1.2.2.2.1 x,
  ())).2.1 =
  (0 : Int)) &&
  decide
  ((nth d.1 d.2.2.1.1.toNat).2.1 ∈
  (U.fnd d.1
  (bor d.2.1.1 ((1 : Int) * (2 : Int) ^ ((U.mir (nth d.1 d.2.2.1.1.toNat).2.2.2.1).1 + (1 : Int)).toNat),
  bor d.2.1.2.1
  ((1 : Int) * (2 : Int) ^ ((U.mir (nth d.1 d.2.2.1.1.toNat).2.2.2.1).2.1 + (1 : Int)).toNat),
  bor d.2.1.2.2.1
  ((1 : Int) * (2 : Int) ^ (U.mir (nth d.1 d.2.2.1.1.toNat).2.2.2.1).2.2.2.2.1.toNat),
  bor d.2.1.2.2.2.1 ((1 : Int) * (2 : Int) ^ d.2.2.1.2.1.toNat), U.lostTo d.2.2.1.2.2.2.1 x,
  (min d.2.1.2.2.2.2.2.1.1 (U.mir (nth d.1 d.2.2.1.1.toNat).2.2.2.1).2.2.1,
  max d.2.1.2.2.2.2.2.1.2.1 (U.mir (nth d.1 d.2.2.1.1.toNat).2.2.2.1).2.2.1, ()),
  (min d.2.1.2.2.2.2.2.2.1.1 (U.mir (nth d.1 d.2.2.1.1.toNat).2.2.2.1).2.2.2.1,
  max d.2.1.2.2.2.2.2.2.1.2.1 (U.mir (nth d.1 d.2.2.1.1.toNat).2.2.2.1).2.2.2.1,
  ()),
  (min d.2.1.2.2.2.2.2.2.2.1.1 d.2.2.1.2.2.1,
  max d.2.1.2.2.2.2.2.2.2.1.2.1 d.2.2.1.2.2.1, ()),
  U.setsTo (U.mv (U.mir (nth d.1 d.2.2.1.1.toNat).2.2.2.1)) (U.mvs d.2.1) d.2.2.1.2.2.2.1 x,
  ())).1) &&
  true,
  ()) =
  (true, ()))) ∧
  (d.2.2.1.2.2.2.2.1 = false →
  In64 ((nth d.1 d.2.2.1.1.toNat).2.2.2.1.1 + (1 : Int)) ∧
  (0 : Int) ≤ (nth d.1 d.2.2.1.1.toNat).2.2.2.1.1 + (1 : Int) ∧
  (nth d.1 d.2.2.1.1.toNat).2.2.2.1.1 + (1 : Int) ≤ (18446744073709551615 : Int) ∧
  (0 : Int) ≤ (nth d.1 d.2.2.1.1.toNat).2.2.2.1.1 + (1 : Int) ∧
  (nth d.1 d.2.2.1.1.toNat).2.2.2.1.1 + (1 : Int) ≤ (64 : Int) ∧
  In64 ((1 : Int) * (2 : Int) ^ ((nth d.1 d.2.2.1.1.toNat).2.2.2.1.1 + (1 : Int)).toNat) ∧
  In64 ((nth d.1 d.2.2.1.1.toNat).2.2.2.1.2.1 + (1 : Int)) ∧
  (0 : Int) ≤ (nth d.1 d.2.2.1.1.toNat).2.2.2.1.2.1 + (1 : Int) ∧
  (nth d.1 d.2.2.1.1.toNat).2.2.2.1.2.1 + (1 : Int) ≤ (18446744073709551615 : Int) ∧
  (0 : Int) ≤ (nth d.1 d.2.2.1.1.toNat).2.2.2.1.2.1 + (1 : Int) ∧
  (nth d.1 d.2.2.1.1.toNat).2.2.2.1.2.1 + (1 : Int) ≤ (64 : Int) ∧
  In64 ((1 : Int) * (2 : Int) ^ ((nth d.1 d.2.2.1.1.toNat).2.2.2.1.2.1 + (1 : Int)).toNat) ∧
  (0 : Int) ≤ (nth d.1 d.2.2.1.1.toNat).2.2.2.1.2.2.2.2.1 ∧
  (nth d.1 d.2.2.1.1.toNat).2.2.2.1.2.2.2.2.1 ≤ (18446744073709551615 : Int) ∧
  (0 : Int) ≤ (nth d.1 d.2.2.1.1.toNat).2.2.2.1.2.2.2.2.1 ∧
  (nth d.1 d.2.2.1.1.toNat).2.2.2.1.2.2.2.2.1 ≤ (64 : Int) ∧
  In64 ((1 : Int) * (2 : Int) ^ (nth d.1 d.2.2.1.1.toNat).2.2.2.1.2.2.2.2.1.toNat) ∧
  (0 : Int) ≤ d.2.2.1.2.1 ∧
  d.2.2.1.2.1 ≤ (18446744073709551615 : Int) ∧
  (0 : Int) ≤ d.2.2.1.2.1 ∧
  d.2.2.1.2.1 ≤ (64 : Int) ∧
  In64 ((1 : Int) * (2 : Int) ^ d.2.2.1.2.1.toNat) ∧
  (∃ (x : Nat),
  (((0 : Int) = (x : Int) ∧ True) ∧
  (bor d.2.1.1 ((1 : Int) * (2 : Int) ^ ((nth d.1 d.2.2.1.1.toNat).2.2.2.1.1 + (1 : Int)).toNat) =
  bor d.2.1.1 ((1 : Int) * (2 : Int) ^ ((nth d.1 d.2.2.1.1.toNat).2.2.2.1.1 + (1 : Int)).toNat) ∧
  bor d.2.1.2.1 ((1 : Int) * (2 : Int) ^ ((nth d.1 d.2.2.1.1.toNat).2.2.2.1.2.1 + (1 : Int)).toNat) =
  bor d.2.1.2.1 ((1 : Int) * (2 : Int) ^ ((nth d.1 d.2.2.1.1.toNat).2.2.2.1.2.1 + (1 : Int)).toNat) ∧
  bor d.2.1.2.2.1 ((1 : Int) * (2 : Int) ^ (nth d.1 d.2.2.1.1.toNat).2.2.2.1.2.2.2.2.1.toNat) =
  bor d.2.1.2.2.1 ((1 : Int) * (2 : Int) ^ (nth d.1 d.2.2.1.1.toNat).2.2.2.1.2.2.2.2.1.toNat) ∧
  bor d.2.1.2.2.2.1 ((1 : Int) * (2 : Int) ^ d.2.2.1.2.1.toNat) =
  bor d.2.1.2.2.2.1 ((1 : Int) * (2 : Int) ^ d.2.2.1.2.1.toNat) ∧
  (0 : Int) = U.lostTo d.2.2.1.2.2.2.1 x ∧
  min d.2.1.2.2.2.2.2.1.1 (nth d.1 d.2.2.1.1.toNat).2.2.2.1.2.2.1 =
  min d.2.1.2.2.2.2.2.1.1 (nth d.1 d.2.2.1.1.toNat).2.2.2.1.2.2.1 ∧
  max d.2.1.2.2.2.2.2.1.2.1 (nth d.1 d.2.2.1.1.toNat).2.2.2.1.2.2.1 =
  max d.2.1.2.2.2.2.2.1.2.1 (nth d.1 d.2.2.1.1.toNat).2.2.2.1.2.2.1 ∧
  min d.2.1.2.2.2.2.2.2.1.1 (nth d.1 d.2.2.1.1.toNat).2.2.2.1.2.2.2.1 =
  min d.2.1.2.2.2.2.2.2.1.1 (nth d.1 d.2.2.1.1.toNat).2.2.2.1.2.2.2.1 ∧
  max d.2.1.2.2.2.2.2.2.1.2.1 (nth d.1 d.2.2.1.1.toNat).2.2.2.1.2.2.2.1 =
  max d.2.1.2.2.2.2.2.2.1.2.1 (nth d.1 d.2.2.1.1.toNat).2.2.2.1.2.2.2.1 ∧
  min d.2.1.2.2.2.2.2.2.2.1.1 d.2.2.1.2.2.1 =
  min d.2.1.2.2.2.2.2.2.2.1.1 d.2.2.1.2.2.1 ∧
  max d.2.1.2.2.2.2.2.2.2.1.2.1 d.2.2.1.2.2.1 =
  max d.2.1.2.2.2.2.2.2.2.1.2.1 d.2.2.1.2.2.1 ∧
  True ∧ True) ∧
  U.setsTo (U.mv (nth d.1 d.2.2.1.1.toNat).2.2.2.1) (U.mvs d.2.1) d.2.2.1.2.2.2.1 x = [] ∧ True) ∧
  x ≤ (U.mv (nth d.1 d.2.2.1.1.toNat).2.2.2.1).length) ∧
  ∀ (x : Nat),
  x ≤ (U.mv (nth d.1 d.2.2.1.1.toNat).2.2.2.1).length →
  (nth d.1 d.2.2.1.1.toNat).2.2.2.1.2.2.2.2.2.1.length < 4611686018427387904 →
  (decide ((x : Int) < (↑(nth d.1 d.2.2.1.1.toNat).2.2.2.1.2.2.2.2.2.1.length : Int)) = true →
  0 ≤ (x : Int) ∧
  (x : Int) ≤ (18446744073709551615 : Int) ∧
  0 ≤ (x : Int) ∧
  (x : Int) ≤ (64 : Int) ∧
  (decide (band (d.2.2.1.2.2.2.1 / (2 : Int) ^ (x : Int).toNat) (1 : Int) = (1 : Int)) = true →
  In64 (U.lostTo d.2.2.1.2.2.2.1 x + (1 : Int)) ∧
  In64 ((x : Int) + 1) ∧
  ∃ (x' : Nat),
  (((x : Int) + 1 = (x' : Int) ∧ True) ∧
  U.setsTo (U.mv (nth d.1 d.2.2.1.1.toNat).2.2.2.1) (U.mvs d.2.1) d.2.2.1.2.2.2.1 x =
  U.setsTo (U.mv (nth d.1 d.2.2.1.1.toNat).2.2.2.1) (U.mvs d.2.1) d.2.2.1.2.2.2.1 x' ∧
  (bor d.2.1.1 ((1 : Int) * (2 : Int) ^ ((nth d.1 d.2.2.1.1.toNat).2.2.2.1.1 + (1 : Int)).toNat) =
  bor d.2.1.1 ((1 : Int) * (2 : Int) ^ ((nth d.1 d.2.2.1.1.toNat).2.2.2.1.1 + (1 : Int)).toNat) ∧
  bor d.2.1.2.1
  ((1 : Int) * (2 : Int) ^ ((nth d.1 d.2.2.1.1.toNat).2.2.2.1.2.1 + (1 : Int)).toNat) =
  bor d.2.1.2.1
  ((1 : Int) * (2 : Int) ^ ((nth d.1 d.2.2.1.1.toNat).2.2.2.1.2.1 + (1 : Int)).toNat) ∧
  bor d.2.1.2.2.1
  ((1 : Int) * (2 : Int) ^ (nth d.1 d.2.2.1.1.toNat).2.2.2.1.2.2.2.2.1.toNat) =
  bor d.2.1.2.2.1
  ((1 : Int) * (2 : Int) ^ (nth d.1 d.2.2.1.1.toNat).2.2.2.1.2.2.2.2.1.toNat) ∧
  bor d.2.1.2.2.2.1 ((1 : Int) * (2 : Int) ^ d.2.2.1.2.1.toNat) =
  bor d.2.1.2.2.2.1 ((1 : Int) * (2 : Int) ^ d.2.2.1.2.1.toNat) ∧
  U.lostTo d.2.2.1.2.2.2.1 x + (1 : Int) = U.lostTo d.2.2.1.2.2.2.1 x' ∧
  min d.2.1.2.2.2.2.2.1.1 (nth d.1 d.2.2.1.1.toNat).2.2.2.1.2.2.1 =
  min d.2.1.2.2.2.2.2.1.1 (nth d.1 d.2.2.1.1.toNat).2.2.2.1.2.2.1 ∧
  max d.2.1.2.2.2.2.2.1.2.1 (nth d.1 d.2.2.1.1.toNat).2.2.2.1.2.2.1 =
  max d.2.1.2.2.2.2.2.1.2.1
  (nth d.1 d.2.2.1.1.toNat).2.2.2.1.2.2.1 ∧
  min d.2.1.2.2.2.2.2.2.1.1
  (nth d.1 d.2.2.1.1.toNat).2.2.2.1.2.2.2.1 =
  min d.2.1.2.2.2.2.2.2.1.1
  (nth d.1 d.2.2.1.1.toNat).2.2.2.1.2.2.2.1 ∧
  max d.2.1.2.2.2.2.2.2.1.2.1
  (nth d.1 d.2.2.1.1.toNat).2.2.2.1.2.2.2.1 =
  max d.2.1.2.2.2.2.2.2.1.2.1
  (nth d.1 d.2.2.1.1.toNat).2.2.2.1.2.2.2.1 ∧
  min d.2.1.2.2.2.2.2.2.2.1.1 d.2.2.1.2.2.1 =
  min d.2.1.2.2.2.2.2.2.2.1.1 d.2.2.1.2.2.1 ∧
  max d.2.1.2.2.2.2.2.2.2.1.2.1 d.2.2.1.2.2.1 =
  max d.2.1.2.2.2.2.2.2.2.1.2.1 d.2.2.1.2.2.1 ∧
  True ∧ True) ∧
  True) ∧
  x' ≤ (U.mv (nth d.1 d.2.2.1.1.toNat).2.2.2.1).length ∧
  (U.mv (nth d.1 d.2.2.1.1.toNat).2.2.2.1).length - x' <
  (U.mv (nth d.1 d.2.2.1.1.toNat).2.2.2.1).length - x) ∧
  (decide (band (d.2.2.1.2.2.2.1 / (2 : Int) ^ (x : Int).toNat) (1 : Int) = (1 : Int)) = false →
  0 ≤ (x : Int) ∧
  (x : Int) < (↑(nth d.1 d.2.2.1.1.toNat).2.2.2.1.2.2.2.2.2.1.length : Int) ∧
  (0 : Int) ≤ nth (nth d.1 d.2.2.1.1.toNat).2.2.2.1.2.2.2.2.2.1 (x : Int).toNat ∧
  nth (nth d.1 d.2.2.1.1.toNat).2.2.2.1.2.2.2.2.2.1 (x : Int).toNat ≤ (18446744073709551615 : Int) ∧
  (0 : Int) ≤ nth (nth d.1 d.2.2.1.1.toNat).2.2.2.1.2.2.2.2.2.1 (x : Int).toNat ∧
  nth (nth d.1 d.2.2.1.1.toNat).2.2.2.1.2.2.2.2.2.1 (x : Int).toNat ≤ (64 : Int) ∧
  In64
  ((1 : Int) *
  (2 : Int) ^ (nth (nth d.1 d.2.2.1.1.toNat).2.2.2.1.2.2.2.2.2.1 (x : Int).toNat).toNat) ∧
  ((U.setsTo (U.mv (nth d.1 d.2.2.1.1.toNat).2.2.2.1) (U.mvs d.2.1) d.2.2.1.2.2.2.1
  x).length <
  4611686018427387904 →
  d.2.1.2.2.2.2.2.2.2.2.1.length < 4611686018427387904 →
  (decide
  ((↑(U.setsTo (U.mv (nth d.1 d.2.2.1.1.toNat).2.2.2.1) (U.mvs d.2.1)
  d.2.2.1.2.2.2.1 x).length :
  Int) <
  (d.2.1.2.2.2.2.2.2.2.2.1.length : Int)) =
  true →
  (U.setsTo (U.mv (nth d.1 d.2.2.1.1.toNat).2.2.2.1) (U.mvs d.2.1) d.2.2.1.2.2.2.1
  x).length <
  4611686018427387904 →
  (0 : Int) ≤
  (↑(U.setsTo (U.mv (nth d.1 d.2.2.1.1.toNat).2.2.2.1) (U.mvs d.2.1)
  d.2.2.1.2.2.2.1 x).length :
  Int) ∧
  (↑(U.setsTo (U.mv (nth d.1 d.2.2.1.1.toNat).2.2.2.1) (U.mvs d.2.1)
  d.2.2.1.2.2.2.1 x).length :
  Int) <
  (d.2.1.2.2.2.2.2.2.2.2.1.length : Int) ∧
  ((U.setsTo (U.mv (nth d.1 d.2.2.1.1.toNat).2.2.2.1) (U.mvs d.2.1)
  d.2.2.1.2.2.2.1 x).length +
  [bor
  ((1 : Int) *
  (2 : Int) ^
  (nth (nth d.1 d.2.2.1.1.toNat).2.2.2.1.2.2.2.2.2.1
  (x : Int).toNat).toNat)
  (nth d.2.1.2.2.2.2.2.2.2.2.1
  (↑(U.setsTo (U.mv (nth d.1 d.2.2.1.1.toNat).2.2.2.1) (U.mvs d.2.1)
  d.2.2.1.2.2.2.1 x).length :
  Int).toNat)].length) *
  8 ≤
  140737488355328 ∧
  In64 ((x : Int) + 1) ∧
  ∃ (x' : Nat),
  (((x : Int) + 1 = (x' : Int) ∧ True) ∧
  (bor d.2.1.1
  ((1 : Int) *
  (2 : Int) ^ ((nth d.1 d.2.2.1.1.toNat).2.2.2.1.1 + (1 : Int)).toNat) =
  bor d.2.1.1
  ((1 : Int) *
  (2 : Int) ^ ((nth d.1 d.2.2.1.1.toNat).2.2.2.1.1 + (1 : Int)).toNat) ∧
  bor d.2.1.2.1
  ((1 : Int) *
  (2 : Int) ^
  ((nth d.1 d.2.2.1.1.toNat).2.2.2.1.2.1 + (1 : Int)).toNat) =
  bor d.2.1.2.1
  ((1 : Int) *
  (2 : Int) ^
  ((nth d.1 d.2.2.1.1.toNat).2.2.2.1.2.1 + (1 : Int)).toNat) ∧
  bor d.2.1.2.2.1
  ((1 : Int) *
  (2 : Int) ^
  (nth d.1 d.2.2.1.1.toNat).2.2.2.1.2.2.2.2.1.toNat) =
  bor d.2.1.2.2.1
  ((1 : Int) *
  (2 : Int) ^
  (nth d.1 d.2.2.1.1.toNat).2.2.2.1.2.2.2.2.1.toNat) ∧
  bor d.2.1.2.2.2.1 ((1 : Int) * (2 : Int) ^ d.2.2.1.2.1.toNat) =
  bor d.2.1.2.2.2.1 ((1 : Int) * (2 : Int) ^ d.2.2.1.2.1.toNat) ∧
  U.lostTo d.2.2.1.2.2.2.1 x = U.lostTo d.2.2.1.2.2.2.1 x' ∧
  min d.2.1.2.2.2.2.2.1.1
  (nth d.1 d.2.2.1.1.toNat).2.2.2.1.2.2.1 =
  min d.2.1.2.2.2.2.2.1.1
  (nth d.1 d.2.2.1.1.toNat).2.2.2.1.2.2.1 ∧
  max d.2.1.2.2.2.2.2.1.2.1
  (nth d.1 d.2.2.1.1.toNat).2.2.2.1.2.2.1 =
  max d.2.1.2.2.2.2.2.1.2.1
  (nth d.1 d.2.2.1.1.toNat).2.2.2.1.2.2.1 ∧
  min d.2.1.2.2.2.2.2.2.1.1
  (nth d.1 d.2.2.1.1.toNat).2.2.2.1.2.2.2.1 =
  min d.2.1.2.2.2.2.2.2.1.1
  (nth d.1 d.2.2.1.1.toNat).2.2.2.1.2.2.2.1 ∧
  max d.2.1.2.2.2.2.2.2.1.2.1
  (nth d.1 d.2.2.1.1.toNat).2.2.2.1.2.2.2.1 =
  max d.2.1.2.2.2.2.2.2.1.2.1
  (nth d.1 d.2.2.1.1.toNat).2.2.2.1.2.2.2.1 ∧
  min d.2.1.2.2.2.2.2.2.2.1.1 d.2.2.1.2.2.1 =
  min d.2.1.2.2.2.2.2.2.2.1.1 d.2.2.1.2.2.1 ∧
  max d.2.1.2.2.2.2.2.2.2.1.2.1
  d.2.2.1.2.2.1 =
  max d.2.1.2.2.2.2.2.2.2.1.2.1
  d.2.2.1.2.2.1 ∧
  True ∧ True) ∧
  U.setsTo (U.mv (nth d.1 d.2.2.1.1.toNat).2.2.2.1) (U.mvs d.2.1)
  d.2.2.1.2.2.2.1 x ++
  [bor
  ((1 : Int) *
  (2 : Int) ^
  (nth (nth d.1 d.2.2.1.1.toNat).2.2.2.1.2.2.2.2.2.1
  (x : Int).toNat).toNat)
  (nth d.2.1.2.2.2.2.2.2.2.2.1
  (↑(U.setsTo (U.mv (nth d.1 d.2.2.1.1.toNat).2.2.2.1) (U.mvs d.2.1)
  d.2.2.1.2.2.2.1 x).length :
  Int).toNat)] =
  U.setsTo (U.mv (nth d.1 d.2.2.1.1.toNat).2.2.2.1) (U.mvs d.2.1)
  d.2.2.1.2.2.2.1 x' ∧
  True) ∧
  x' ≤ (U.mv (nth d.1 d.2.2.1.1.toNat).2.2.2.1).length ∧
  (U.mv (nth d.1 d.2.2.1.1.toNat).2.2.2.1).length - x' <
  (U.mv (nth d.1 d.2.2.1.1.toNat).2.2.2.1).length - x) ∧
  (decide
  ((↑(U.setsTo (U.mv (nth d.1 d.2.2.1.1.toNat).2.2.2.1) (U.mvs d.2.1)
  d.2.2.1.2.2.2.1 x).length :
  Int) <
  (d.2.1.2.2.2.2.2.2.2.2.1.length : Int)) =
  false →
  ((U.setsTo (U.mv (nth d.1 d.2.2.1.1.toNat).2.2.2.1) (U.mvs d.2.1) d.2.2.1.2.2.2.1
  x).length +
  [(1 : Int) *
  (2 : Int) ^
  (nth (nth d.1 d.2.2.1.1.toNat).2.2.2.1.2.2.2.2.2.1
  (x : Int).toNat).toNat].length) *
  8 ≤
  140737488355328 ∧
  In64 ((x : Int) + 1) ∧
  ∃ (x' : Nat),
  (((x : Int) + 1 = (x' : Int) ∧ True) ∧
  (bor d.2.1.1
  ((1 : Int) *
  (2 : Int) ^ ((nth d.1 d.2.2.1.1.toNat).2.2.2.1.1 + (1 : Int)).toNat) =
  bor d.2.1.1
  ((1 : Int) *
  (2 : Int) ^ ((nth d.1 d.2.2.1.1.toNat).2.2.2.1.1 + (1 : Int)).toNat) ∧
  bor d.2.1.2.1
  ((1 : Int) *
  (2 : Int) ^ ((nth d.1 d.2.2.1.1.toNat).2.2.2.1.2.1 + (1 : Int)).toNat) =
  bor d.2.1.2.1
  ((1 : Int) *
  (2 : Int) ^ ((nth d.1 d.2.2.1.1.toNat).2.2.2.1.2.1 + (1 : Int)).toNat) ∧
  bor d.2.1.2.2.1
  ((1 : Int) *
  (2 : Int) ^ (nth d.1 d.2.2.1.1.toNat).2.2.2.1.2.2.2.2.1.toNat) =
  bor d.2.1.2.2.1
  ((1 : Int) *
  (2 : Int) ^ (nth d.1 d.2.2.1.1.toNat).2.2.2.1.2.2.2.2.1.toNat) ∧
  bor d.2.1.2.2.2.1 ((1 : Int) * (2 : Int) ^ d.2.2.1.2.1.toNat) =
  bor d.2.1.2.2.2.1 ((1 : Int) * (2 : Int) ^ d.2.2.1.2.1.toNat) ∧
  U.lostTo d.2.2.1.2.2.2.1 x = U.lostTo d.2.2.1.2.2.2.1 x' ∧
  min d.2.1.2.2.2.2.2.1.1
  (nth d.1 d.2.2.1.1.toNat).2.2.2.1.2.2.1 =
  min d.2.1.2.2.2.2.2.1.1
  (nth d.1 d.2.2.1.1.toNat).2.2.2.1.2.2.1 ∧
  max d.2.1.2.2.2.2.2.1.2.1
  (nth d.1 d.2.2.1.1.toNat).2.2.2.1.2.2.1 =
  max d.2.1.2.2.2.2.2.1.2.1
  (nth d.1 d.2.2.1.1.toNat).2.2.2.1.2.2.1 ∧
  min d.2.1.2.2.2.2.2.2.1.1
  (nth d.1 d.2.2.1.1.toNat).2.2.2.1.2.2.2.1 =
  min d.2.1.2.2.2.2.2.2.1.1
  (nth d.1 d.2.2.1.1.toNat).2.2.2.1.2.2.2.1 ∧
  max d.2.1.2.2.2.2.2.2.1.2.1
  (nth d.1 d.2.2.1.1.toNat).2.2.2.1.2.2.2.1 =
  max d.2.1.2.2.2.2.2.2.1.2.1
  (nth d.1 d.2.2.1.1.toNat).2.2.2.1.2.2.2.1 ∧
  min d.2.1.2.2.2.2.2.2.2.1.1 d.2.2.1.2.2.1 =
  min d.2.1.2.2.2.2.2.2.2.1.1 d.2.2.1.2.2.1 ∧
  max d.2.1.2.2.2.2.2.2.2.1.2.1 d.2.2.1.2.2.1 =
  max d.2.1.2.2.2.2.2.2.2.1.2.1 d.2.2.1.2.2.1 ∧
  True ∧ True) ∧
  U.setsTo (U.mv (nth d.1 d.2.2.1.1.toNat).2.2.2.1) (U.mvs d.2.1)
  d.2.2.1.2.2.2.1 x ++
  [(1 : Int) *
  (2 : Int) ^
  (nth (nth d.1 d.2.2.1.1.toNat).2.2.2.1.2.2.2.2.2.1
  (x : Int).toNat).toNat] =
  U.setsTo (U.mv (nth d.1 d.2.2.1.1.toNat).2.2.2.1) (U.mvs d.2.1)
  d.2.2.1.2.2.2.1 x' ∧
  True) ∧
  x' ≤ (U.mv (nth d.1 d.2.2.1.1.toNat).2.2.2.1).length ∧
  (U.mv (nth d.1 d.2.2.1.1.toNat).2.2.2.1).length - x' <
  (U.mv (nth d.1 d.2.2.1.1.toNat).2.2.2.1).length - x)))) ∧
  (decide ((x : Int) < (↑(nth d.1 d.2.2.1.1.toNat).2.2.2.1.2.2.2.2.2.1.length : Int)) = false →
  (decide
  ((U.fnd d.1
  (bor d.2.1.1 ((1 : Int) * (2 : Int) ^ ((nth d.1 d.2.2.1.1.toNat).2.2.2.1.1 + (1 : Int)).toNat),
  bor d.2.1.2.1 ((1 : Int) * (2 : Int) ^ ((nth d.1 d.2.2.1.1.toNat).2.2.2.1.2.1 + (1 : Int)).toNat),
  bor d.2.1.2.2.1 ((1 : Int) * (2 : Int) ^ (nth d.1 d.2.2.1.1.toNat).2.2.2.1.2.2.2.2.1.toNat),
  bor d.2.1.2.2.2.1 ((1 : Int) * (2 : Int) ^ d.2.2.1.2.1.toNat), U.lostTo d.2.2.1.2.2.2.1 x,
  (min d.2.1.2.2.2.2.2.1.1 (nth d.1 d.2.2.1.1.toNat).2.2.2.1.2.2.1,
  max d.2.1.2.2.2.2.2.1.2.1 (nth d.1 d.2.2.1.1.toNat).2.2.2.1.2.2.1, ()),
  (min d.2.1.2.2.2.2.2.2.1.1 (nth d.1 d.2.2.1.1.toNat).2.2.2.1.2.2.2.1,
  max d.2.1.2.2.2.2.2.2.1.2.1 (nth d.1 d.2.2.1.1.toNat).2.2.2.1.2.2.2.1, ()),
  (min d.2.1.2.2.2.2.2.2.2.1.1 d.2.2.1.2.2.1,
  max d.2.1.2.2.2.2.2.2.2.1.2.1 d.2.2.1.2.2.1, ()),
  U.setsTo (U.mv (nth d.1 d.2.2.1.1.toNat).2.2.2.1) (U.mvs d.2.1) d.2.2.1.2.2.2.1 x,
  ())).2.1 =
  (0 : Int)) &&
  decide
  ((nth d.1 d.2.2.1.1.toNat).2.1 ∈
  (U.fnd d.1
  (bor d.2.1.1 ((1 : Int) * (2 : Int) ^ ((nth d.1 d.2.2.1.1.toNat).2.2.2.1.1 + (1 : Int)).toNat),
  bor d.2.1.2.1 ((1 : Int) * (2 : Int) ^ ((nth d.1 d.2.2.1.1.toNat).2.2.2.1.2.1 + (1 : Int)).toNat),
  bor d.2.1.2.2.1 ((1 : Int) * (2 : Int) ^ (nth d.1 d.2.2.1.1.toNat).2.2.2.1.2.2.2.2.1.toNat),
  bor d.2.1.2.2.2.1 ((1 : Int) * (2 : Int) ^ d.2.2.1.2.1.toNat), U.lostTo d.2.2.1.2.2.2.1 x,
  (min d.2.1.2.2.2.2.2.1.1 (nth d.1 d.2.2.1.1.toNat).2.2.2.1.2.2.1,
  max d.2.1.2.2.2.2.2.1.2.1 (nth d.1 d.2.2.1.1.toNat).2.2.2.1.2.2.1, ()),
  (min d.2.1.2.2.2.2.2.2.1.1 (nth d.1 d.2.2.1.1.toNat).2.2.2.1.2.2.2.1,
  max d.2.1.2.2.2.2.2.2.1.2.1 (nth d.1 d.2.2.1.1.toNat).2.2.2.1.2.2.2.1, ()),
  (min d.2.1.2.2.2.2.2.2.2.1.1 d.2.2.1.2.2.1,
  max d.2.1.2.2.2.2.2.2.2.1.2.1 d.2.2.1.2.2.1, ()),
  U.setsTo (U.mv (nth d.1 d.2.2.1.1.toNat).2.2.2.1) (U.mvs d.2.1) d.2.2.1.2.2.2.1 x, ())).1) &&
  true,
  ()) =
  (true, ())))))

theorem vc6_eq : fnVC (ctx 229 ((15, sp15) :: FS) []) (an6) Tryz.f6 (bodyOf Tryz.f6) sp6 = vc6 := by kernel_rfl


end Go.X
/-
  Signs: what a signer makes is found.
-/
namespace Go.X
open Go.Proofs

theorem emb_add {u : List Int} : ∀ {r t : List Int}, emb r t = true → emb r (t ++ u) = true
  | [], _, _ => by cases u <;> simp [emb]
  | s :: r, [], h => by simp [emb] at h
  | s :: r, m :: t, h => by
    rw [emb_cc, Bool.or_eq_true, Bool.and_eq_true] at h
    rw [List.cons_append, emb_cc, Bool.or_eq_true, Bool.and_eq_true]
    exact h.imp (fun h => ⟨h.1, emb_add h.2⟩) emb_add
theorem emb_snoc {s m : Int} (hs : U.bit s m = true) : ∀ {r t : List Int}, emb r t = true → emb (r ++ [s]) (t ++ [m]) = true
  | [], [], _ => by simp [emb, hs]
  | [], k :: t, _ => by
    have h := emb_snoc hs (r := []) (t := t) (by cases t <;> rfl)
    rw [List.nil_append] at h ⊢
    rw [List.cons_append, emb_cc, h, Bool.or_true]
  | a :: r, [], h => by simp [emb] at h
  | a :: r, k :: t, h => by
    rw [emb_cc, Bool.or_eq_true, Bool.and_eq_true] at h
    rw [List.cons_append, List.cons_append, emb_cc, Bool.or_eq_true, Bool.and_eq_true]
    exact h.imp (fun h => ⟨h.1, emb_snoc hs h.2⟩) (fun h => by
      have := emb_snoc hs h
      rwa [List.cons_append] at this)
theorem bit_bor_left {a : Int} {k : Nat} (hk : k ≤ 59) (ha : 0 ≤ a ∧ a < 2 ^ 62) {m : Int} (hm : m = (k : Int)) : U.bit (bor a (2 ^ k)) m = true := by
  have hp := pow_le (k := k) (m := 59) hk
  have h59 : (2 : Int) ^ 59 < 2 ^ 62 := by decide
  rw [bit_bor ha ⟨by omega, by omega⟩ (by omega), bit_two (by omega) (by omega), decide_eq_true hm, Bool.or_true]
theorem bor_comm (a b : Int) : bor a b = bor b a := by unfold bor; rw [BitVec.or_comm]
theorem setAt_ok {m : Int} (hm : 0 ≤ m ∧ m ≤ 7) {ss out : List Int} (hss : ss.all U.okSet = true) : U.okSet (U.setAt m ss out) = true ∧ U.bit (U.setAt m ss out) m = true := by
  have hp := pow_le (k := m.toNat) (m := 7) (by omega)
  unfold U.setAt U.two
  split
  · rename_i h
    have h1 := List.all_eq_true.1 hss _ (L.mem_nth h)
    unfold U.okSet at h1
    have h1 := of_decide_eq_true h1
    have := bor_range (m := 8) (by decide) (a := 2 ^ m.toNat) (b := nth ss out.length) (by omega) (by omega)
    refine ⟨?_, ?_⟩
    · unfold U.okSet; exact decide_eq_true (by omega)
    · rw [bor_comm]; exact bit_bor_left (by omega) (by omega) (by omega)
  · refine ⟨?_, ?_⟩
    · unfold U.okSet; exact decide_eq_true (by omega)
    · rw [bit_two (by omega) hm.1]; exact decide_eq_true (by omega)
theorem sets_inv {l ss : List Int} {q : Int} (hl : ∀ m, m ∈ l → U.okMove m = true) (hss : ss.all U.okSet = true) : ∀ n : Nat, n ≤ l.length →
    ((U.setsTo l ss q n).length : Int) + U.lostTo q n = (n : Int) ∧ 0 ≤ U.lostTo q n ∧ (U.setsTo l ss q n).all U.okSet = true ∧ emb (U.setsTo l ss q n) (l.take n) = true
  | 0, _ => by simp [U.setsTo, U.lostTo, emb]
  | n + 1, hn => by
    obtain ⟨h1, h2, h3, h4⟩ := sets_inv hl hss n (by omega)
    rw [L.take_succ (by omega : n < l.length)]
    unfold U.setsTo U.lostTo
    split
    · exact ⟨by omega, by omega, h3, emb_add h4⟩
    · obtain ⟨g1, g2⟩ := setAt_ok (okMove_iff.1 (hl _ (L.mem_nth (by omega : n < l.length)))) (out := U.setsTo l ss q n) hss
      refine ⟨by rw [List.length_append]; simp only [List.length_cons, List.length_nil]; omega, h2, ?_, emb_snoc g2 h4⟩
      rw [List.all_append, h3]
      simp [g1]
theorem sets_miss {l ss : List Int} {q : Int} {n : Nat} (h : U.bit q (n : Int) = true) : U.setsTo l ss q n = U.setsTo l ss q (n + 1) ∧ U.lostTo q n + 1 = U.lostTo q (n + 1) := by
  have e1 : U.setsTo l ss q (n + 1) = if U.bit q (n : Int) = true then U.setsTo l ss q n else U.setsTo l ss q n ++ [U.setAt (nth l n) ss (U.setsTo l ss q n)] := rfl
  have e2 : U.lostTo q (n + 1) = if U.bit q (n : Int) = true then U.lostTo q n + 1 else U.lostTo q n := rfl
  rw [e1, e2, if_pos h, if_pos h]; exact ⟨rfl, rfl⟩
theorem sets_hit {l ss : List Int} {q : Int} {n : Nat} (h : U.bit q (n : Int) = false) : U.setsTo l ss q n ++ [U.setAt (nth l n) ss (U.setsTo l ss q n)] = U.setsTo l ss q (n + 1) ∧ U.lostTo q n = U.lostTo q (n + 1) := by
  have e1 : U.setsTo l ss q (n + 1) = if U.bit q (n : Int) = true then U.setsTo l ss q n else U.setsTo l ss q n ++ [U.setAt (nth l n) ss (U.setsTo l ss q n)] := rfl
  have e2 : U.lostTo q (n + 1) = if U.bit q (n : Int) = true then U.lostTo q n + 1 else U.lostTo q n := rfl
  rw [e1, e2, if_neg (by rw [h]; simp), if_neg (by rw [h]; simp)]; exact ⟨rfl, rfl⟩
theorem has_bor {a k : Int} (hk : 0 ≤ k ∧ k ≤ 59) (ha : 0 ≤ a ∧ a < 2 ^ 62) : U.has (bor a (2 ^ k.toNat)) k = true := by
  unfold U.has
  rw [decide_eq_true (by omega), bit_bor_left (by omega) ha (by omega)]; rfl
/-- what was seen of a form, and what else was held possible -/
def made (s : SnD) (f : FmD) (r a q : Int) : SnD := (bor (U.rights s) (2 ^ (U.rt f + 1).toNat), bor (U.lefts s) (2 ^ (U.lf f + 1).toNat), bor (U.faces s) (2 ^ (U.fc f).toNat), bor (U.rgs s) (2 ^ r.toNat), U.lostTo q (U.mv f).length,
  (min (U.lo (U.cols s)) (U.co f), max (U.hi (U.cols s)) (U.co f), ()), (min (U.lo (U.rows s)) (U.rw' f), max (U.hi (U.rows s)) (U.rw' f), ()), (min (U.lo (U.ages s)) a, max (U.hi (U.ages s)) a, ()), U.setsTo (U.mv f) (U.mvs s) q (U.mv f).length, ())
theorem made_ok {s : SnD} (hs : U.okS s = true) {f : FmD} (hf : U.okForm f = true) {r a q : Int} (hr : 0 ≤ r ∧ r ≤ 7) : U.okS (made s f r a q) = true ∧ U.shownR f (made s f r a q) = true := by
  obtain ⟨⟨a1, a2, a3, a4, a5, a6, a7, a8, a9, a10, a11, a12, a13, a14⟩, h2⟩ := okS_iff.1 hs
  obtain ⟨f1, f2, f3, f4, f5, f6⟩ := okForm_u hf
  have p1 := pow_le (k := (U.rt f + 1).toNat) (m := 32) (by omega)
  have p2 := pow_le (k := (U.lf f + 1).toNat) (m := 32) (by omega)
  have p3 := pow_le (k := (U.fc f).toNat) (m := 7) (by omega)
  have p4 := pow_le (k := r.toNat) (m := 7) (by omega)
  have m1 := bor_range (m := 33) (by decide) (a := U.rights s) (b := 2 ^ (U.rt f + 1).toNat) (by omega) (by omega)
  have m2 := bor_range (m := 33) (by decide) (a := U.lefts s) (b := 2 ^ (U.lf f + 1).toNat) (by omega) (by omega)
  have m3 := bor_range (m := 8) (by decide) (a := U.faces s) (b := 2 ^ (U.fc f).toNat) (by omega) (by omega)
  have m4 := bor_range (m := 8) (by decide) (a := U.rgs s) (b := 2 ^ r.toNat) (by omega) (by omega)
  have hlen := okForm_len hf
  obtain ⟨i1, i2, i3, i4⟩ := sets_inv (q := q) (moves_ok hf) h2 _ (Nat.le_refl _)
  rw [List.take_length] at i4
  constructor
  · refine okS_iff.2 ⟨⟨?_, ?_, ?_, ?_, ?_, ?_, ?_, ?_, ?_, ?_, ?_, ?_, i2, ?_⟩, i3⟩
    · show 1 ≤ bor (U.rights s) (2 ^ (U.rt f + 1).toNat); omega
    · show bor (U.rights s) (2 ^ (U.rt f + 1).toNat) ≤ _; omega
    · show 1 ≤ bor (U.lefts s) (2 ^ (U.lf f + 1).toNat); omega
    · show bor (U.lefts s) (2 ^ (U.lf f + 1).toNat) ≤ _; omega
    · show 1 ≤ bor (U.faces s) (2 ^ (U.fc f).toNat); omega
    · show bor (U.faces s) (2 ^ (U.fc f).toNat) ≤ _; omega
    · show 1 ≤ bor (U.rgs s) (2 ^ r.toNat); omega
    · show bor (U.rgs s) (2 ^ r.toNat) ≤ _; omega
    · show min (U.lo (U.cols s)) (U.co f) ≤ max (U.hi (U.cols s)) (U.co f); omega
    · show min (U.lo (U.rows s)) (U.rw' f) ≤ max (U.hi (U.rows s)) (U.rw' f); omega
    · show min (U.lo (U.ages s)) a ≤ max (U.hi (U.ages s)) a; omega
    · show (U.setsTo (U.mv f) (U.mvs s) q (U.mv f).length).length ≤ 6; omega
    · show U.lostTo q (U.mv f).length ≤ 6; omega
  · have e : U.shownR f (made s f r a q) = (U.has (bor (U.rights s) (2 ^ (U.rt f + 1).toNat)) (U.rt f + 1) && U.has (bor (U.lefts s) (2 ^ (U.lf f + 1).toNat)) (U.lf f + 1) && U.has (bor (U.faces s) (2 ^ (U.fc f).toNat)) (U.fc f) && U.within (U.co f) (min (U.lo (U.cols s)) (U.co f)) (max (U.hi (U.cols s)) (U.co f)) && U.within (U.rw' f) (min (U.lo (U.rows s)) (U.rw' f)) (max (U.hi (U.rows s)) (U.rw' f)) && U.fits (U.mv f) (U.setsTo (U.mv f) (U.mvs s) q (U.mv f).length) (U.lostTo q (U.mv f).length)) := rfl
    rw [e, has_bor (by omega) (by omega), has_bor (by omega) (by omega), has_bor (by omega) (by omega), fits_emb _ _ _ (moves_ok hf) i2, i4]
    unfold U.within
    rw [decide_eq_true (by omega), decide_eq_true (by omega), decide_eq_true (by omega)]; rfl
theorem made_found {l : List ED} (hb : Book l) {y : ED} (hy : y ∈ l) {s : SnD} (hs : U.okS s = true) {f : FmD} (hfy : f = U.fm y ∨ f = U.mir (U.fm y)) {r a q : Int} (hr : 0 ≤ r ∧ r ≤ 7) (hbit : U.bit (U.rg y) r = true) (ha : U.lo (U.ag y) ≤ a ∧ a ≤ U.hi (U.ag y)) :
    (U.fnd l (made s f r a q)).2.1 = 0 ∧ U.sg y ∈ (U.fnd l (made s f r a q)).1 := by
  have hyo := hb.ok y hy
  have hfo := okE_form hyo
  have hf : U.okForm f = true := by
    rcases hfy with rfl | rfl
    · exact hfo
    · exact mir_ok hfo
  obtain ⟨h1, h2⟩ := made_ok (a := a) (q := q) hs hf hr
  have e0 : (U.fnd l (made s f r a q)).1 = U.findR l (made s f r a q) := by rw [fnd_ok hb h1]
  refine ⟨by rw [fnd_ok hb h1], ?_⟩
  rw [e0]
  refine (findR_mem hb).2 ⟨y, hy, rfl, ?_⟩
  obtain ⟨y1, y2, y3, y4, y5⟩ := okE_u hyo
  obtain ⟨⟨a1, a2, a3, a4, a5, a6, a7, a8, a9, a10, a11, a12, a13, a14⟩, _⟩ := okS_iff.1 hs
  have p4 := pow_le (k := r.toNat) (m := 7) (by omega)
  have er : ((r.toNat : Nat) : Int) = r := by omega
  have e : U.agreesR y (made s f r a q) = (decide (band (U.rg y) (bor (U.rgs s) (2 ^ r.toNat)) ≠ 0) && decide (max (U.lo (U.ag y)) (min (U.lo (U.ages s)) a) ≤ min (U.hi (U.ag y)) (max (U.hi (U.ages s)) a)) && (U.shownR (U.fm y) (made s f r a q) || U.shownR (U.mir (U.fm y)) (made s f r a q))) := rfl
  have hband : band (U.rg y) (bor (U.rgs s) (2 ^ r.toNat)) ≠ 0 := by
    rw [bor_comm]
    exact band_mono (by omega) (by omega) (by omega) ((band_two (by omega) (by omega) (by omega)).2 (by rw [er]; exact hbit))
  rw [e, decide_eq_true hband, decide_eq_true (by omega)]
  rcases hfy with rfl | rfl
  · rw [h2]; rfl
  · rw [h2, Bool.or_true]; rfl

theorem h6 : vc6 := by
  intro d _ _ _
  refine ⟨fun _ => rfl, fun hc => ?_⟩
  simp only [Bool.or_eq_false_iff, Bool.not_eq_false', decide_eq_false_iff_not] at hc
  obtain ⟨⟨⟨⟨⟨hr, hm⟩, hs⟩, he⟩, hlt⟩, hq⟩ := hc
  have hb := ready_book hr
  have hlt' : d.2.2.1.1.toNat < d.1.length := by omega
  have hy : nth d.1 d.2.2.1.1.toNat ∈ d.1 := L.mem_nth hlt'
  have hyo := hb.ok _ hy
  have hfo := okE_form hyo
  have hg : (!(decide (d.2.2.1.2.1 < (0 : Int)) || decide ((7 : Int) < d.2.2.1.2.1))) = true → 0 ≤ d.2.2.1.2.1 ∧ d.2.2.1.2.1 ≤ 7 := by
    intro h
    simp only [Bool.not_eq_true', Bool.or_eq_false_iff, decide_eq_false_iff_not] at h
    omega
  refine ⟨by omega, by omega, fun h => (hg h).1, fun h => by have := hg h; omega, fun h => (hg h).1, fun h => by have := hg h; omega, fun _ => rfl, fun hc => ?_⟩
  simp only [Bool.or_eq_false_iff, decide_eq_false_iff_not] at hc
  obtain ⟨⟨⟨⟨r1, r2⟩, r3⟩, r4⟩, r5⟩ := hc
  have hrr : 0 ≤ d.2.2.1.2.1 ∧ d.2.2.1.2.1 ≤ 7 := by omega
  obtain ⟨y1, y2, y3, y4, y5⟩ := okE_u hyo
  have hbit : U.bit (U.rg (nth d.1 d.2.2.1.1.toNat)) d.2.2.1.2.1 = true := (band_one (by omega) (by omega) hrr.1).1 r3
  have hage : U.lo (U.ag (nth d.1 d.2.2.1.1.toNat)) ≤ d.2.2.1.2.2.1 ∧ d.2.2.1.2.2.1 ≤ U.hi (U.ag (nth d.1 d.2.2.1.1.toNat)) := ⟨Int.not_lt.1 r4, Int.not_lt.1 r5⟩
  have key : ∀ f : FmD, (f = U.fm (nth d.1 d.2.2.1.1.toNat) ∨ f = U.mir (U.fm (nth d.1 d.2.2.1.1.toNat))) → U.okForm f = true ∧ (U.fnd d.1 (made d.2.1 f d.2.2.1.2.1 d.2.2.1.2.2.1 d.2.2.1.2.2.2.1)).2.1 = 0 ∧ U.sg (nth d.1 d.2.2.1.1.toNat) ∈ (U.fnd d.1 (made d.2.1 f d.2.2.1.2.1 d.2.2.1.2.2.1 d.2.2.1.2.2.2.1)).1 := by
    intro f hf
    refine ⟨?_, made_found hb hy hs hf hrr hbit hage⟩
    rcases hf with rfl | rfl
    · exact hfo
    · exact mir_ok hfo
  have hss := (okS_iff.1 hs).2
  have hmvs := (okS_iff.1 hs).1.2.2.2.2.2.2.2.2.2.2.2.1
  have k1 := key (U.mir (nth d.1 d.2.2.1.1.toNat).2.2.2.1) (.inr rfl)
  have k2 := key (nth d.1 d.2.2.1.1.toNat).2.2.2.1 (.inl rfl)
  clear key
  refine ⟨fun _ => ⟨hfo, ?_⟩, fun _ => ?_⟩
  · clear k2
    revert k1
    generalize U.mir (nth d.1 d.2.2.1.1.toNat).2.2.2.1 = f
    intro k
    obtain ⟨hf, ke, km⟩ := k
    obtain ⟨f1, f2, f3, f4, f5, f6⟩ := okForm_u hf
    have f1 : -1 ≤ f.1 := f1
    have f2 : f.1 ≤ 31 := f2
    have f3 : -1 ≤ f.2.1 := f3
    have f4 : f.2.1 ≤ 31 := f4
    have f5 : 0 ≤ f.2.2.2.2.1 := f5
    have f6 : f.2.2.2.2.1 ≤ 7 := f6
    have hl := moves_ok hf
    have h6 := okForm_len hf
    refine ⟨by unfold In64; omega, by omega, by omega, by omega, by omega, in64_two (by omega), by unfold In64; omega, by omega, by omega, by omega, by omega, in64_two (by omega), by omega, by omega, by omega, by omega, in64_two (by omega), by omega, by omega, by omega, by omega, in64_two (by omega),
      ⟨0, ⟨⟨rfl, trivial⟩, ⟨rfl, rfl, rfl, rfl, rfl, rfl, rfl, rfl, rfl, rfl, rfl, trivial, trivial⟩, rfl, trivial⟩, Nat.zero_le _⟩, fun x hx _ => ⟨fun h1 => ?_, fun h1 => ?_⟩⟩
    · have h1 : (x : Int) < ((U.mv f).length : Int) := of_decide_eq_true h1
      have hx1 : x < (U.mv f).length := by omega
      obtain ⟨i1, i2, i3, _⟩ := sets_inv (q := d.2.2.1.2.2.2.1) hl hss x hx
      refine ⟨by omega, by omega, by omega, by omega, fun hq => ?_, fun hq => ?_⟩
      · have hq : U.bit d.2.2.1.2.2.2.1 (x : Int) = true := hq
        obtain ⟨j1, j2⟩ := sets_miss (l := U.mv f) (ss := U.mvs d.2.1) hq
        exact ⟨by unfold In64; omega, by unfold In64; omega, x + 1, ⟨⟨by omega, trivial⟩, j1, ⟨rfl, rfl, rfl, rfl, j2, rfl, rfl, rfl, rfl, rfl, rfl, trivial, trivial⟩, trivial⟩, by omega, by omega⟩
      · have hq : U.bit d.2.2.1.2.2.2.1 (x : Int) = false := hq
        obtain ⟨j1, j2⟩ := sets_hit (l := U.mv f) (ss := U.mvs d.2.1) hq
        have hmm := okMove_iff.1 (hl _ (L.mem_nth hx1))
        have hm1 : 0 ≤ nth f.2.2.2.2.2.1 (x : Int).toNat := hmm.1
        have hm2 : nth f.2.2.2.2.2.1 (x : Int).toNat ≤ 7 := hmm.2
        refine ⟨by omega, h1, hm1, by omega, hm1, by omega, in64_two (by omega), fun _ _ => ⟨fun h2 _ => ?_, fun h2 => ?_⟩⟩
        · have h2 : ((U.setsTo (U.mv f) (U.mvs d.2.1) d.2.2.1.2.2.2.1 x).length : Int) < ((U.mvs d.2.1).length : Int) := of_decide_eq_true h2
          refine ⟨by omega, h2, ?_, by unfold In64; omega, x + 1, ⟨⟨by omega, trivial⟩, ⟨rfl, rfl, rfl, rfl, j2, rfl, rfl, rfl, rfl, rfl, rfl, trivial, trivial⟩, ?_, trivial⟩, by omega, by omega⟩
          · show (_ + 1) * 8 ≤ _; omega
          · rw [← j1]
            unfold U.setAt
            rw [if_pos (by omega), Int.one_mul]
            rfl
        · have h2 : ¬ ((U.setsTo (U.mv f) (U.mvs d.2.1) d.2.2.1.2.2.2.1 x).length : Int) < ((U.mvs d.2.1).length : Int) := of_decide_eq_false h2
          refine ⟨?_, by unfold In64; omega, x + 1, ⟨⟨by omega, trivial⟩, ⟨rfl, rfl, rfl, rfl, j2, rfl, rfl, rfl, rfl, rfl, rfl, trivial, trivial⟩, ?_, trivial⟩, by omega, by omega⟩
          · show (_ + 1) * 8 ≤ _; omega
          · rw [← j1]
            unfold U.setAt
            rw [if_neg (by omega), Int.one_mul]
            rfl
    · have h1 : ¬ (x : Int) < ((U.mv f).length : Int) := of_decide_eq_false h1
      have hxe : x = (U.mv f).length := by omega
      subst hxe
      simp only [Int.one_mul]
      show (decide ((U.fnd d.1 (made d.2.1 f d.2.2.1.2.1 d.2.2.1.2.2.1 d.2.2.1.2.2.2.1)).2.1 = 0) && decide (U.sg (nth d.1 d.2.2.1.1.toNat) ∈ (U.fnd d.1 (made d.2.1 f d.2.2.1.2.1 d.2.2.1.2.2.1 d.2.2.1.2.2.2.1)).1) && true, ()) = (true, ())
      rw [decide_eq_true ke, decide_eq_true km]
      rfl
  · clear k1 hfo
    revert k2
    generalize (nth d.1 d.2.2.1.1.toNat).2.2.2.1 = f
    intro k
    obtain ⟨hf, ke, km⟩ := k
    obtain ⟨f1, f2, f3, f4, f5, f6⟩ := okForm_u hf
    have f1 : -1 ≤ f.1 := f1
    have f2 : f.1 ≤ 31 := f2
    have f3 : -1 ≤ f.2.1 := f3
    have f4 : f.2.1 ≤ 31 := f4
    have f5 : 0 ≤ f.2.2.2.2.1 := f5
    have f6 : f.2.2.2.2.1 ≤ 7 := f6
    have hl := moves_ok hf
    have h6 := okForm_len hf
    refine ⟨by unfold In64; omega, by omega, by omega, by omega, by omega, in64_two (by omega), by unfold In64; omega, by omega, by omega, by omega, by omega, in64_two (by omega), by omega, by omega, by omega, by omega, in64_two (by omega), by omega, by omega, by omega, by omega, in64_two (by omega),
      ⟨0, ⟨⟨rfl, trivial⟩, ⟨rfl, rfl, rfl, rfl, rfl, rfl, rfl, rfl, rfl, rfl, rfl, trivial, trivial⟩, rfl, trivial⟩, Nat.zero_le _⟩, fun x hx _ => ⟨fun h1 => ?_, fun h1 => ?_⟩⟩
    · have h1 : (x : Int) < ((U.mv f).length : Int) := of_decide_eq_true h1
      have hx1 : x < (U.mv f).length := by omega
      obtain ⟨i1, i2, i3, _⟩ := sets_inv (q := d.2.2.1.2.2.2.1) hl hss x hx
      refine ⟨by omega, by omega, by omega, by omega, fun hq => ?_, fun hq => ?_⟩
      · have hq : U.bit d.2.2.1.2.2.2.1 (x : Int) = true := hq
        obtain ⟨j1, j2⟩ := sets_miss (l := U.mv f) (ss := U.mvs d.2.1) hq
        exact ⟨by unfold In64; omega, by unfold In64; omega, x + 1, ⟨⟨by omega, trivial⟩, j1, ⟨rfl, rfl, rfl, rfl, j2, rfl, rfl, rfl, rfl, rfl, rfl, trivial, trivial⟩, trivial⟩, by omega, by omega⟩
      · have hq : U.bit d.2.2.1.2.2.2.1 (x : Int) = false := hq
        obtain ⟨j1, j2⟩ := sets_hit (l := U.mv f) (ss := U.mvs d.2.1) hq
        have hmm := okMove_iff.1 (hl _ (L.mem_nth hx1))
        have hm1 : 0 ≤ nth f.2.2.2.2.2.1 (x : Int).toNat := hmm.1
        have hm2 : nth f.2.2.2.2.2.1 (x : Int).toNat ≤ 7 := hmm.2
        refine ⟨by omega, h1, hm1, by omega, hm1, by omega, in64_two (by omega), fun _ _ => ⟨fun h2 _ => ?_, fun h2 => ?_⟩⟩
        · have h2 : ((U.setsTo (U.mv f) (U.mvs d.2.1) d.2.2.1.2.2.2.1 x).length : Int) < ((U.mvs d.2.1).length : Int) := of_decide_eq_true h2
          refine ⟨by omega, h2, ?_, by unfold In64; omega, x + 1, ⟨⟨by omega, trivial⟩, ⟨rfl, rfl, rfl, rfl, j2, rfl, rfl, rfl, rfl, rfl, rfl, trivial, trivial⟩, ?_, trivial⟩, by omega, by omega⟩
          · show (_ + 1) * 8 ≤ _; omega
          · rw [← j1]
            unfold U.setAt
            rw [if_pos (by omega), Int.one_mul]
            rfl
        · have h2 : ¬ ((U.setsTo (U.mv f) (U.mvs d.2.1) d.2.2.1.2.2.2.1 x).length : Int) < ((U.mvs d.2.1).length : Int) := of_decide_eq_false h2
          refine ⟨?_, by unfold In64; omega, x + 1, ⟨⟨by omega, trivial⟩, ⟨rfl, rfl, rfl, rfl, j2, rfl, rfl, rfl, rfl, rfl, rfl, trivial, trivial⟩, ?_, trivial⟩, by omega, by omega⟩
          · show (_ + 1) * 8 ≤ _; omega
          · rw [← j1]
            unfold U.setAt
            rw [if_neg (by omega), Int.one_mul]
            rfl
    · have h1 : ¬ (x : Int) < ((U.mv f).length : Int) := of_decide_eq_false h1
      have hxe : x = (U.mv f).length := by omega
      subst hxe
      simp only [Int.one_mul]
      show (decide ((U.fnd d.1 (made d.2.1 f d.2.2.1.2.1 d.2.2.1.2.2.1 d.2.2.1.2.2.2.1)).2.1 = 0) && decide (U.sg (nth d.1 d.2.2.1.1.toNat) ∈ (U.fnd d.1 (made d.2.1 f d.2.2.1.2.1 d.2.2.1.2.2.1 d.2.2.1.2.2.2.1)).1) && true, ()) = (true, ())
      rw [decide_eq_true ke, decide_eq_true km]
      rfl
theorem ok6 : FnOK PR 6 sp6 := mkFn (vc6_eq.mpr h6) Tryz.func6 (by kernel_rfl) (by kernel_rfl) (by kernel_rfl) (by kernel_rfl) ⟨fun _ => ok15, fun _ => ok14, fun _ => ok18, fun _ => ok20, fun _ => ok22, fun _ => ok23, fun _ => ok24, fun _ => ok26, fun _ => ok27, fun _ => ok28, fun _ => ok29, fun _ => ok32, fun _ => ok34, fun _ => ok39, fun _ => ok43, fun _ => ok44, fun _ => ok48, fun _ => ok49, trivial⟩ trivial

end Go.X
