/-
  Signs: answers, the best question: what is asked.
-/
import Derived.Test.YtafidkjlgchbbaaGreatG2
namespace Go.X
open Go.Proofs

namespace U
def setRt (s : SnD) (n : Int) : SnD := (n, lefts s, faces s, rgs s, lost s, cols s, rows s, ages s, mvs s, ())
def setLf (s : SnD) (n : Int) : SnD := (rights s, n, faces s, rgs s, lost s, cols s, rows s, ages s, mvs s, ())
def setFc (s : SnD) (n : Int) : SnD := (rights s, lefts s, n, rgs s, lost s, cols s, rows s, ages s, mvs s, ())
def setCo (s : SnD) (x : SpD) : SnD := (rights s, lefts s, faces s, rgs s, lost s, x, rows s, ages s, mvs s, ())
def setRw (s : SnD) (x : SpD) : SnD := (rights s, lefts s, faces s, rgs s, lost s, cols s, x, ages s, mvs s, ())
/-- the elements of a set below a number -/
def elsTo (n : Int) (k : Nat) : List Nat := (List.range k).filter (fun (i : Nat) => bit n (i : Int))
def ones (n : Int) : List Int := (elsTo n 33).map (fun (i : Nat) => (2 : Int) ^ i)
def upto (a b : Int) : List Int := (List.range (b - a + 1).toNat).map (fun (k : Nat) => a + (k : Int))
def answers (s : SnD) (p : Int) : List SnD := if p = 0 then (ones (rights s)).map (setRt s) else if p = 1 then (ones (lefts s)).map (setLf s) else if p = 2 then (upto (max 0 (lo (rows s))) (min 5 (hi (rows s)))).map (fun n => setRw s (n, n, ()))
  else if p = 3 then (upto (max (-3) (lo (cols s))) (min 3 (hi (cols s)))).map (fun n => setCo s (n, n, ())) else if p = 4 then (ones (faces s)).map (setFc s) else []
def wrap (l : List SnD) : List (Ty.st [tSe]).Data := l.map (fun o => ((o, ()), ()))
/-- what is left of a set behind its first elements -/
def cut (n : Int) (k : Nat) : Int := n / 2 ^ k * 2 ^ k
def nums (l : List ED) (o : List SnD) : List Int := o.map (fun x => ((find l x).length : Int))
def topOf (l : List Int) : Int := l.foldl max 0
def most (l : List ED) (s : SnD) (p : Int) : Int := topOf (nums l (answers s p))
def bestTo (l : List ED) (s : SnD) : Nat → Int × Int
  | 0 => (0, 41)
  | p + 1 => if most l s (p : Int) < (bestTo l s p).2 then ((p : Int), most l s (p : Int)) else bestTo l s p
def ask (l : List ED) (s : SnD) : Int × Int × Int × Unit := if lookE l s ≠ 0 then (0, 0, lookE l s, ()) else if find (vals (opn l).1) s = [] then (0, 0, 3, ()) else ((bestTo (vals (opn l).1) s 5).1, (bestTo (vals (opn l).1) s 5).2, 0, ())
end U

/-! the functions that narrow what was seen -/
abbrev shS : Sh := .box 83 [.dat .int, .dat .int, .dat .int, .dat .int, .dat .int, .dat .int, .dat .int, .dat .int, .dat .int, .dat .int, .dat .int, .dat (.slice .int)]
def so89 : OSpec := ⟨[.own shS true, .val .int], [], fun _ => [], fun d => ((), ((d.2.1, d.1.2), ()))⟩
def vc89 : Prop :=
  ∀ (d : (Int × Int × Int × Int × Int × Int × Int × Int × Int × Int × Int × List Int × Unit) × Int × Unit), () = () ∧ ((d.2.1, d.1.2), ()) = ((d.2.1, d.1.2), ())

theorem vc89_eq : ofnVC (ctx 9 [] []) (fun _ => none) Tryz.f89 (bodyOf Tryz.f89) so89 = vc89 := by kernel_rfl

def so90 : OSpec := ⟨[.own shS true, .val .int], [], fun _ => [], fun d => ((), ((d.1.1, d.2.1, d.1.2.2), ()))⟩
def vc90 : Prop :=
  ∀ (d : (Int × Int × Int × Int × Int × Int × Int × Int × Int × Int × Int × List Int × Unit) × Int × Unit), () = () ∧ ((d.1.1, d.2.1, d.1.2.2), ()) = ((d.1.1, d.2.1, d.1.2.2), ())

theorem vc90_eq : ofnVC (ctx 9 [] []) (fun _ => none) Tryz.f90 (bodyOf Tryz.f90) so90 = vc90 := by kernel_rfl

def so93 : OSpec := ⟨[.own shS true, .val .int], [], fun _ => [], fun d => ((), ((d.1.1, d.1.2.1, d.2.1, d.1.2.2.2), ()))⟩
def vc93 : Prop :=
  ∀ (d : (Int × Int × Int × Int × Int × Int × Int × Int × Int × Int × Int × List Int × Unit) × Int × Unit),
  () = () ∧ ((d.1.1, d.1.2.1, d.2.1, d.1.2.2.2), ()) = ((d.1.1, d.1.2.1, d.2.1, d.1.2.2.2), ())

theorem vc93_eq : ofnVC (ctx 9 [] []) (fun _ => none) Tryz.f93 (bodyOf Tryz.f93) so93 = vc93 := by kernel_rfl

def so92 : OSpec := ⟨[.own shS true, .val tSp], [], fun _ => [], fun d => ((), ((d.1.1, d.1.2.1, d.1.2.2.1, d.1.2.2.2.1, d.1.2.2.2.2.1, d.2.1.1, d.2.1.2.1, d.1.2.2.2.2.2.2.2), ()))⟩
def vc92 : Prop :=
  ∀ (d : (Int × Int × Int × Int × Int × Int × Int × Int × Int × Int × Int × List Int × Unit) × SpD × Unit),
  () = () ∧
  ((d.1.1, d.1.2.1, d.1.2.2.1, d.1.2.2.2.1, d.1.2.2.2.2.1, d.2.1.1, d.2.1.2.1, d.1.2.2.2.2.2.2.2), ()) =
  ((d.1.1, d.1.2.1, d.1.2.2.1, d.1.2.2.2.1, d.1.2.2.2.2.1, d.2.1.1, d.2.1.2.1, d.1.2.2.2.2.2.2.2), ())

theorem vc92_eq : ofnVC (ctx 9 [] []) (fun _ => none) Tryz.f92 (bodyOf Tryz.f92) so92 = vc92 := by kernel_rfl

def so91 : OSpec := ⟨[.own shS true, .val tSp], [], fun _ => [], fun d => ((), ((d.1.1, d.1.2.1, d.1.2.2.1, d.1.2.2.2.1, d.1.2.2.2.2.1, d.1.2.2.2.2.2.1, d.1.2.2.2.2.2.2.1, d.2.1.1, d.2.1.2.1, d.1.2.2.2.2.2.2.2.2.2), ()))⟩
def vc91 : Prop :=
  ∀ (d : (Int × Int × Int × Int × Int × Int × Int × Int × Int × Int × Int × List Int × Unit) × SpD × Unit),
  () = () ∧
  ((d.1.1, d.1.2.1, d.1.2.2.1, d.1.2.2.2.1, d.1.2.2.2.2.1, d.1.2.2.2.2.2.1, d.1.2.2.2.2.2.2.1, d.2.1.1, d.2.1.2.1,
  d.1.2.2.2.2.2.2.2.2.2),
  ()) =
  ((d.1.1, d.1.2.1, d.1.2.2.1, d.1.2.2.2.1, d.1.2.2.2.2.1, d.1.2.2.2.2.2.1, d.1.2.2.2.2.2.2.1, d.2.1.1, d.2.1.2.1,
  d.1.2.2.2.2.2.2.2.2.2),
  ())

theorem vc91_eq : ofnVC (ctx 9 [] []) (fun _ => none) Tryz.f91 (bodyOf Tryz.f91) so91 = vc91 := by kernel_rfl


/-! answers -/
def c87 : Ctx := ctx 34 [] [(91, so91), (92, so92)]
def c88 : Ctx := ctx 24 [] [(89, so89), (90, so90), (93, so93)]
def c86 : Ctx := ctx 44 [] []
def an87 (s : SnD) (p : Int) : AnnZ (YS [tSe]) := fun r => match r with
  | 2 => some fun σ _ => { X := Nat, sl := fun i => [(10, .dat .int (gd .int σ 10 + (i : Int)))], ob := fun _ => [], ys := fun i => (U.wrap ((U.answers s p).take i), true), inv := fun i => i ≤ (U.answers s p).length, mu := fun i => (U.answers s p).length - i }
  | _ => none
def an88 (s : SnD) (p : Int) : AnnZ (YS [tSe]) := fun r => match r with
  | 0 => some fun σ _ => { X := Nat, sl := fun k => [(0, .dat .int (U.cut (gd .int σ 0) k))], ob := fun _ => [], ys := fun k => (U.wrap ((U.answers s p).take (U.elsTo (gd .int σ 0) k).length), true), inv := fun k => k ≤ 33, mu := fun k => 33 - k }
  | _ => none
def LA (d : PD [.ref tSe, .ref .int]) (xs : List (Ty.st [tSe]).Data) : Prop := xs = U.wrap (U.answers d.1.1 d.2.1)
def hk86 (d : PD [.ref tSe, .ref .int]) (l : Nat) : Hook (YS [tSe]) := hkY [tSe] l [15, 22, 29, 36, 43] (fun q => ∃ rest, LA d (q ++ rest)) (fun f => match f with
  | 87 => some (inlRun c87 (an87 d.1.1 d.2.1) (hkY [tSe] l [32] (fun q => ∃ rest, LA d (q ++ rest)) (fun _ => none)) (bodyOf Tryz.f87))
  | 88 => some (inlRun c88 (an88 d.1.1 d.2.1) (hkY [tSe] l [22] (fun q => ∃ rest, LA d (q ++ rest)) (fun _ => none)) (bodyOf Tryz.f88))
  | _ => none)
def vc86 : Prop :=
  ∀ (d : (SnD × Unit) × Int × Unit) (l : Nat),
  U.okS d.1.1 = true →
  (decide (d.2.1 = (0 : Int)) = true →
  (∃ (x : Nat), ((d.1.1.1 = U.cut d.1.1.1 x ∧ True) ∧ True) ∧ ([], true) = (U.wrap (List.take (U.elsTo d.1.1.1 x).length (U.answers d.1.1 d.2.1)), true) ∧ x ≤ 33) ∧
  ∀ (x : Nat),
  x ≤ 33 →
  (decide (U.cut d.1.1.1 x ≠ (0 : Int)) = true →
  In64 (-U.cut d.1.1.1 x) ∧
  l = l ∧
  (∃ (rest : List ((SnD × Unit) × Unit)),
  U.wrap (List.take (U.elsTo d.1.1.1 x).length (U.answers d.1.1 d.2.1)) ++ [(((band (U.cut d.1.1.1 x) (-U.cut d.1.1.1 x), d.1.1.2), ()), ())] ++ rest =
  U.wrap (U.answers d.1.1 d.2.1)) ∧
  (((!true) = true →
  true = true →
  U.wrap (List.take (U.elsTo d.1.1.1 x).length (U.answers d.1.1 d.2.1)) ++ [(((band (U.cut d.1.1.1 x) (-U.cut d.1.1.1 x), d.1.1.2), ()), ())] =
  U.wrap (U.answers d.1.1 d.2.1)) ∧
  ((!true) = false →
  In64 (U.cut d.1.1.1 x - (1 : Int)) ∧
  ∃ (x' : Nat),
  ((band (U.cut d.1.1.1 x) (U.cut d.1.1.1 x - (1 : Int)) = U.cut d.1.1.1 x' ∧ True) ∧ True) ∧
  (U.wrap (List.take (U.elsTo d.1.1.1 x).length (U.answers d.1.1 d.2.1)) ++ [(((band (U.cut d.1.1.1 x) (-U.cut d.1.1.1 x), d.1.1.2), ()), ())], true) =
  (U.wrap (List.take (U.elsTo d.1.1.1 x').length (U.answers d.1.1 d.2.1)), true) ∧
  x' ≤ 33 ∧ 33 - x' < 33 - x)) ∧
  ((!false) = true →
  false = true →
  U.wrap (List.take (U.elsTo d.1.1.1 x).length (U.answers d.1.1 d.2.1)) ++ [(((band (U.cut d.1.1.1 x) (-U.cut d.1.1.1 x), d.1.1.2), ()), ())] =
  U.wrap (U.answers d.1.1 d.2.1)) ∧
  ((!false) = false →
  In64 (U.cut d.1.1.1 x - (1 : Int)) ∧
  ∃ (x' : Nat),
  ((band (U.cut d.1.1.1 x) (U.cut d.1.1.1 x - (1 : Int)) = U.cut d.1.1.1 x' ∧ True) ∧ True) ∧
  (U.wrap (List.take (U.elsTo d.1.1.1 x).length (U.answers d.1.1 d.2.1)) ++ [(((band (U.cut d.1.1.1 x) (-U.cut d.1.1.1 x), d.1.1.2), ()), ())], false) =
  (U.wrap (List.take (U.elsTo d.1.1.1 x').length (U.answers d.1.1 d.2.1)), true) ∧
  x' ≤ 33 ∧ 33 - x' < 33 - x)) ∧
  (decide (U.cut d.1.1.1 x ≠ (0 : Int)) = false → true = true → U.wrap (List.take (U.elsTo d.1.1.1 x).length (U.answers d.1.1 d.2.1)) = U.wrap (U.answers d.1.1 d.2.1))) ∧
  (decide (d.2.1 = (0 : Int)) = false →
  (decide (d.2.1 = (1 : Int)) = true →
  (∃ (x : Nat), ((d.1.1.2.1 = U.cut d.1.1.2.1 x ∧ True) ∧ True) ∧ ([], true) = (U.wrap (List.take (U.elsTo d.1.1.2.1 x).length (U.answers d.1.1 d.2.1)), true) ∧ x ≤ 33) ∧
  ∀ (x : Nat),
  x ≤ 33 →
  (decide (U.cut d.1.1.2.1 x ≠ (0 : Int)) = true →
  In64 (-U.cut d.1.1.2.1 x) ∧
  l = l ∧
  (∃ (rest : List ((SnD × Unit) × Unit)),
  U.wrap (List.take (U.elsTo d.1.1.2.1 x).length (U.answers d.1.1 d.2.1)) ++ [(((d.1.1.1, band (U.cut d.1.1.2.1 x) (-U.cut d.1.1.2.1 x), d.1.1.2.2), ()), ())] ++
  rest =
  U.wrap (U.answers d.1.1 d.2.1)) ∧
  (((!true) = true →
  true = true →
  U.wrap (List.take (U.elsTo d.1.1.2.1 x).length (U.answers d.1.1 d.2.1)) ++ [(((d.1.1.1, band (U.cut d.1.1.2.1 x) (-U.cut d.1.1.2.1 x), d.1.1.2.2), ()), ())] =
  U.wrap (U.answers d.1.1 d.2.1)) ∧
  ((!true) = false →
  In64 (U.cut d.1.1.2.1 x - (1 : Int)) ∧
  ∃ (x' : Nat),
  ((band (U.cut d.1.1.2.1 x) (U.cut d.1.1.2.1 x - (1 : Int)) = U.cut d.1.1.2.1 x' ∧ True) ∧ True) ∧
  (U.wrap (List.take (U.elsTo d.1.1.2.1 x).length (U.answers d.1.1 d.2.1)) ++
  [(((d.1.1.1, band (U.cut d.1.1.2.1 x) (-U.cut d.1.1.2.1 x), d.1.1.2.2), ()), ())],
  true) =
  (U.wrap (List.take (U.elsTo d.1.1.2.1 x').length (U.answers d.1.1 d.2.1)), true) ∧
  x' ≤ 33 ∧ 33 - x' < 33 - x)) ∧
  ((!false) = true →
  false = true →
  U.wrap (List.take (U.elsTo d.1.1.2.1 x).length (U.answers d.1.1 d.2.1)) ++ [(((d.1.1.1, band (U.cut d.1.1.2.1 x) (-U.cut d.1.1.2.1 x), d.1.1.2.2), ()), ())] =
  U.wrap (U.answers d.1.1 d.2.1)) ∧
  ((!false) = false →
  In64 (U.cut d.1.1.2.1 x - (1 : Int)) ∧
  ∃ (x' : Nat),
  ((band (U.cut d.1.1.2.1 x) (U.cut d.1.1.2.1 x - (1 : Int)) = U.cut d.1.1.2.1 x' ∧ True) ∧ True) ∧
  (U.wrap (List.take (U.elsTo d.1.1.2.1 x).length (U.answers d.1.1 d.2.1)) ++
  [(((d.1.1.1, band (U.cut d.1.1.2.1 x) (-U.cut d.1.1.2.1 x), d.1.1.2.2), ()), ())],
  false) =
  (U.wrap (List.take (U.elsTo d.1.1.2.1 x').length (U.answers d.1.1 d.2.1)), true) ∧
  x' ≤ 33 ∧ 33 - x' < 33 - x)) ∧
  (decide (U.cut d.1.1.2.1 x ≠ (0 : Int)) = false → true = true → U.wrap (List.take (U.elsTo d.1.1.2.1 x).length (U.answers d.1.1 d.2.1)) = U.wrap (U.answers d.1.1 d.2.1))) ∧
  (decide (d.2.1 = (1 : Int)) = false →
  (decide (d.2.1 = (2 : Int)) = true →
  (∃ (x : Nat),
  ((max (0 : Int) d.1.1.2.2.2.2.2.2.1.1 = max (0 : Int) d.1.1.2.2.2.2.2.2.1.1 + (x : Int) ∧ True) ∧ True) ∧
  ([], true) = (U.wrap (List.take x (U.answers d.1.1 d.2.1)), true) ∧ x ≤ (U.answers d.1.1 d.2.1).length) ∧
  ∀ (x : Nat),
  x ≤ (U.answers d.1.1 d.2.1).length →
  (decide (max (0 : Int) d.1.1.2.2.2.2.2.2.1.1 + (x : Int) ≤ min (5 : Int) d.1.1.2.2.2.2.2.2.1.2.1) = true →
  l = l ∧
  (∃ (rest : List ((SnD × Unit) × Unit)),
  U.wrap (List.take x (U.answers d.1.1 d.2.1)) ++
  [(((d.1.1.1, d.1.1.2.1, d.1.1.2.2.1, d.1.1.2.2.2.1, d.1.1.2.2.2.2.1, d.1.1.2.2.2.2.2.1,
  (max (0 : Int) d.1.1.2.2.2.2.2.2.1.1 + (x : Int), max (0 : Int) d.1.1.2.2.2.2.2.2.1.1 + (x : Int), ()), d.1.1.2.2.2.2.2.2.2),
  ()),
  ())] ++
  rest =
  U.wrap (U.answers d.1.1 d.2.1)) ∧
  (((!true) = true →
  true = true →
  U.wrap (List.take x (U.answers d.1.1 d.2.1)) ++
  [(((d.1.1.1, d.1.1.2.1, d.1.1.2.2.1, d.1.1.2.2.2.1, d.1.1.2.2.2.2.1, d.1.1.2.2.2.2.2.1,
  (max (0 : Int) d.1.1.2.2.2.2.2.2.1.1 + (x : Int), max (0 : Int) d.1.1.2.2.2.2.2.2.1.1 + (x : Int), ()), d.1.1.2.2.2.2.2.2.2),
  ()),
  ())] =
  U.wrap (U.answers d.1.1 d.2.1)) ∧
  ((!true) = false →
  In64 (max (0 : Int) d.1.1.2.2.2.2.2.2.1.1 + (x : Int) + 1) ∧
  ∃ (x' : Nat),
  ((max (0 : Int) d.1.1.2.2.2.2.2.2.1.1 + (x : Int) + 1 = max (0 : Int) d.1.1.2.2.2.2.2.2.1.1 + (x' : Int) ∧ True) ∧ True) ∧
  (U.wrap (List.take x (U.answers d.1.1 d.2.1)) ++
  [(((d.1.1.1, d.1.1.2.1, d.1.1.2.2.1, d.1.1.2.2.2.1, d.1.1.2.2.2.2.1, d.1.1.2.2.2.2.2.1,
  (max (0 : Int) d.1.1.2.2.2.2.2.2.1.1 + (x : Int), max (0 : Int) d.1.1.2.2.2.2.2.2.1.1 + (x : Int), ()),
  d.1.1.2.2.2.2.2.2.2),
  ()),
  ())],
  true) =
  (U.wrap (List.take x' (U.answers d.1.1 d.2.1)), true) ∧
  x' ≤ (U.answers d.1.1 d.2.1).length ∧ (U.answers d.1.1 d.2.1).length - x' < (U.answers d.1.1 d.2.1).length - x)) ∧
  ((!false) = true →
  false = true →
  U.wrap (List.take x (U.answers d.1.1 d.2.1)) ++
  [(((d.1.1.1, d.1.1.2.1, d.1.1.2.2.1, d.1.1.2.2.2.1, d.1.1.2.2.2.2.1, d.1.1.2.2.2.2.2.1,
  (max (0 : Int) d.1.1.2.2.2.2.2.2.1.1 + (x : Int), max (0 : Int) d.1.1.2.2.2.2.2.2.1.1 + (x : Int), ()), d.1.1.2.2.2.2.2.2.2),
  ()),
  ())] =
  U.wrap (U.answers d.1.1 d.2.1)) ∧
  ((!false) = false →
  In64 (max (0 : Int) d.1.1.2.2.2.2.2.2.1.1 + (x : Int) + 1) ∧
  ∃ (x' : Nat),
  ((max (0 : Int) d.1.1.2.2.2.2.2.2.1.1 + (x : Int) + 1 = max (0 : Int) d.1.1.2.2.2.2.2.2.1.1 + (x' : Int) ∧ True) ∧ True) ∧
  (U.wrap (List.take x (U.answers d.1.1 d.2.1)) ++
  [(((d.1.1.1, d.1.1.2.1, d.1.1.2.2.1, d.1.1.2.2.2.1, d.1.1.2.2.2.2.1, d.1.1.2.2.2.2.2.1,
  (max (0 : Int) d.1.1.2.2.2.2.2.2.1.1 + (x : Int), max (0 : Int) d.1.1.2.2.2.2.2.2.1.1 + (x : Int), ()),
  d.1.1.2.2.2.2.2.2.2),
  ()),
  ())],
  false) =
  (U.wrap (List.take x' (U.answers d.1.1 d.2.1)), true) ∧
  x' ≤ (U.answers d.1.1 d.2.1).length ∧ (U.answers d.1.1 d.2.1).length - x' < (U.answers d.1.1 d.2.1).length - x)) ∧
  (decide (max (0 : Int) d.1.1.2.2.2.2.2.2.1.1 + (x : Int) ≤ min (5 : Int) d.1.1.2.2.2.2.2.2.1.2.1) = false →
  true = true → U.wrap (List.take x (U.answers d.1.1 d.2.1)) = U.wrap (U.answers d.1.1 d.2.1))) ∧
  (decide (d.2.1 = (2 : Int)) = false →
  (decide (d.2.1 = (3 : Int)) = true →
  (∃ (x : Nat),
  ((max (-3 : Int) d.1.1.2.2.2.2.2.1.1 = max (-3 : Int) d.1.1.2.2.2.2.2.1.1 + (x : Int) ∧ True) ∧ True) ∧
  ([], true) = (U.wrap (List.take x (U.answers d.1.1 d.2.1)), true) ∧ x ≤ (U.answers d.1.1 d.2.1).length) ∧
  ∀ (x : Nat),
  x ≤ (U.answers d.1.1 d.2.1).length →
  (decide (max (-3 : Int) d.1.1.2.2.2.2.2.1.1 + (x : Int) ≤ min (3 : Int) d.1.1.2.2.2.2.2.1.2.1) = true →
  l = l ∧
  (∃ (rest : List ((SnD × Unit) × Unit)),
  U.wrap (List.take x (U.answers d.1.1 d.2.1)) ++
  [(((d.1.1.1, d.1.1.2.1, d.1.1.2.2.1, d.1.1.2.2.2.1, d.1.1.2.2.2.2.1,
  (max (-3 : Int) d.1.1.2.2.2.2.2.1.1 + (x : Int), max (-3 : Int) d.1.1.2.2.2.2.2.1.1 + (x : Int), ()), d.1.1.2.2.2.2.2.2),
  ()),
  ())] ++
  rest =
  U.wrap (U.answers d.1.1 d.2.1)) ∧
  (((!true) = true →
  true = true →
  U.wrap (List.take x (U.answers d.1.1 d.2.1)) ++
  [(((d.1.1.1, d.1.1.2.1, d.1.1.2.2.1, d.1.1.2.2.2.1, d.1.1.2.2.2.2.1,
  (max (-3 : Int) d.1.1.2.2.2.2.2.1.1 + (x : Int), max (-3 : Int) d.1.1.2.2.2.2.2.1.1 + (x : Int), ()), d.1.1.2.2.2.2.2.2),
  ()),
  ())] =
  U.wrap (U.answers d.1.1 d.2.1)) ∧
  ((!true) = false →
  In64 (max (-3 : Int) d.1.1.2.2.2.2.2.1.1 + (x : Int) + 1) ∧
  ∃ (x' : Nat),
  ((max (-3 : Int) d.1.1.2.2.2.2.2.1.1 + (x : Int) + 1 = max (-3 : Int) d.1.1.2.2.2.2.2.1.1 + (x' : Int) ∧ True) ∧ True) ∧
  (U.wrap (List.take x (U.answers d.1.1 d.2.1)) ++
  [(((d.1.1.1, d.1.1.2.1, d.1.1.2.2.1, d.1.1.2.2.2.1, d.1.1.2.2.2.2.1,
  (max (-3 : Int) d.1.1.2.2.2.2.2.1.1 + (x : Int), max (-3 : Int) d.1.1.2.2.2.2.2.1.1 + (x : Int), ()), d.1.1.2.2.2.2.2.2),
  ()),
  ())],
  true) =
  (U.wrap (List.take x' (U.answers d.1.1 d.2.1)), true) ∧
  x' ≤ (U.answers d.1.1 d.2.1).length ∧ (U.answers d.1.1 d.2.1).length - x' < (U.answers d.1.1 d.2.1).length - x)) ∧
  ((!false) = true →
  false = true →
  U.wrap (List.take x (U.answers d.1.1 d.2.1)) ++
  [(((d.1.1.1, d.1.1.2.1, d.1.1.2.2.1, d.1.1.2.2.2.1, d.1.1.2.2.2.2.1,
  (max (-3 : Int) d.1.1.2.2.2.2.2.1.1 + (x : Int), max (-3 : Int) d.1.1.2.2.2.2.2.1.1 + (x : Int), ()), d.1.1.2.2.2.2.2.2),
  ()),
  ())] =
  U.wrap (U.answers d.1.1 d.2.1)) ∧
  ((!false) = false →
  In64 (max (-3 : Int) d.1.1.2.2.2.2.2.1.1 + (x : Int) + 1) ∧
  ∃ (x' : Nat),
  ((max (-3 : Int) d.1.1.2.2.2.2.2.1.1 + (x : Int) + 1 = max (-3 : Int) d.1.1.2.2.2.2.2.1.1 + (x' : Int) ∧ True) ∧ True) ∧
  (U.wrap (List.take x (U.answers d.1.1 d.2.1)) ++
  [(((d.1.1.1, d.1.1.2.1, d.1.1.2.2.1, d.1.1.2.2.2.1, d.1.1.2.2.2.2.1,
  (max (-3 : Int) d.1.1.2.2.2.2.2.1.1 + (x : Int), max (-3 : Int) d.1.1.2.2.2.2.2.1.1 + (x : Int), ()), d.1.1.2.2.2.2.2.2),
  ()),
  ())],
  false) =
  (U.wrap (List.take x' (U.answers d.1.1 d.2.1)), true) ∧
  x' ≤ (U.answers d.1.1 d.2.1).length ∧ (U.answers d.1.1 d.2.1).length - x' < (U.answers d.1.1 d.2.1).length - x)) ∧
  (decide (max (-3 : Int) d.1.1.2.2.2.2.2.1.1 + (x : Int) ≤ min (3 : Int) d.1.1.2.2.2.2.2.1.2.1) = false →
  true = true → U.wrap (List.take x (U.answers d.1.1 d.2.1)) = U.wrap (U.answers d.1.1 d.2.1))) ∧
  (decide (d.2.1 = (3 : Int)) = false →
  (decide (d.2.1 = (4 : Int)) = true →
  (∃ (x : Nat),
  ((d.1.1.2.2.1 = U.cut d.1.1.2.2.1 x ∧ True) ∧ True) ∧ ([], true) = (U.wrap (List.take (U.elsTo d.1.1.2.2.1 x).length (U.answers d.1.1 d.2.1)), true) ∧ x ≤ 33) ∧
  ∀ (x : Nat),
  x ≤ 33 →
  (decide (U.cut d.1.1.2.2.1 x ≠ (0 : Int)) = true →
  In64 (-U.cut d.1.1.2.2.1 x) ∧
  l = l ∧
  (∃ (rest : List ((SnD × Unit) × Unit)),
  U.wrap (List.take (U.elsTo d.1.1.2.2.1 x).length (U.answers d.1.1 d.2.1)) ++
  [(((d.1.1.1, d.1.1.2.1, band (U.cut d.1.1.2.2.1 x) (-U.cut d.1.1.2.2.1 x), d.1.1.2.2.2), ()), ())] ++
  rest =
  U.wrap (U.answers d.1.1 d.2.1)) ∧
  (((!true) = true →
  true = true →
  U.wrap (List.take (U.elsTo d.1.1.2.2.1 x).length (U.answers d.1.1 d.2.1)) ++
  [(((d.1.1.1, d.1.1.2.1, band (U.cut d.1.1.2.2.1 x) (-U.cut d.1.1.2.2.1 x), d.1.1.2.2.2), ()), ())] =
  U.wrap (U.answers d.1.1 d.2.1)) ∧
  ((!true) = false →
  In64 (U.cut d.1.1.2.2.1 x - (1 : Int)) ∧
  ∃ (x' : Nat),
  ((band (U.cut d.1.1.2.2.1 x) (U.cut d.1.1.2.2.1 x - (1 : Int)) = U.cut d.1.1.2.2.1 x' ∧ True) ∧ True) ∧
  (U.wrap (List.take (U.elsTo d.1.1.2.2.1 x).length (U.answers d.1.1 d.2.1)) ++
  [(((d.1.1.1, d.1.1.2.1, band (U.cut d.1.1.2.2.1 x) (-U.cut d.1.1.2.2.1 x), d.1.1.2.2.2), ()), ())],
  true) =
  (U.wrap (List.take (U.elsTo d.1.1.2.2.1 x').length (U.answers d.1.1 d.2.1)), true) ∧
  x' ≤ 33 ∧ 33 - x' < 33 - x)) ∧
  ((!false) = true →
  false = true →
  U.wrap (List.take (U.elsTo d.1.1.2.2.1 x).length (U.answers d.1.1 d.2.1)) ++
  [(((d.1.1.1, d.1.1.2.1, band (U.cut d.1.1.2.2.1 x) (-U.cut d.1.1.2.2.1 x), d.1.1.2.2.2), ()), ())] =
  U.wrap (U.answers d.1.1 d.2.1)) ∧
  ((!false) = false →
  In64 (U.cut d.1.1.2.2.1 x - (1 : Int)) ∧
  ∃ (x' : Nat),
  ((band (U.cut d.1.1.2.2.1 x) (U.cut d.1.1.2.2.1 x - (1 : Int)) = U.cut d.1.1.2.2.1 x' ∧ True) ∧ True) ∧
  (U.wrap (List.take (U.elsTo d.1.1.2.2.1 x).length (U.answers d.1.1 d.2.1)) ++
  [(((d.1.1.1, d.1.1.2.1, band (U.cut d.1.1.2.2.1 x) (-U.cut d.1.1.2.2.1 x), d.1.1.2.2.2), ()), ())],
  false) =
  (U.wrap (List.take (U.elsTo d.1.1.2.2.1 x').length (U.answers d.1.1 d.2.1)), true) ∧
  x' ≤ 33 ∧ 33 - x' < 33 - x)) ∧
  (decide (U.cut d.1.1.2.2.1 x ≠ (0 : Int)) = false →
  true = true → U.wrap (List.take (U.elsTo d.1.1.2.2.1 x).length (U.answers d.1.1 d.2.1)) = U.wrap (U.answers d.1.1 d.2.1))) ∧
  (decide (d.2.1 = (4 : Int)) = false → true = true → [] = U.wrap (U.answers d.1.1 d.2.1))))))

theorem vc86_eq : (seqVC c86 (bodyOf Tryz.f86) [tSe] [.ref tSe, .ref .int] LA (fun d => [U.okS d.1.1 = true]) (fun _ _ => fun _ => none) hk86) = vc86 := by kernel_rfl

def sc54 : CSpec := ⟨[.val tSe, .val .int], fun _ => [], 86, [tSe, .int], fun d => (d.1, d.2.1, ())⟩
def vc54 : Prop :=
  ∀ (d : (SnD × Unit) × Int × Unit), d = d

theorem vc54_eq : (cfnVC (ctx 6 [] []) (fun _ => none) Tryz.f54 (bodyOf Tryz.f54) sc54) = vc54 := by kernel_rfl


/-! Ask -/
def rg20 : RngS tSe := { ps := [.own (.box 3 [.dat .int]) true, .ref tM], slots := [10, 7], dst := 60, pre := fun _ => [], G := fun d q => (((U.nums (U.vals d.2.1) (q.map (·.1.1))).foldl max d.1.1, ()), ()), seq := fun sv => match sv with
  | .clo 86 [.ep t s, .ep u p] => (match cast? t tSe s, cast? u .int p with
    | some s', some p' => some (U.okS s'.1 = true, fun xs => xs = U.wrap (U.answers s'.1 p'))
    | _, _ => none)
  | _ => none }
def tb20 : Nat → Option ((t : Ty) × RngS t) := fun r => match r with
  | 13 => some ⟨tSe, rg20⟩
  | _ => none
def sp20 : Spec := ⟨[.val (.slice tE), .val tSn], [.int, .int, .int], false, fun _ => [], fun d => U.ask d.1 d.2.1⟩
def an20 (b : Bk) (s : SnD) : AnnZ Unit := fun r => match r with
  | 8 => some fun _ _ => { X := Nat, sl := fun p => [(31, .dat .int (p : Int)), (4, .dat .int (U.bestTo (U.vals b) s p).1), (5, .dat .int (U.bestTo (U.vals b) s p).2)], ob := fun _ => [(7, some (.box 81 true [.dat tM b]))], ys := fun _ => (), inv := fun p => p ≤ 5, mu := fun p => 5 - p }
  | _ => none
def c20 : Ctx := ctxx 52 [(50, sp50), (51, sp51)] [] [(54, sc54)] []
def vc20 : Prop :=
  ∀ (d : List ED × SnD × Unit),
  (decide (U.lookE d.1 d.2.1 = (0 : Int)) = true → List.length (U.opn d.1).1 ≤ 1000) ∧
  (decide (U.lookE d.1 d.2.1 = (0 : Int)) = true → ∀ (x : Int × ED), x ∈ (U.opn d.1).1 → U.okForm (U.fm x.2) = true) ∧
  ((decide (U.lookE d.1 d.2.1 = (0 : Int)) = true → (U.find (U.vals (U.opn d.1).1) d.2.1).length < 4611686018427387904) →
  ((decide (U.lookE d.1 d.2.1 = (0 : Int)) && decide ((↑(U.find (U.vals (U.opn d.1).1) d.2.1).length : Int) = (0 : Int))) = true →
  (decide ((3 : Int) ≠ (0 : Int)) = true → ((0 : Int), (0 : Int), (3 : Int), ()) = U.ask d.1 d.2.1) ∧
  (decide ((3 : Int) ≠ (0 : Int)) = false →
  (∃ (x : Nat),
  (((0 : Int) = (x : Int) ∧ (0 : Int) = (U.bestTo (U.vals (U.opn d.1).1) d.2.1 x).1 ∧ (41 : Int) = (U.bestTo (U.vals (U.opn d.1).1) d.2.1 x).2 ∧ True) ∧
  ((U.opn d.1).1 = (U.opn d.1).1 ∧ True) ∧ True) ∧
  () = () ∧ x ≤ 5) ∧
  ∀ (x : Nat),
  x ≤ 5 →
  (decide ((x : Int) < (5 : Int)) = true →
  U.okS d.2.1 = true ∧
  True ∧
  ((List.foldl max (0 : Int)
  (U.nums (U.vals (U.opn d.1).1)
  (List.map (fun (x : (SnD × Unit) × Unit) => x.1.1) [])),
  ()),
  (U.opn d.1).1, ()) =
  (((0 : Int), ()), (U.opn d.1).1, ()) ∧
  (∀ (q : List ((SnD × Unit) × Unit))
  (x_3 : (SnD × Unit) × Unit)
  (rest : List ((SnD × Unit) × Unit)),
  q ++ x_3 :: rest = U.wrap (U.answers d.2.1 (x : Int)) →
  List.length (U.opn d.1).1 ≤ 1000 ∧
  (∀ (x : Int × ED), x ∈ (U.opn d.1).1 → U.okForm (U.fm x.2) = true) ∧
  ((max
  (List.foldl max (0 : Int)
  (U.nums (U.vals (U.opn d.1).1)
  (List.map (fun (x : (SnD × Unit) × Unit) => x.1.1) q)))
  (↑(U.find (U.vals (U.opn d.1).1) x_3.1.1).length : Int),
  ()),
  ()) =
  ((List.foldl max (0 : Int)
  (U.nums (U.vals (U.opn d.1).1)
  (List.map (fun (x : (SnD × Unit) × Unit) => x.1.1) (q ++ [x_3]))),
  ()),
  ())) ∧
  ∀ (xs : List ((SnD × Unit) × Unit)),
  xs = U.wrap (U.answers d.2.1 (x : Int)) →
  (decide
  (List.foldl max (0 : Int)
  (U.nums (U.vals (U.opn d.1).1)
  (List.map (fun (x : (SnD × Unit) × Unit) => x.1.1) xs)) <
  (U.bestTo (U.vals (U.opn d.1).1) d.2.1 x).2) =
  true →
  In64 ((x : Int) + 1) ∧
  ∃ (x' : Nat),
  (((x : Int) + 1 = (x' : Int) ∧
  List.foldl max (0 : Int)
  (U.nums (U.vals (U.opn d.1).1)
  (List.map (fun (x : (SnD × Unit) × Unit) => x.1.1) xs)) =
  (U.bestTo (U.vals (U.opn d.1).1) d.2.1 x').2 ∧
  (x : Int) = (U.bestTo (U.vals (U.opn d.1).1) d.2.1 x').1 ∧ True) ∧
  ((U.opn d.1).1 = (U.opn d.1).1 ∧ True) ∧ True) ∧
  () = () ∧ x' ≤ 5 ∧ 5 - x' < 5 - x) ∧
  (decide
  (List.foldl max (0 : Int)
  (U.nums (U.vals (U.opn d.1).1)
  (List.map (fun (x : (SnD × Unit) × Unit) => x.1.1) xs)) <
  (U.bestTo (U.vals (U.opn d.1).1) d.2.1 x).2) =
  false →
  In64 ((x : Int) + 1) ∧
  ∃ (x' : Nat),
  (((U.bestTo (U.vals (U.opn d.1).1) d.2.1 x).2 = (U.bestTo (U.vals (U.opn d.1).1) d.2.1 x').2 ∧
  (U.bestTo (U.vals (U.opn d.1).1) d.2.1 x).1 = (U.bestTo (U.vals (U.opn d.1).1) d.2.1 x').1 ∧ (x : Int) + 1 = (x' : Int) ∧ True) ∧
  ((U.opn d.1).1 = (U.opn d.1).1 ∧ True) ∧ True) ∧
  () = () ∧ x' ≤ 5 ∧ 5 - x' < 5 - x)) ∧
  (decide ((x : Int) < (5 : Int)) = false → ((U.bestTo (U.vals (U.opn d.1).1) d.2.1 x).1, (U.bestTo (U.vals (U.opn d.1).1) d.2.1 x).2, (0 : Int), ()) = U.ask d.1 d.2.1))) ∧
  ((decide (U.lookE d.1 d.2.1 = (0 : Int)) && decide ((↑(U.find (U.vals (U.opn d.1).1) d.2.1).length : Int) = (0 : Int))) = false →
  (decide (U.lookE d.1 d.2.1 ≠ (0 : Int)) = true → ((0 : Int), (0 : Int), U.lookE d.1 d.2.1, ()) = U.ask d.1 d.2.1) ∧
  (decide (U.lookE d.1 d.2.1 ≠ (0 : Int)) = false →
  (∃ (x : Nat),
  (((0 : Int) = (x : Int) ∧ (0 : Int) = (U.bestTo (U.vals (U.opn d.1).1) d.2.1 x).1 ∧ (41 : Int) = (U.bestTo (U.vals (U.opn d.1).1) d.2.1 x).2 ∧ True) ∧
  ((U.opn d.1).1 = (U.opn d.1).1 ∧ True) ∧ True) ∧
  () = () ∧ x ≤ 5) ∧
  ∀ (x : Nat),
  x ≤ 5 →
  (decide ((x : Int) < (5 : Int)) = true →
  U.okS d.2.1 = true ∧
  True ∧
  ((List.foldl max (0 : Int)
  (U.nums (U.vals (U.opn d.1).1)
  (List.map (fun (x : (SnD × Unit) × Unit) => x.1.1) [])),
  ()),
  (U.opn d.1).1, ()) =
  (((0 : Int), ()), (U.opn d.1).1, ()) ∧
  (∀ (q : List ((SnD × Unit) × Unit))
  (x_3 : (SnD × Unit) × Unit)
  (rest : List ((SnD × Unit) × Unit)),
  q ++ x_3 :: rest = U.wrap (U.answers d.2.1 (x : Int)) →
  List.length (U.opn d.1).1 ≤ 1000 ∧
  (∀ (x : Int × ED), x ∈ (U.opn d.1).1 → U.okForm (U.fm x.2) = true) ∧
  ((max
  (List.foldl max (0 : Int)
  (U.nums (U.vals (U.opn d.1).1)
  (List.map (fun (x : (SnD × Unit) × Unit) => x.1.1) q)))
  (↑(U.find (U.vals (U.opn d.1).1) x_3.1.1).length : Int),
  ()),
  ()) =
  ((List.foldl max (0 : Int)
  (U.nums (U.vals (U.opn d.1).1)
  (List.map (fun (x : (SnD × Unit) × Unit) => x.1.1) (q ++ [x_3]))),
  ()),
  ())) ∧
  ∀ (xs : List ((SnD × Unit) × Unit)),
  xs = U.wrap (U.answers d.2.1 (x : Int)) →
  (decide
  (List.foldl max (0 : Int)
  (U.nums (U.vals (U.opn d.1).1)
  (List.map (fun (x : (SnD × Unit) × Unit) => x.1.1) xs)) <
  (U.bestTo (U.vals (U.opn d.1).1) d.2.1 x).2) =
  true →
  In64 ((x : Int) + 1) ∧
  ∃ (x' : Nat),
  (((x : Int) + 1 = (x' : Int) ∧
  List.foldl max (0 : Int)
  (U.nums (U.vals (U.opn d.1).1)
  (List.map (fun (x : (SnD × Unit) × Unit) => x.1.1) xs)) =
  (U.bestTo (U.vals (U.opn d.1).1) d.2.1 x').2 ∧
  (x : Int) = (U.bestTo (U.vals (U.opn d.1).1) d.2.1 x').1 ∧ True) ∧
  ((U.opn d.1).1 = (U.opn d.1).1 ∧ True) ∧ True) ∧
  () = () ∧ x' ≤ 5 ∧ 5 - x' < 5 - x) ∧
  (decide
  (List.foldl max (0 : Int)
  (U.nums (U.vals (U.opn d.1).1)
  (List.map (fun (x : (SnD × Unit) × Unit) => x.1.1) xs)) <
  (U.bestTo (U.vals (U.opn d.1).1) d.2.1 x).2) =
  false →
  In64 ((x : Int) + 1) ∧
  ∃ (x' : Nat),
  (((U.bestTo (U.vals (U.opn d.1).1) d.2.1 x).2 = (U.bestTo (U.vals (U.opn d.1).1) d.2.1 x').2 ∧
  (U.bestTo (U.vals (U.opn d.1).1) d.2.1 x).1 = (U.bestTo (U.vals (U.opn d.1).1) d.2.1 x').1 ∧ (x : Int) + 1 = (x' : Int) ∧ True) ∧
  ((U.opn d.1).1 = (U.opn d.1).1 ∧ True) ∧ True) ∧
  () = () ∧ x' ≤ 5 ∧ 5 - x' < 5 - x)) ∧
  (decide ((x : Int) < (5 : Int)) = false → ((U.bestTo (U.vals (U.opn d.1).1) d.2.1 x).1, (U.bestTo (U.vals (U.opn d.1).1) d.2.1 x).2, (0 : Int), ()) = U.ask d.1 d.2.1))))

theorem vc20_eq : (rfnVCd c20 sp20 (fun d => an20 (U.opn d.1).1 d.2.1) (hkC c20 (fun _ => none) tb20 [] []) Tryz.f20 (bodyOf Tryz.f20)) = vc20 := by kernel_rfl


end Go.X
/-
  Signs: sets as numbers; answers.
-/
namespace Go.X
open Go.Proofs

theorem ofInt_nat {n : Nat} (hn : n < 2 ^ 63) : (BitVec.ofInt 64 (n : Int)).toNat = n := by
  simp only [BitVec.toNat_ofInt]
  omega
theorem wrap_nat {n : Nat} (h : n < 2 ^ 63) : IntKind.i64.wrap (n : Int) = (n : Int) := by
  unfold IntKind.wrap
  simp [IntKind.signed, IntKind.bits]
  omega
theorem band_nat {a b : Nat} (ha : a < 2 ^ 63) (hb : b < 2 ^ 63) : band (a : Int) (b : Int) = ((a &&& b : Nat) : Int) := by
  unfold band
  rw [BitVec.toNat_and, ofInt_nat ha, ofInt_nat hb]
  exact wrap_nat (Nat.lt_of_le_of_lt Nat.and_le_left ha)

theorem div_nat (n k : Nat) : (n : Int) / 2 ^ k = ((n / 2 ^ k : Nat) : Int) := by
  simp
theorem bit_nat {n : Nat} (hn : n < 2 ^ 63) (i : Nat) : U.bit (n : Int) (i : Int) = n.testBit i := by
  unfold U.bit
  rw [Int.toNat_natCast, div_nat]
  have h1 : n / 2 ^ i < 2 ^ 63 := Nat.lt_of_le_of_lt (Nat.div_le_self _ _) hn
  rw [show (1 : Int) = ((1 : Nat) : Int) from rfl, band_nat h1 (by decide)]
  rw [Nat.and_one_is_mod, Nat.testBit_eq_decide_div_mod_eq]
  rw [Bool.eq_iff_iff]
  simp only [decide_eq_true_eq]
  omega

theorem lowest : ∀ m : Nat, m ≠ 0 → ∃ t q, m = 2 ^ t * (2 * q + 1) := by
  intro m
  induction m using Nat.strongRecOn with
  | _ m ih =>
    intro hm
    by_cases h : m % 2 = 1
    · exact ⟨0, m / 2, by omega⟩
    · obtain ⟨t, q, e⟩ := ih (m / 2) (by omega) (by omega)
      refine ⟨t + 1, q, ?_⟩
      have : m = 2 * (m / 2) := by omega
      rw [Nat.pow_succ, Nat.mul_comm (2 ^ t) 2, Nat.mul_assoc, ← e]
      exact this

theorem and_pred (j q : Nat) : (2 ^ j * (2 * q + 1)) &&& (2 ^ j * (2 * q + 1) - 1) = 2 ^ j * (2 * q) := by
  have hp : 0 < 2 ^ j := Nat.pow_pos (by decide)
  have e : 2 ^ j * (2 * q + 1) - 1 = 2 ^ j * (2 * q) + (2 ^ j - 1) := by
    rw [Nat.mul_add, Nat.mul_one]; omega
  have e0 : 2 ^ j * (2 * q + 1) = 2 ^ j * (2 * q + 1) + 0 := rfl
  have e1 : 2 ^ j * (2 * q) = 2 ^ j * (2 * q) + 0 := rfl
  rw [e]
  apply Nat.eq_of_testBit_eq
  intro i
  rw [Nat.testBit_and, Nat.testBit_two_pow_mul_add _ (by omega)]
  by_cases hi : i < j
  · rw [if_pos hi]
    rw [e0, Nat.testBit_two_pow_mul_add _ hp, if_pos hi, e1, Nat.testBit_two_pow_mul_add _ hp, if_pos hi]
    simp
  · rw [if_neg hi]
    rw [e0, Nat.testBit_two_pow_mul_add _ hp, if_neg hi, e1, Nat.testBit_two_pow_mul_add _ hp, if_neg hi]
    cases hk : i - j with
    | zero => simp [Nat.testBit_zero]
    | succ k =>
      rw [Nat.testBit_succ, Nat.testBit_succ, show (2 * q + 1) / 2 = q by omega, show (2 * q) / 2 = q by omega, Bool.and_self]

theorem and_neg {j q : Nat} (h : 2 ^ j * (2 * q + 1) < 2 ^ 63) : (2 ^ j * (2 * q + 1)) &&& (2 ^ 64 - 2 ^ j * (2 * q + 1)) = 2 ^ j := by
  have hp : 0 < 2 ^ j := Nat.pow_pos (by decide)
  have hj : j < 63 := by
    have h1 : 2 ^ j * 1 ≤ 2 ^ j * (2 * q + 1) := Nat.mul_le_mul_left _ (by omega)
    exact (Nat.pow_lt_pow_iff_right (by decide)).1 (by omega : 2 ^ j < 2 ^ 63)
  have e64 : 2 ^ 64 = 2 ^ j * 2 ^ (64 - j) := by rw [← Nat.pow_add]; congr 1; omega
  have e63 : 2 ^ (64 - j) = 2 * 2 ^ (63 - j) := by rw [show 64 - j = (63 - j) + 1 by omega, Nat.pow_succ, Nat.mul_comm]
  have hq : q < 2 ^ (63 - j) := by
    have h63 : 2 ^ 63 = 2 ^ j * 2 ^ (63 - j) := by rw [← Nat.pow_add]; congr 1; omega
    rw [h63] at h
    have := Nat.lt_of_mul_lt_mul_left h
    omega
  have e : 2 ^ 64 - 2 ^ j * (2 * q + 1) = 2 ^ j * (2 * (2 ^ (63 - j) - (q + 1)) + 1) := by
    rw [e64, ← Nat.mul_sub, e63]; congr 1; omega
  have e0 : ∀ x, 2 ^ j * x = 2 ^ j * x + 0 := fun _ => rfl
  rw [e]
  apply Nat.eq_of_testBit_eq
  intro i
  rw [Nat.testBit_and, Nat.testBit_two_pow]
  by_cases hi : i < j
  · rw [e0 (2 * q + 1), Nat.testBit_two_pow_mul_add _ hp, if_pos hi]
    simp; omega
  · rw [e0 (2 * q + 1), Nat.testBit_two_pow_mul_add _ hp, if_neg hi, e0 (2 * (2 ^ (63 - j) - (q + 1)) + 1), Nat.testBit_two_pow_mul_add _ hp, if_neg hi]
    cases hk : i - j with
    | zero =>
      have : j = i := by omega
      simp [Nat.testBit_zero, this]
    | succ k =>
      rw [Nat.testBit_succ, Nat.testBit_succ, show (2 * q + 1) / 2 = q by omega, show (2 * (2 ^ (63 - j) - (q + 1)) + 1) / 2 = 2 ^ (63 - j) - (q + 1) by omega, Nat.testBit_two_pow_sub_succ hq]
      have : ¬ j = i := by omega
      cases q.testBit k <;> simp [this]

/-- the lowest element that is left -/
theorem cut_step {n k : Nat} (hn : n < 2 ^ 63) (h : n / 2 ^ k * 2 ^ k ≠ 0) : ∃ j, k ≤ j ∧ n.testBit j = true ∧ (∀ i, k ≤ i → i < j → n.testBit i = false) ∧
    (n / 2 ^ k * 2 ^ k) &&& (n / 2 ^ k * 2 ^ k - 1) = n / 2 ^ (j + 1) * 2 ^ (j + 1) ∧ (n / 2 ^ k * 2 ^ k) &&& (2 ^ 64 - n / 2 ^ k * 2 ^ k) = 2 ^ j := by
  have hm : n / 2 ^ k ≠ 0 := fun e => by rw [e] at h; simp at h
  obtain ⟨t, q, e⟩ := lowest _ hm
  have hp : 0 < 2 ^ t := Nat.pow_pos (by decide)
  have en : n / 2 ^ k * 2 ^ k = 2 ^ (k + t) * (2 * q + 1) := by
    rw [e, Nat.pow_add, Nat.mul_comm (2 ^ t * (2 * q + 1)), ← Nat.mul_assoc]
  have hlt : 2 ^ (k + t) * (2 * q + 1) < 2 ^ 63 := by
    rw [← en]; exact Nat.lt_of_le_of_lt (Nat.div_mul_le_self _ _) hn
  have hbit : ∀ i, n.testBit (k + i) = (n / 2 ^ k).testBit i := fun i => by rw [Nat.testBit_div_two_pow, Nat.add_comm]
  have e0 : 2 ^ t * (2 * q + 1) = 2 ^ t * (2 * q + 1) + 0 := rfl
  refine ⟨k + t, by omega, ?_, fun i h1 h2 => ?_, ?_, ?_⟩
  · rw [hbit, e, e0, Nat.testBit_two_pow_mul_add _ hp, if_neg (by omega), Nat.sub_self]
    simp [Nat.testBit_zero]
  · obtain ⟨i', rfl⟩ : ∃ i', i = k + i' := ⟨i - k, by omega⟩
    rw [hbit, e, e0, Nat.testBit_two_pow_mul_add _ hp, if_pos (by omega)]
    simp
  · rw [en, and_pred]
    have : n / 2 ^ (k + t + 1) = q := by
      rw [Nat.add_assoc, Nat.pow_add, ← Nat.div_div_eq_div_mul, e, Nat.pow_succ, ← Nat.div_div_eq_div_mul, Nat.mul_div_cancel_left _ hp]
      omega
    rw [this, Nat.pow_succ, Nat.mul_comm q, Nat.mul_assoc]
  · rw [en, and_neg hlt]

theorem elsTo_succ (N : Int) (k : Nat) : U.elsTo N (k + 1) = U.elsTo N k ++ (if U.bit N (k : Int) = true then [k] else []) := by
  unfold U.elsTo
  rw [List.range_succ, List.filter_append]
  congr 1
  cases h : U.bit N (k : Int) <;> simp [List.filter, h]
theorem elsTo_same {N : Int} {k : Nat} : ∀ d : Nat, (∀ i : Nat, k ≤ i → i < k + d → U.bit N (i : Int) = false) → U.elsTo N (k + d) = U.elsTo N k
  | 0, _ => rfl
  | d + 1, h => by
    rw [← Nat.add_assoc, elsTo_succ, h (k + d) (by omega) (by omega), elsTo_same d (fun i h1 h2 => h i h1 (by omega))]
    simp
theorem elsTo_pre (N : Int) (k : Nat) : ∀ d : Nat, ∃ r, U.elsTo N (k + d) = U.elsTo N k ++ r
  | 0 => ⟨[], by simp⟩
  | d + 1 => by
    obtain ⟨r, e⟩ := elsTo_pre N k d
    rw [← Nat.add_assoc, elsTo_succ, e]
    exact ⟨r ++ _, by rw [List.append_assoc]⟩

theorem cut_nat (n k : Nat) : U.cut (n : Int) k = ((n / 2 ^ k * 2 ^ k : Nat) : Int) := by unfold U.cut; rw [div_nat]; simp
theorem cut_zero (N : Int) : U.cut N 0 = N := by unfold U.cut; simp

section
variable {N : Int} (hN : 1 ≤ N ∧ N ≤ 8589934591)
include hN
theorem set_nat : ∃ n : Nat, N = (n : Int) ∧ n < 2 ^ 33 := ⟨N.toNat, by omega, by omega⟩

theorem cut_pos {k : Nat} (h : U.cut N k ≠ 0) : -U.cut N k ≥ -8589934591 ∧ 1 ≤ U.cut N k ∧ U.cut N k ≤ 8589934591 := by
  obtain ⟨n, rfl, hn⟩ := set_nat hN
  rw [cut_nat] at *
  have h1 : n / 2 ^ k * 2 ^ k ≤ n := Nat.div_mul_le_self _ _
  omega

theorem ones_step {k : Nat} (h : U.cut N k ≠ 0) : ∃ j, k ≤ j ∧ j < 33 ∧ band (U.cut N k) (-(U.cut N k)) = 2 ^ j ∧ band (U.cut N k) (U.cut N k - 1) = U.cut N (j + 1) ∧ U.elsTo N (j + 1) = U.elsTo N k ++ [j] := by
  have hpos := cut_pos hN h
  obtain ⟨n, rfl, hn⟩ := set_nat hN
  have hn63 : n < 2 ^ 63 := by omega
  have ec : ∀ k, U.cut (n : Int) k = ((n / 2 ^ k * 2 ^ k : Nat) : Int) := fun k => cut_nat n k
  rw [ec] at h hpos
  have h0 : n / 2 ^ k * 2 ^ k ≠ 0 := by omega
  obtain ⟨j, h1, h2, h3, h4, h5⟩ := cut_step hn63 h0
  have hc63 : n / 2 ^ k * 2 ^ k < 2 ^ 63 := by omega
  have hj : j < 33 := by
    refine Classical.byContradiction fun hge => ?_
    have : n.testBit j = false := Nat.testBit_lt_two_pow (Nat.lt_of_lt_of_le hn (Nat.pow_le_pow_right (by decide) (by omega)))
    rw [this] at h2; cases h2
  refine ⟨j, h1, hj, ?_, ?_, ?_⟩
  · have e2 : ((2 : Int) ^ j) = ((2 ^ j : Nat) : Int) := by simp
    rw [ec, e2, ← h5]
    unfold band
    generalize n / 2 ^ k * 2 ^ k = c at *
    have e : (BitVec.ofInt 64 (-(c : Int))).toNat = 2 ^ 64 - c := by
      simp only [BitVec.toNat_ofInt]
      omega
    rw [BitVec.toNat_and, ofInt_nat hc63, e]
    exact wrap_nat (Nat.lt_of_le_of_lt Nat.and_le_left hc63)
  · rw [ec, ec]
    rw [show ((n / 2 ^ k * 2 ^ k : Nat) : Int) - 1 = ((n / 2 ^ k * 2 ^ k - 1 : Nat) : Int) by omega, band_nat hc63 (by omega), h4]
  · rw [elsTo_succ, bit_nat hn63, h2, if_pos rfl]
    congr 1
    obtain ⟨d, rfl⟩ : ∃ d, j = k + d := ⟨j - k, by omega⟩
    exact elsTo_same d (fun i h6 h7 => by rw [bit_nat hn63]; exact h3 i h6 h7)

theorem ones_end {k : Nat} (hk : k ≤ 33) (h : U.cut N k = 0) : U.elsTo N 33 = U.elsTo N k := by
  obtain ⟨n, rfl, hn⟩ := set_nat hN
  have hn63 : n < 2 ^ 63 := by omega
  obtain ⟨d, e⟩ : ∃ d, 33 = k + d := ⟨33 - k, by omega⟩
  rw [e]
  refine elsTo_same d (fun i h1 _ => ?_)
  rw [bit_nat hn63]
  have h0 : n / 2 ^ k = 0 := by
    rw [cut_nat] at h
    have : n / 2 ^ k * 2 ^ k = 0 := by omega
    rcases Nat.mul_eq_zero.1 this with h | h
    · exact h
    · have := Nat.pow_pos (n := k) (show 0 < 2 by decide); omega
  have hlt : n < 2 ^ k := by
    refine Classical.byContradiction fun hge => ?_
    have := Nat.div_pos (Nat.le_of_not_lt hge) (Nat.pow_pos (by decide))
    omega
  exact Nat.testBit_lt_two_pow (Nat.lt_of_lt_of_le hlt (Nat.pow_le_pow_right (by decide) h1))
end

theorem upto_len (a b : Int) : (U.upto a b).length = (b - a + 1).toNat := by unfold U.upto; simp
theorem upto_get {a b : Int} {i : Nat} (h : i < (U.upto a b).length) : (U.upto a b)[i] = a + (i : Int) := by simp [U.upto]

theorem take_step {α : Type} {l : List α} {i : Nat} (h : i < l.length) {y : α} (hy : l[i] = y) : l.take i ++ [y] = l.take (i + 1) ∧ ∃ r, l.take i ++ [y] ++ r = l := by
  have e : l.take i ++ [y] = l.take (i + 1) := by rw [← hy]; simp
  exact ⟨e, l.drop (i + 1), by rw [e, List.take_append_drop]⟩

end Go.X
/-
  Signs: answers, the best question.
-/
namespace Go.X
open Go.Proofs

theorem h89 : vc89 := by intro d; first | rfl | exact ⟨rfl, rfl⟩
theorem ok89 : OFnOK PR 89 so89 := mkFnO (vc89_eq.mpr h89) Tryz.func89 (by kernel_rfl) (by kernel_rfl) (by kernel_rfl) (by kernel_rfl) (by kernel_rfl) trivial trivial
theorem h90 : vc90 := by intro d; first | rfl | exact ⟨rfl, rfl⟩
theorem ok90 : OFnOK PR 90 so90 := mkFnO (vc90_eq.mpr h90) Tryz.func90 (by kernel_rfl) (by kernel_rfl) (by kernel_rfl) (by kernel_rfl) (by kernel_rfl) trivial trivial
theorem h91 : vc91 := by intro d; first | rfl | exact ⟨rfl, rfl⟩
theorem ok91 : OFnOK PR 91 so91 := mkFnO (vc91_eq.mpr h91) Tryz.func91 (by kernel_rfl) (by kernel_rfl) (by kernel_rfl) (by kernel_rfl) (by kernel_rfl) trivial trivial
theorem h92 : vc92 := by intro d; first | rfl | exact ⟨rfl, rfl⟩
theorem ok92 : OFnOK PR 92 so92 := mkFnO (vc92_eq.mpr h92) Tryz.func92 (by kernel_rfl) (by kernel_rfl) (by kernel_rfl) (by kernel_rfl) (by kernel_rfl) trivial trivial
theorem h93 : vc93 := by intro d; first | rfl | exact ⟨rfl, rfl⟩
theorem ok93 : OFnOK PR 93 so93 := mkFnO (vc93_eq.mpr h93) Tryz.func93 (by kernel_rfl) (by kernel_rfl) (by kernel_rfl) (by kernel_rfl) (by kernel_rfl) trivial trivial

theorem wrap_snoc (l : List SnD) (o : SnD) : U.wrap (l ++ [o]) = U.wrap l ++ [((o, ()), ())] := by unfold U.wrap; simp

theorem set_block {N : Int} (hN : 1 ≤ N ∧ N ≤ 8589934591) {A : List SnD} {f : Int → SnD} (hA : A = (U.ones N).map f) (l : Nat) :
    (∃ x : Nat, ((N = U.cut N x ∧ True) ∧ True) ∧ (([], true) : YS [tSe]) = (U.wrap (A.take (U.elsTo N x).length), true) ∧ x ≤ 33) ∧
    ∀ x : Nat, x ≤ 33 →
      (decide (U.cut N x ≠ 0) = true → In64 (-U.cut N x) ∧ l = l ∧ (∃ rest : List (Ty.st [tSe]).Data, U.wrap (A.take (U.elsTo N x).length) ++ [((f (band (U.cut N x) (-U.cut N x)), ()), ())] ++ rest = U.wrap A) ∧
        (((!true) = true → true = true → U.wrap (A.take (U.elsTo N x).length) ++ [((f (band (U.cut N x) (-U.cut N x)), ()), ())] = U.wrap A) ∧
          ((!true) = false → In64 (U.cut N x - 1) ∧ ∃ x' : Nat, ((band (U.cut N x) (U.cut N x - 1) = U.cut N x' ∧ True) ∧ True) ∧
            ((U.wrap (A.take (U.elsTo N x).length) ++ [((f (band (U.cut N x) (-U.cut N x)), ()), ())], true) : YS [tSe]) = (U.wrap (A.take (U.elsTo N x').length), true) ∧ x' ≤ 33 ∧ 33 - x' < 33 - x)) ∧
        ((!false) = true → false = true → U.wrap (A.take (U.elsTo N x).length) ++ [((f (band (U.cut N x) (-U.cut N x)), ()), ())] = U.wrap A) ∧
          ((!false) = false → In64 (U.cut N x - 1) ∧ ∃ x' : Nat, ((band (U.cut N x) (U.cut N x - 1) = U.cut N x' ∧ True) ∧ True) ∧
            ((U.wrap (A.take (U.elsTo N x).length) ++ [((f (band (U.cut N x) (-U.cut N x)), ()), ())], false) : YS [tSe]) = (U.wrap (A.take (U.elsTo N x').length), true) ∧ x' ≤ 33 ∧ 33 - x' < 33 - x)) ∧
      (decide (U.cut N x ≠ 0) = false → true = true → U.wrap (A.take (U.elsTo N x).length) = U.wrap A) := by
  have htake : ∀ k, k ≤ 33 → A.take (U.elsTo N k).length = ((U.elsTo N k).map (fun (i : Nat) => (2 : Int) ^ i)).map f := by
    intro k hk
    obtain ⟨r, e⟩ := elsTo_pre N k (33 - k)
    rw [show k + (33 - k) = 33 by omega] at e
    rw [hA]; unfold U.ones
    rw [e, List.map_append, List.map_append, List.take_left' (by simp)]
  refine ⟨⟨0, ⟨⟨(cut_zero N).symm, trivial⟩, trivial⟩, ?_, by omega⟩, fun x hx => ⟨fun h => ?_, fun h _ => ?_⟩⟩
  · rw [htake 0 (by omega)]; rfl
  · have h : U.cut N x ≠ 0 := of_decide_eq_true h
    have hb := cut_pos hN h
    obtain ⟨j, h1, h2, h3, h4, h5⟩ := ones_step hN h
    have hstep : U.wrap (A.take (U.elsTo N x).length) ++ [((f (band (U.cut N x) (-U.cut N x)), ()), ())] = U.wrap (A.take (U.elsTo N (j + 1)).length) := by
      rw [← wrap_snoc]
      congr 1
      rw [htake x hx, htake (j + 1) (by omega), h5, h3]
      simp
    refine ⟨by unfold In64; omega, rfl, ?_, ⟨fun h => (by cases h), fun _ => ⟨by unfold In64; omega, j + 1, ⟨⟨h4, trivial⟩, trivial⟩, by rw [hstep], by omega, by omega⟩⟩, fun _ h => (by cases h), fun h => (by cases h)⟩
    rw [hstep]
    refine ⟨U.wrap (A.drop (U.elsTo N (j + 1)).length), ?_⟩
    unfold U.wrap
    rw [← List.map_append, List.take_append_drop]
  · have h : U.cut N x = 0 := Classical.not_not.1 (of_decide_eq_false h)
    have e := ones_end hN hx h
    rw [htake x hx, ← e, hA]; rfl

theorem num_block {a b : Int} (hab : -3 ≤ a ∧ b ≤ 5) {A : List SnD} {f : Int → SnD} (hA : A = (U.upto a b).map f) (l : Nat) :
    (∃ x : Nat, ((a = a + (x : Int) ∧ True) ∧ True) ∧ (([], true) : YS [tSe]) = (U.wrap (A.take x), true) ∧ x ≤ A.length) ∧
    ∀ x : Nat, x ≤ A.length →
      (decide (a + (x : Int) ≤ b) = true → l = l ∧ (∃ rest : List (Ty.st [tSe]).Data, U.wrap (A.take x) ++ [((f (a + (x : Int)), ()), ())] ++ rest = U.wrap A) ∧
        (((!true) = true → true = true → U.wrap (A.take x) ++ [((f (a + (x : Int)), ()), ())] = U.wrap A) ∧
          ((!true) = false → In64 (a + (x : Int) + 1) ∧ ∃ x' : Nat, ((a + (x : Int) + 1 = a + (x' : Int) ∧ True) ∧ True) ∧
            ((U.wrap (A.take x) ++ [((f (a + (x : Int)), ()), ())], true) : YS [tSe]) = (U.wrap (A.take x'), true) ∧ x' ≤ A.length ∧ A.length - x' < A.length - x)) ∧
        ((!false) = true → false = true → U.wrap (A.take x) ++ [((f (a + (x : Int)), ()), ())] = U.wrap A) ∧
          ((!false) = false → In64 (a + (x : Int) + 1) ∧ ∃ x' : Nat, ((a + (x : Int) + 1 = a + (x' : Int) ∧ True) ∧ True) ∧
            ((U.wrap (A.take x) ++ [((f (a + (x : Int)), ()), ())], false) : YS [tSe]) = (U.wrap (A.take x'), true) ∧ x' ≤ A.length ∧ A.length - x' < A.length - x)) ∧
      (decide (a + (x : Int) ≤ b) = false → true = true → U.wrap (A.take x) = U.wrap A) := by
  have hlen : A.length = (b - a + 1).toNat := by rw [hA, List.length_map, upto_len]
  refine ⟨⟨0, ⟨⟨by simp, trivial⟩, trivial⟩, by rw [List.take_zero]; rfl, Nat.zero_le _⟩, fun x hx => ⟨fun h => ?_, fun h _ => ?_⟩⟩
  · have h : a + (x : Int) ≤ b := of_decide_eq_true h
    have hx2 : x < A.length := by omega
    have hy : A[x] = f (a + (x : Int)) := by subst hA; rw [List.getElem_map, upto_get]
    obtain ⟨k1, r, k2⟩ := take_step hx2 hy
    have hstep : U.wrap (A.take x) ++ [((f (a + (x : Int)), ()), ())] = U.wrap (A.take (x + 1)) := by rw [← wrap_snoc, k1]
    refine ⟨rfl, ⟨U.wrap (A.drop (x + 1)), ?_⟩, ⟨fun h => (by cases h), fun _ => ⟨by unfold In64; omega, x + 1, ⟨⟨by omega, trivial⟩, trivial⟩, by rw [hstep], by omega, by omega⟩⟩, fun _ h => (by cases h), fun h => (by cases h)⟩
    rw [hstep]
    unfold U.wrap
    rw [← List.map_append, List.take_append_drop]
  · have h : ¬ a + (x : Int) ≤ b := of_decide_eq_false h
    rw [List.take_of_length_le (by omega)]

theorem okS_sets {s : SnD} (h : U.okS s = true) : (1 ≤ U.rights s ∧ U.rights s ≤ 8589934591) ∧ (1 ≤ U.lefts s ∧ U.lefts s ≤ 8589934591) ∧ (1 ≤ U.faces s ∧ U.faces s ≤ 8589934591) := by
  unfold U.okS at h
  simp only [Bool.and_eq_true, decide_eq_true_eq] at h
  omega

theorem h86 : vc86 := by
  intro d l hok
  obtain ⟨hr, hl, hf⟩ := okS_sets hok
  have ne : ∀ {n : Int}, decide (d.2.1 = n) = false → ¬ d.2.1 = n := fun h => of_decide_eq_false h
  refine ⟨fun h0 => set_block (f := U.setRt d.1.1) hr ?_ l, fun h0 => ⟨fun h1 => set_block (f := U.setLf d.1.1) hl ?_ l, fun h1 => ⟨fun h2 => num_block (f := fun n => U.setRw d.1.1 (n, n, ())) (by omega) ?_ l, fun h2 => ⟨fun h3 => num_block (f := fun n => U.setCo d.1.1 (n, n, ())) (by omega) ?_ l,
    fun h3 => ⟨fun h4 => set_block (f := U.setFc d.1.1) hf ?_ l, fun h4 _ => ?_⟩⟩⟩⟩⟩
  · unfold U.answers; rw [if_pos (of_decide_eq_true h0)]
  · unfold U.answers; rw [if_neg (ne h0), if_pos (of_decide_eq_true h1)]
  · unfold U.answers; rw [if_neg (ne h0), if_neg (ne h1), if_pos (of_decide_eq_true h2)]; rfl
  · unfold U.answers; rw [if_neg (ne h0), if_neg (ne h1), if_neg (ne h2), if_pos (of_decide_eq_true h3)]; rfl
  · unfold U.answers; rw [if_neg (ne h0), if_neg (ne h1), if_neg (ne h2), if_neg (ne h3), if_pos (of_decide_eq_true h4)]
  · unfold U.answers; rw [if_neg (ne h0), if_neg (ne h1), if_neg (ne h2), if_neg (ne h3), if_neg (ne h4)]; rfl

theorem c87_ok : c87.ok PR := ctx_ok trivial ⟨ok91, ok92, trivial⟩
theorem c88_ok : c88.ok PR := ctx_ok trivial ⟨ok89, ok90, ok93, trivial⟩
theorem seq86 {H : Imm} {lb : Array Value} {d : PD [.ref tSe, .ref .int]} (hd : pvs PR H [.ref tSe, .ref .int] lb.toList d) (hok : U.okS d.1.1 = true) : SeqV PR H [tSe] (LA d) (.func (.func 86) #[] lb) := by
  refine seq_ok (C := c86) (c0_ok 44) mixed Tryz.func86 (by kernel_rfl) (by kernel_rfl) (by kernel_rfl) (by kernel_rfl) (by decide) (vc86_eq.mpr h86) (fun d l B0 R Rx hR hRx hY => ⟨callOK_Y hR hY (fun f run hf => ?_), rngOK_Y⟩) hd ⟨hok, trivial⟩
  split at hf
  · cases hf
    exact inl_ok c87_ok mixed Tryz.func87 (by kernel_rfl) (by kernel_rfl) (by kernel_rfl) (by kernel_rfl) _ _ (noRng hR hY).1 (noRng (C := c87) hR hY).2
  · cases hf
    exact inl_ok c88_ok mixed Tryz.func88 (by kernel_rfl) (by kernel_rfl) (by kernel_rfl) (by kernel_rfl) _ _ (noRng hR hY).1 (noRng (C := c88) hR hY).2
  · cases hf

theorem h54 : vc54 := by intro d; rfl
theorem ok54 : CFnOK PR 54 sc54 := mkFnC (vc54_eq.mpr h54) Tryz.func54 (by kernel_rfl) (by kernel_rfl) (by kernel_rfl) (by kernel_rfl) trivial trivial

/-! ### Ask -/

theorem nums_snoc (l : List ED) (o : List SnD) (x : SnD) : U.nums l (o ++ [x]) = U.nums l o ++ [((U.find l x).length : Int)] := by unfold U.nums; simp
theorem unwrap (l : List SnD) : (U.wrap l).map (fun (x : ((SnD × Unit) × Unit)) => x.1.1) = l := by
  unfold U.wrap
  rw [List.map_map]
  exact List.map_id l
theorem ask_loop {l : List ED} {s : SnD} (h0 : U.lookE l s = 0) (hne : U.find (U.vals (U.opn l).1) s ≠ []) :
    U.ask l s = ((U.bestTo (U.vals (U.opn l).1) s 5).1, (U.bestTo (U.vals (U.opn l).1) s 5).2, 0, ()) := by
  unfold U.ask
  rw [if_neg (by rw [h0]; simp), if_neg hne]
theorem lookE_zero {l : List ED} {s : SnD} (h : U.lookE l s = 0) : (U.opn l).2.1 = 0 ∧ U.okS s = true := by
  unfold U.lookE at h
  split at h
  · cases h
  · rename_i h2
    refine ⟨h, ?_⟩
    cases e : U.okS s with
    | true => rfl
    | false => exact absurd ⟨h, e⟩ h2

theorem h20 : vc20 := by
  intro d
  have h40 := opn_len d.1
  have hokB := opn_ok d.1
  have hform : ∀ x, x ∈ (U.opn d.1).1 → U.okForm (U.fm x.2) = true := fun x hx => okE_form (hokB.ok x hx)
  refine ⟨fun _ => by omega, fun _ => hform, fun _ => ⟨fun h => ⟨fun _ => ?_, fun h => absurd (of_decide_eq_false h) (by decide)⟩, fun h => ⟨fun h2 => ?_, fun h2 => ?_⟩⟩⟩
  · simp only [Bool.and_eq_true, decide_eq_true_eq] at h
    unfold U.ask
    rw [if_neg (by rw [h.1]; simp), if_pos (List.eq_nil_of_length_eq_zero (by omega))]
  · unfold U.ask
    rw [if_pos (of_decide_eq_true h2)]
  · have h2 : U.lookE d.1 d.2.1 = 0 := Classical.not_not.1 (of_decide_eq_false h2)
    have hne : U.find (U.vals (U.opn d.1).1) d.2.1 ≠ [] := by
      intro e
      rw [h2, e] at h
      simp at h
    have hok := (lookE_zero h2).2
    refine ⟨⟨0, ⟨⟨rfl, rfl, rfl, trivial⟩, ⟨rfl, trivial⟩, trivial⟩, rfl, by omega⟩, fun p hp => ⟨fun h3 => ⟨hok, trivial, rfl, fun q x rest hq => ⟨by omega, hform, ?_⟩, fun xs hxs => ?_⟩, fun h3 => ?_⟩⟩
    · rw [List.map_append]
      simp only [List.map_cons, List.map_nil]
      rw [nums_snoc, List.foldl_append]; rfl
    · have e : List.foldl max (0 : Int) (U.nums (U.vals (U.opn d.1).1) (xs.map (fun (x : ((SnD × Unit) × Unit)) => x.1.1))) = U.most (U.vals (U.opn d.1).1) d.2.1 (p : Int) := by
        rw [hxs, unwrap]; rfl
      have h3 : (p : Int) < 5 := of_decide_eq_true h3
      have h3 : p < 5 := by omega
      rw [e]
      refine ⟨fun h4 => ⟨L.in64 (by omega) (by omega), p + 1, ⟨⟨by simp, ?_, ?_, trivial⟩, ⟨rfl, trivial⟩, trivial⟩, rfl, by omega, by omega⟩, fun h4 => ⟨L.in64 (by omega) (by omega), p + 1, ⟨⟨?_, ?_, by simp, trivial⟩, ⟨rfl, trivial⟩, trivial⟩, rfl, by omega, by omega⟩⟩
      · unfold U.bestTo; rw [if_pos (of_decide_eq_true h4)]
      · unfold U.bestTo; rw [if_pos (of_decide_eq_true h4)]
      · conv => rhs; unfold U.bestTo
        rw [if_neg (of_decide_eq_false h4)]
      · conv => rhs; unfold U.bestTo
        rw [if_neg (of_decide_eq_false h4)]
    · have h3 : p = 5 := by simp at h3; omega
      subst h3
      rw [ask_loop h2 hne]

theorem c20_ok : c20.ok PR := ctxx_ok ⟨fun _ => ok50, fun _ => ok51, trivial⟩ trivial ⟨ok54, trivial⟩ trivial
theorem tb20_ok : SeqsOK PR tb20 := by
  intro k t rs sv pr L v ρ hk hs hpr hd
  unfold tb20 at hk
  split at hk
  case h_2 => cases hk
  simp only [Option.some.injEq] at hk
  cases hk
  simp only [rg20] at hs
  split at hs
  case h_2 => cases hs
  rename_i t s u p
  split at hs
  case h_2 => cases hs
  rename_i s' p' hm1 hm2
  simp only [Option.some.injEq, Prod.mk.injEq] at hs
  obtain ⟨rfl, rfl⟩ := hs
  obtain ⟨e1, rfl⟩ := cast?_some hm1
  obtain ⟨e2, rfl⟩ := cast?_some hm2
  subst e1
  subst e2
  simp only [SV.den, SV.denL] at hd
  obtain ⟨lb, rfl, x, r, hl, h1, y, r2, hl2, h2, h3⟩ := hd
  exact seq86 (d := (s, p, ())) (by rw [hl, hl2, h3]; exact ⟨h1, h2, rfl⟩) hpr
theorem ok20 : FnOK PR 20 sp20 :=
  rfn_okd (body := bodyOf Tryz.f20) (C := c20) (hk := hkC c20 (fun _ => none) tb20 [] []) c20_ok mixed Tryz.func20 (by kernel_rfl) (by kernel_rfl) (by kernel_rfl) (by decide) (fun B => hkC_ok c20_ok mixed tb20_ok no_rt B) (vc20_eq.mpr h20)

end Go.X
/-
  Signs: twins: what is asked.
-/
namespace Go.X
open Go.Proofs

abbrev tP : Ty := .st [.int, .int]
abbrev PaD : Type := Int × Int × Unit
namespace U
def cmpP (a b : PaD) : Int := cmpL [a.1, a.2.1] [b.1, b.2.1]
def twinOf (x y : ED) : Bool := decide (sg x < sg y) && decide (order (fm x) (fm y) = 0) && decide (band (rg x) (rg y) ≠ 0) && meet (ag x) (ag y)
def pairOf (x y : ED) : PaD := (sg x, sg y, ())
def pairsOf (l : List ED) (x : ED) : List PaD := (l.filter (twinOf x)).map (pairOf x)
def pairsAll (l done : List ED) : List PaD := done.flatMap (pairsOf l)
def compT {α : Type} (eq : α → α → Bool) (p : α) : List α → List α
  | [] => []
  | y :: r => if eq y p = true then compT eq y r else y :: compT eq y r
def comp {α : Type} (eq : α → α → Bool) : List α → List α
  | [] => []
  | x :: r => x :: compT eq x r
def eqF {α : Type} (F : α × α × Unit → Bool × Unit) (a b : α) : Bool := (F (a, b, ())).1
def inv4 (eq : PaD → PaD → Bool) (l : List PaD) (i : Nat) : Prop := 1 ≤ i ∧ i ≤ l.length ∧ comp eq (l.take i) = l.take i
def n72 (eq : PaD → PaD → Bool) (l : List PaD) (n : Nat) : Int := ((comp eq (l.take n)).length : Int)
def inv9 (eq : PaD → PaD → Bool) (l : List PaD) (i k : Nat) (r : List PaD) : Prop := 1 ≤ k ∧ i + k ≤ l.length ∧ r.length = l.length ∧ comp eq (l.take (i + k)) = r.take (comp eq (l.take (i + k))).length ∧ r.drop (i + k - 1) = l.drop (i + k - 1) ∧ (comp eq (l.take (i + k))).length < i + k
def srtP (l : List PaD) : List PaD := sortBy (lessF tP fun x => (cmpP x.1 x.2.1, ())) l
def eqP (a b : PaD) : Bool := decide (a = b)
def twn (l : List ED) : List PaD × Int × Unit := if (opn l).2.1 ≠ 0 then ([], (opn l).2.1, ()) else (comp eqP (srtP (pairsAll (vals (opn l).1) (vals (opn l).1))), 0, ())
end U

def sp70 : Spec := ⟨[.val tP, .val tP], [.int], false, fun _ => [], fun d => (U.cmpP d.1 d.2.1, ())⟩
def vc70 : Prop :=
  ∀ (d : SpD × SpD × Unit), (U.cmpL [d.1.1, d.1.2.1] [d.2.1.1, d.2.1.2.1], ()) = (U.cmpP d.1 d.2.1, ())

theorem vc70_eq : fnVC (ctx 8 [(71, sp71)] []) (fun _ => none) Tryz.f70 (bodyOf Tryz.f70) sp70 = vc70 := by kernel_rfl

def sp73 : Spec := ⟨[.val tP, .val tP], [.bool], false, fun _ => [], fun d => (U.eqP d.1 d.2.1, ())⟩
def vc73 : Prop :=
  ∀ (d : SpD × SpD × Unit), (decide (d.1 = d.2.1), ()) = (U.eqP d.1 d.2.1, ())

theorem vc73_eq : fnVC (ctx 8 [] []) (fun _ => none) Tryz.f73 (bodyOf Tryz.f73) sp73 = vc73 := by kernel_rfl


abbrev rwP : Sh := .cl (.row 63 tP .unk)
def so72 : OSpec := ⟨[.own rwP false, .fn [tP, tP] [.bool]], [rwP], fun d => [∀ x ∈ d.1, ∀ y ∈ d.1, U.allP (d.2.1.pre (x, y, ())), d.1.length ≤ 100000], fun d => ((U.comp (U.eqF (α := PaD) d.2.1.F) d.1, ()), ())⟩
def an72 : Ann := fun r => match r with
  | 4 => some fun σ => { X := Nat, sl := fun i => [(5, .dat .int (i : Int))], ob := fun _ => [], inv := fun i => U.inv4 (U.eqF (α := PaD) (gfn [tP, tP] [.bool] σ 1)) (gr tP σ 1000000) i, mu := fun i => (gr tP σ 1000000).length - i }
  | 9 => some fun σ => { X := Nat × List PaD, sl := fun x => [(7, .dat .int (x.1 : Int)), (5, .dat .int (U.n72 (U.eqF (α := PaD) (gfn [tP, tP] [.bool] σ 1)) (gr tP σ 1000000) ((gd .int σ 5).toNat + x.1)))], ob := fun x => [(1000000, some (.row 63 tP false .unk x.2))], inv := fun x => U.inv9 (U.eqF (α := PaD) (gfn [tP, tP] [.bool] σ 1)) (gr tP σ 1000000) (gd .int σ 5).toNat x.1 x.2, mu := fun x => (gr tP σ 1000000).length - x.1 }
  | _ => none
def vc72 : Prop :=
  ∀ (d : List SpD × FnD [tP, tP] [Ty.bool] × Unit),
  (∀ (x : Int × Int × Unit), x ∈ d.1 → ∀ (y : Int × Int × Unit), y ∈ d.1 → U.allP (d.2.1.1 (x, y, ()))) →
  d.1.length ≤ 100000 →
  d.1.length < 4611686018427387904 →
  (decide ((d.1.length : Int) < (2 : Int)) = true → (d.1, ()) = (U.comp (U.eqF d.2.1.2) d.1, ()) ∧ () = ()) ∧
  (decide ((d.1.length : Int) < (2 : Int)) = false →
  (∃ (x : Nat), (((1 : Int) = (x : Int) ∧ True) ∧ True) ∧ U.inv4 (U.eqF d.2.1.2) d.1 x) ∧
  ∀ (x : Nat),
  U.inv4 (U.eqF d.2.1.2) d.1 x →
  d.1.length < 4611686018427387904 →
  (decide ((x : Int) < (d.1.length : Int)) = true →
  0 ≤ (x : Int) ∧
  (x : Int) < (d.1.length : Int) ∧
  In64 ((x : Int) - 1) ∧
  0 ≤ (x : Int) - 1 ∧
  (x : Int) - 1 < (d.1.length : Int) ∧
  asks (d.2.1.1 (nth d.1 (x : Int).toNat, nth d.1 ((x : Int) - 1).toNat, ()))
  (((d.2.1.2 (nth d.1 (x : Int).toNat, nth d.1 ((x : Int) - 1).toNat, ())).1 = true →
  0 ≤ (x : Int) ∧
  (x : Int) ≤ (d.1.length : Int) ∧
  (d.1.length : Int) ≤ (d.1.length : Int) ∧
  (∃ (x_5 : Nat × List SpD),
  (((1 : Int) = (x_5.1 : Int) ∧ (x : Int) = U.n72 (U.eqF d.2.1.2) d.1 ((x : Int).toNat + x_5.1) ∧ True) ∧ d.1 = x_5.2 ∧ True) ∧
  U.inv9 (U.eqF d.2.1.2) d.1 (x : Int).toNat x_5.1 x_5.2) ∧
  ∀ (x_5 : Nat × List SpD),
  U.inv9 (U.eqF d.2.1.2) d.1 (x : Int).toNat x_5.1 x_5.2 →
  (d.1.length : Int).toNat - (x : Int).toNat < 4611686018427387904 →
  (decide ((x_5.1 : Int) < (↑((d.1.length : Int).toNat - (x : Int).toNat) : Int)) = true →
  0 ≤ (x_5.1 : Int) ∧
  (x_5.1 : Int) < (↑((d.1.length : Int).toNat - (x : Int).toNat) : Int) ∧
  In64 ((x_5.1 : Int) - 1) ∧
  0 ≤ (x_5.1 : Int) - 1 ∧
  (x_5.1 : Int) - 1 < (↑((d.1.length : Int).toNat - (x : Int).toNat) : Int) ∧
  asks (d.2.1.1 (nth x_5.2 ((x : Int).toNat + (x_5.1 : Int).toNat), nth x_5.2 ((x : Int).toNat + ((x_5.1 : Int) - 1).toNat), ()))
  (((!(d.2.1.2 (nth x_5.2 ((x : Int).toNat + (x_5.1 : Int).toNat), nth x_5.2 ((x : Int).toNat + ((x_5.1 : Int) - 1).toNat), ())).1) = true →
  0 ≤ (x_5.1 : Int) ∧
  (x_5.1 : Int) < (↑((d.1.length : Int).toNat - (x : Int).toNat) : Int) ∧
  (0 : Int) ≤ U.n72 (U.eqF d.2.1.2) d.1 ((x : Int).toNat + x_5.1) ∧
  U.n72 (U.eqF d.2.1.2) d.1 ((x : Int).toNat + x_5.1) < (x_5.2.length : Int) ∧
  In64 (U.n72 (U.eqF d.2.1.2) d.1 ((x : Int).toNat + x_5.1) + (1 : Int)) ∧
  In64 ((x_5.1 : Int) + 1) ∧
  ∃ (x' : Nat × List SpD),
  (((x_5.1 : Int) + 1 = (x'.1 : Int) ∧
  U.n72 (U.eqF d.2.1.2) d.1 ((x : Int).toNat + x_5.1) + (1 : Int) = U.n72 (U.eqF d.2.1.2) d.1 ((x : Int).toNat + x'.1) ∧ True) ∧
  x_5.2.set (U.n72 (U.eqF d.2.1.2) d.1 ((x : Int).toNat + x_5.1)).toNat (nth x_5.2 ((x : Int).toNat + (x_5.1 : Int).toNat)) =
  x'.2 ∧
  True) ∧
  U.inv9 (U.eqF d.2.1.2) d.1 (x : Int).toNat x'.1 x'.2 ∧ d.1.length - x'.1 < d.1.length - x_5.1) ∧
  ((!(d.2.1.2 (nth x_5.2 ((x : Int).toNat + (x_5.1 : Int).toNat), nth x_5.2 ((x : Int).toNat + ((x_5.1 : Int) - 1).toNat), ())).1) = false →
  In64 ((x_5.1 : Int) + 1) ∧
  ∃ (x' : Nat × List SpD),
  ((U.n72 (U.eqF d.2.1.2) d.1 ((x : Int).toNat + x_5.1) = U.n72 (U.eqF d.2.1.2) d.1 ((x : Int).toNat + x'.1) ∧
  (x_5.1 : Int) + 1 = (x'.1 : Int) ∧ True) ∧
  x_5.2 = x'.2 ∧ True) ∧
  U.inv9 (U.eqF d.2.1.2) d.1 (x : Int).toNat x'.1 x'.2 ∧ d.1.length - x'.1 < d.1.length - x_5.1))) ∧
  (decide ((x_5.1 : Int) < (↑((d.1.length : Int).toNat - (x : Int).toNat) : Int)) = false →
  (0 : Int) ≤ U.n72 (U.eqF d.2.1.2) d.1 ((x : Int).toNat + x_5.1) ∧
  U.n72 (U.eqF d.2.1.2) d.1 ((x : Int).toNat + x_5.1) ≤ (x_5.2.length : Int) ∧
  (x_5.2.length : Int) ≤ (x_5.2.length : Int) ∧
  (U.n72 (U.eqF d.2.1.2) d.1 ((x : Int).toNat + x_5.1)).toNat + ((x_5.2.length : Int).toNat - (U.n72 (U.eqF d.2.1.2) d.1 ((x : Int).toNat + x_5.1)).toNat) =
  x_5.2.length ∧
  (0 : Int) ≤ (0 : Int) ∧
  (0 : Int) ≤ U.n72 (U.eqF d.2.1.2) d.1 ((x : Int).toNat + x_5.1) ∧
  U.n72 (U.eqF d.2.1.2) d.1 ((x : Int).toNat + x_5.1) ≤
  (↑(List.take (U.n72 (U.eqF d.2.1.2) d.1 ((x : Int).toNat + x_5.1)).toNat x_5.2 ++
  List.replicate ((x_5.2.length : Int).toNat - (U.n72 (U.eqF d.2.1.2) d.1 ((x : Int).toNat + x_5.1)).toNat) ((0 : Int), (0 : Int), ())).length :
  Int) ∧
  (List.take ((U.n72 (U.eqF d.2.1.2) d.1 ((x : Int).toNat + x_5.1)).toNat - Int.toNat (0 : Int))
  (List.take (U.n72 (U.eqF d.2.1.2) d.1 ((x : Int).toNat + x_5.1)).toNat x_5.2 ++
  List.replicate ((x_5.2.length : Int).toNat - (U.n72 (U.eqF d.2.1.2) d.1 ((x : Int).toNat + x_5.1)).toNat) ((0 : Int), (0 : Int), ())),
  ()) =
  (U.comp (U.eqF d.2.1.2) d.1, ()) ∧
  () = ())) ∧
  ((d.2.1.2 (nth d.1 (x : Int).toNat, nth d.1 ((x : Int) - 1).toNat, ())).1 = false →
  In64 ((x : Int) + 1) ∧ ∃ (x' : Nat), (((x : Int) + 1 = (x' : Int) ∧ True) ∧ True) ∧ U.inv4 (U.eqF d.2.1.2) d.1 x' ∧ d.1.length - x' < d.1.length - x))) ∧
  (decide ((x : Int) < (d.1.length : Int)) = false → (d.1, ()) = (U.comp (U.eqF d.2.1.2) d.1, ()) ∧ () = ()))

theorem vc72_eq : ofnVC (ctx 66 [] []) (an72) Tryz.f72 (bodyOf Tryz.f72) so72 = vc72 := by kernel_rfl


def sp34 : Spec := ⟨[.val (.slice tE)], [.slice tP, .int], false, fun _ => [], fun d => U.twn d.1⟩
def an34 : Ann := fun r => match r with
  | 6 => some fun σ => { X := Bk × List ED × List PaD, sl := fun _ => [(6, .own 6 tP)], ob := fun x => [(20, some (.iter .int tE x.1 none)), (6, some (.row 63 tP false .yes x.2.2))], inv := fun x => (x.2.1 ++ U.vals x.1).Perm (U.vals (gmI σ 20)) ∧ x.2.2.Perm (U.pairsAll (U.vals (gmI σ 20)) x.2.1), mu := fun x => x.1.length }
  | 9 => some fun σ => { X := Bk × List ED × List PaD, sl := fun _ => [(6, .own 6 tP)], ob := fun x => [(26, some (.iter .int tE x.1 none)), (6, some (.row 63 tP false .yes x.2.2))], inv := fun x => (x.2.1 ++ U.vals x.1).Perm (U.vals (gmI σ 26)) ∧ x.2.2.Perm (gr tP σ 6 ++ U.pairsOf x.2.1 (gd tE σ 24)), mu := fun x => x.1.length }
  | _ => none
def vc34 : Prop :=
  ∀ (d : List ED × Unit),
  (decide ((U.opn d.1).2.1 ≠ (0 : Int)) = true → ([], (U.opn d.1).2) = U.twn d.1) ∧
  (decide ((U.opn d.1).2.1 ≠ (0 : Int)) = false →
  (∃ (x :
  List (Int × ED) ×
  List ED × List SpD),
  ((True ∧ True) ∧ (U.opn d.1).1 = x.1 ∧ x.2.2 = [] ∧ True) ∧ (x.2.1 ++ U.vals x.1).Perm (U.vals (U.opn d.1).1) ∧ x.2.2.Perm (U.pairsAll (U.vals (U.opn d.1).1) x.2.1)) ∧
  ∀
  (x :
  List (Int × ED) ×
  List ED × List SpD),
  (x.2.1 ++ U.vals x.1).Perm (U.vals (U.opn d.1).1) ∧ x.2.2.Perm (U.pairsAll (U.vals (U.opn d.1).1) x.2.1) →
  (x.1 = [] →
  (false = true → False) ∧
  (false = false →
  (∀ (x_4 : Int × Int × Unit), x_4 ∈ x.2.2 → ∀ (y : Int × Int × Unit), y ∈ x.2.2 → U.allP []) ∧
  OrdOn (U.lessF (Ty.int.pair (Ty.int.pair Ty.unit)) fun (x : SpD × SpD × Unit) => (U.cmpP x.1 x.2.1, ())) x.2.2 ∧
  (∀ (x_4 : Int × Int × Unit),
  x_4 ∈ U.sortBy (U.lessF (Ty.int.pair (Ty.int.pair Ty.unit)) fun (x : SpD × SpD × Unit) => (U.cmpP x.1 x.2.1, ())) x.2.2 →
  ∀ (y : Int × Int × Unit), y ∈ U.sortBy (U.lessF (Ty.int.pair (Ty.int.pair Ty.unit)) fun (x : SpD × SpD × Unit) => (U.cmpP x.1 x.2.1, ())) x.2.2 → U.allP []) ∧
  (U.sortBy (U.lessF (Ty.int.pair (Ty.int.pair Ty.unit)) fun (x : SpD × SpD × Unit) => (U.cmpP x.1 x.2.1, ())) x.2.2).length ≤ 100000 ∧
  (U.comp (U.eqF fun (x : SpD × SpD × Unit) => (U.eqP x.1 x.2.1, ()))
  (U.sortBy (U.lessF (Ty.int.pair (Ty.int.pair Ty.unit)) fun (x : SpD × SpD × Unit) => (U.cmpP x.1 x.2.1, ())) x.2.2),
  (0 : Int), ()) =
  U.twn d.1)) ∧
  ∀ (pre : List (Int × ED))
  (x_2 : Int × ED)
  (post : List (Int × ED)),
  x.1 = pre ++ x_2 :: post →
  (true = true →
  (∃ (x_5 :
  List (Int × ED) ×
  List ED × List SpD),
  ((True ∧ True) ∧ (U.opn d.1).1 = x_5.1 ∧ x.2.2 = x_5.2.2 ∧ True) ∧ (x_5.2.1 ++ U.vals x_5.1).Perm (U.vals (U.opn d.1).1) ∧ x_5.2.2.Perm (x.2.2 ++ U.pairsOf x_5.2.1 x_2.2)) ∧
  ∀
  (x_5 :
  List (Int × ED) ×
  List ED × List SpD),
  (x_5.2.1 ++ U.vals x_5.1).Perm (U.vals (U.opn d.1).1) ∧ x_5.2.2.Perm (x.2.2 ++ U.pairsOf x_5.2.1 x_2.2) →
  (x_5.1 = [] →
  (false = true → False) ∧
  (false = false →
  ∃ (x' :
  List (Int × ED) ×
  List ED × List SpD),
  ((True ∧ True) ∧ x_5.2.2 = x'.2.2 ∧ pre ++ post = x'.1 ∧ True) ∧
  ((x'.2.1 ++ U.vals x'.1).Perm (U.vals (U.opn d.1).1) ∧ x'.2.2.Perm (U.pairsAll (U.vals (U.opn d.1).1) x'.2.1)) ∧ x'.1.length < x.1.length)) ∧
  ∀ (pre_1 : List (Int × ED))
  (x_7 : Int × ED)
  (post_1 : List (Int × ED)),
  x_5.1 = pre_1 ++ x_7 :: post_1 →
  (true = true →
  ((decide (x_2.2.2.1 < x_7.2.2.1) && decide (U.order x_2.2.2.2.2.1 x_7.2.2.2.2.1 = (0 : Int)) && decide (band x_2.2.2.2.1 x_7.2.2.2.1 ≠ (0 : Int)) &&
  U.meet x_2.2.2.2.2.2.1 x_7.2.2.2.2.2.1) =
  true →
  (x_5.2.2.length + [(x_2.2.2.1, x_7.2.2.1, ())].length) * 16 ≤ 140737488355328 ∧
  ∃ (x' :
  List (Int × ED) ×
  List ED × List SpD),
  ((True ∧ True) ∧ x_5.2.2 ++ [(x_2.2.2.1, x_7.2.2.1, ())] = x'.2.2 ∧ pre_1 ++ post_1 = x'.1 ∧ True) ∧
  ((x'.2.1 ++ U.vals x'.1).Perm (U.vals (U.opn d.1).1) ∧ x'.2.2.Perm (x.2.2 ++ U.pairsOf x'.2.1 x_2.2)) ∧ x'.1.length < x_5.1.length) ∧
  ((decide (x_2.2.2.1 < x_7.2.2.1) && decide (U.order x_2.2.2.2.2.1 x_7.2.2.2.2.1 = (0 : Int)) && decide (band x_2.2.2.2.1 x_7.2.2.2.1 ≠ (0 : Int)) &&
  U.meet x_2.2.2.2.2.2.1 x_7.2.2.2.2.2.1) =
  false →
  ∃ (x' :
  List (Int × ED) ×
  List ED × List SpD),
  ((True ∧ True) ∧ x_5.2.2 = x'.2.2 ∧ pre_1 ++ post_1 = x'.1 ∧ True) ∧
  ((x'.2.1 ++ U.vals x'.1).Perm (U.vals (U.opn d.1).1) ∧ x'.2.2.Perm (x.2.2 ++ U.pairsOf x'.2.1 x_2.2)) ∧ x'.1.length < x_5.1.length)) ∧
  (true = false →
  ∃ (x' :
  List (Int × ED) ×
  List ED × List SpD),
  ((True ∧ True) ∧ x_5.2.2 = x'.2.2 ∧ pre ++ post = x'.1 ∧ True) ∧
  ((x'.2.1 ++ U.vals x'.1).Perm (U.vals (U.opn d.1).1) ∧ x'.2.2.Perm (U.pairsAll (U.vals (U.opn d.1).1) x'.2.1)) ∧ x'.1.length < x.1.length)) ∧
  (true = false →
  (∀ (x_5 : Int × Int × Unit), x_5 ∈ x.2.2 → ∀ (y : Int × Int × Unit), y ∈ x.2.2 → U.allP []) ∧
  OrdOn (U.lessF (Ty.int.pair (Ty.int.pair Ty.unit)) fun (x : SpD × SpD × Unit) => (U.cmpP x.1 x.2.1, ())) x.2.2 ∧
  (∀ (x_5 : Int × Int × Unit),
  x_5 ∈ U.sortBy (U.lessF (Ty.int.pair (Ty.int.pair Ty.unit)) fun (x : SpD × SpD × Unit) => (U.cmpP x.1 x.2.1, ())) x.2.2 →
  ∀ (y : Int × Int × Unit), y ∈ U.sortBy (U.lessF (Ty.int.pair (Ty.int.pair Ty.unit)) fun (x : SpD × SpD × Unit) => (U.cmpP x.1 x.2.1, ())) x.2.2 → U.allP []) ∧
  (U.sortBy (U.lessF (Ty.int.pair (Ty.int.pair Ty.unit)) fun (x : SpD × SpD × Unit) => (U.cmpP x.1 x.2.1, ())) x.2.2).length ≤ 100000 ∧
  (U.comp (U.eqF fun (x : SpD × SpD × Unit) => (U.eqP x.1 x.2.1, ()))
  (U.sortBy (U.lessF (Ty.int.pair (Ty.int.pair Ty.unit)) fun (x : SpD × SpD × Unit) => (U.cmpP x.1 x.2.1, ())) x.2.2),
  (0 : Int), ()) =
  U.twn d.1))

theorem vc34_eq : fnVC (ctx 71 [(59, sp59), (63, sp63), (68, sp68), (70, sp70), (73, sp73)] [(69, soSort tP 63), (72, so72)]) (an34) Tryz.f34 (bodyOf Tryz.f34) sp34 = vc34 := by kernel_rfl


end Go.X
/-
  Signs: twins.
-/
namespace Go.X
open Go.Proofs

theorem h70 : vc70 := fun _ => rfl
theorem ok70 : FnOK PR 70 sp70 := mkFn (vc70_eq.mpr h70) Tryz.func70 (by kernel_rfl) (by kernel_rfl) (by kernel_rfl) (by kernel_rfl) ⟨fun _ => ok71, trivial⟩ trivial
theorem h73 : vc73 := fun _ => rfl
theorem ok73 : FnOK PR 73 sp73 := mkFn (vc73_eq.mpr h73) Tryz.func73 (by kernel_rfl) (by kernel_rfl) (by kernel_rfl) (by kernel_rfl) trivial trivial

/-! ### slices.CompactFunc -/

section
variable {α : Type} [Inhabited α] {eq : α → α → Bool}
theorem compT_snoc (y : α) : ∀ (r : List α) (p : α), U.compT eq p (r ++ [y]) = U.compT eq p r ++ (if eq y (nth (p :: r) r.length) = true then [] else [y])
  | [], p => rfl
  | z :: r, p => by
    have e : nth (p :: z :: r) (z :: r).length = nth (z :: r) r.length := rfl
    rw [e]
    simp only [List.cons_append, U.compT]
    split
    · exact compT_snoc y r z
    · rw [compT_snoc y r z]; rfl
theorem comp_snoc (y : α) {l : List α} (h : l ≠ []) : U.comp eq (l ++ [y]) = U.comp eq l ++ (if eq y (nth l (l.length - 1)) = true then [] else [y]) := by
  cases l with
  | nil => exact absurd rfl h
  | cons x r =>
    show x :: U.compT eq x (r ++ [y]) = _
    rw [compT_snoc]
    have : (x :: r).length - 1 = r.length := by simp
    rw [this]; rfl
theorem comp_take {l : List α} {n : Nat} (h1 : 1 ≤ n) (h2 : n < l.length) : U.comp eq (l.take (n + 1)) = U.comp eq (l.take n) ++ (if eq (nth l n) (nth l (n - 1)) = true then [] else [nth l n]) := by
  rw [L.take_succ h2, comp_snoc]
  · have e : (l.take n).length - 1 = n - 1 := by rw [List.length_take]; omega
    have e2 : nth (l.take n) (n - 1) = nth l (n - 1) := by
      unfold nth
      rw [List.getD_eq_getElem?_getD, List.getD_eq_getElem?_getD, List.getElem?_take_of_lt (by omega)]
    rw [e, e2]
  · intro e
    have := congrArg List.length e
    rw [List.length_take, List.length_nil] at this
    omega
end
theorem comp_short {α : Type} {eq : α → α → Bool} {l : List α} (h : l.length < 2) : U.comp eq l = l := by
  match l, h with
  | [], _ => rfl
  | [x], _ => rfl
theorem comp_len {α : Type} {eq : α → α → Bool} (l : List α) : (U.comp eq l).length ≤ l.length := by
  have : ∀ (r : List α) (p : α), (U.compT eq p r).length ≤ r.length := by
    intro r
    induction r with
    | nil => intro p; simp [U.compT]
    | cons y r ih =>
      intro p
      unfold U.compT
      split
      · have := ih y; simp; omega
      · have := ih y; simp; omega
  cases l with
  | nil => simp [U.comp]
  | cons x r => have := this r x; simp [U.comp]; omega

theorem nth_drop {α : Type} [Inhabited α] {l r : List α} {a n : Nat} (h : l.drop a = r.drop a) (hn : a ≤ n) : nth l n = nth r n := by
  have e := congrArg (fun x => x[n - a]?) h
  simp only [List.getElem?_drop] at e
  rw [show a + (n - a) = n by omega] at e
  unfold nth
  rw [List.getD_eq_getElem?_getD, List.getD_eq_getElem?_getD, e]

theorem inv9_next {eq : PaD → PaD → Bool} {l r : List PaD} {i k : Nat} (hi : 1 ≤ i) (h : U.inv9 eq l i k r) (hlt : i + k < l.length) :
    (eq (nth r (i + k)) (nth r (i + k - 1)) = false → U.n72 eq l (i + (k + 1)) = U.n72 eq l (i + k) + 1 ∧ U.inv9 eq l i (k + 1) (r.set (U.n72 eq l (i + k)).toNat (nth r (i + k)))) ∧
    (eq (nth r (i + k)) (nth r (i + k - 1)) = true → U.n72 eq l (i + (k + 1)) = U.n72 eq l (i + k) ∧ U.inv9 eq l i (k + 1) r) := by
  obtain ⟨h1, h2, h3, h4, h5, h6⟩ := h
  have e1 : nth r (i + k) = nth l (i + k) := nth_drop h5 (by omega)
  have e2 : nth r (i + k - 1) = nth l (i + k - 1) := nth_drop h5 (by omega)
  have hc := comp_take (eq := eq) (l := l) (n := i + k) (by omega) hlt
  rw [show i + k + 1 = i + (k + 1) by omega] at hc
  have hd : r.drop (i + k) = l.drop (i + k) := by
    have := congrArg (List.drop 1) h5
    rw [List.drop_drop, List.drop_drop, show i + k - 1 + 1 = i + k by omega] at this
    exact this
  rw [e1, e2]
  obtain ⟨c, hcc⟩ : ∃ c, c = U.comp eq (l.take (i + k)) := ⟨_, rfl⟩
  rw [← hcc] at hc h4 h6
  have hn : (U.n72 eq l (i + k)) = (c.length : Int) := by unfold U.n72; rw [← hcc]
  rw [hn]
  refine ⟨fun he => ?_, fun he => ?_⟩
  · rw [if_neg (by rw [he]; simp)] at hc
    refine ⟨by unfold U.n72; rw [hc]; simp, by omega, by omega, by simpa using h3, ?_, ?_, ?_⟩
    · rw [hc]
      simp only [Int.toNat_natCast, List.length_append, List.length_cons, List.length_nil]
      rw [List.take_add_one, List.getElem?_set_self (by omega)]
      rw [List.take_set_of_le (by omega), ← h4]; rfl
    · rw [show i + (k + 1) - 1 = i + k by omega]
      simp only [Int.toNat_natCast]
      rw [List.drop_set_of_lt (by omega)]; exact hd
    · rw [hc]; simp; omega
  · rw [if_pos he, List.append_nil] at hc
    refine ⟨by unfold U.n72; rw [hc], by omega, by omega, h3, ?_, ?_, ?_⟩
    · rw [hc]; exact h4
    · rw [show i + (k + 1) - 1 = i + k by omega]; exact hd
    · rw [hc]; omega

theorem h72 : vc72 := by
  rintro ⟨l, f, ⟨⟩⟩ hpre hl1 hl2
  have hl1 : l.length ≤ 100000 := hl1
  have hpre : ∀ x, x ∈ l → ∀ y, y ∈ l → U.allP (f.pre (x, y, ())) := hpre
  obtain ⟨eq, heq⟩ : ∃ eq, eq = U.eqF (α := PaD) f.F := ⟨_, rfl⟩
  have hF : ∀ a b : PaD, (f.F (a, b, ())).1 = eq a b := fun a b => by rw [heq]; rfl
  simp only [← heq, hF, Int.toNat_natCast]
  refine ⟨fun h => ⟨?_, trivial⟩, fun h => ?_⟩
  · have h : (l.length : Int) < 2 := of_decide_eq_true h
    rw [comp_short (by omega)]
  have h : ¬ (l.length : Int) < 2 := of_decide_eq_false h
  refine ⟨⟨1, ⟨⟨rfl, trivial⟩, trivial⟩, Nat.le_refl _, by omega, ?_⟩, fun i hi _ => ⟨fun h2 => ?_, fun h2 => ⟨?_, trivial⟩⟩⟩
  · rw [comp_short]
    rw [List.length_take]; omega
  · have h2 : (i : Int) < (l.length : Int) := of_decide_eq_true h2
    obtain ⟨i1, i2, i3⟩ := hi
    have et : ((i : Int) - 1).toNat = i - 1 := by omega
    rw [et]
    have hc := comp_take (eq := eq) (l := l) i1 (by omega : i < l.length)
    refine ⟨by omega, h2, by unfold In64; omega, by omega, by omega, asks_of _ (hpre _ (L.mem_nth (by omega)) _ (L.mem_nth (by omega))) ⟨fun he => ⟨by omega, by omega, Int.le_refl _, ⟨(1, l), ⟨⟨rfl, ?_, trivial⟩, rfl, trivial⟩, Nat.le_refl _, by omega, rfl, ?_, rfl, ?_⟩, fun x hx _ => ⟨fun h3 => ?_, fun h3 => ?_⟩⟩, fun he => ⟨L.in64 (by omega) (by omega), i + 1, ⟨⟨by simp, trivial⟩, trivial⟩, ⟨by omega, by omega, ?_⟩, by omega⟩⟩⟩
    · unfold U.n72
      rw [hc, if_pos he, List.append_nil, i3, List.length_take]; omega
    · rw [hc, if_pos he, List.append_nil, i3, List.length_take]
      show l.take i = l.take (min i l.length)
      congr 1; omega
    · rw [hc, if_pos he, List.append_nil, i3, List.length_take]; omega
    · have h3 : (x.1 : Int) < ((l.length - i : Nat) : Int) := of_decide_eq_true h3
      have hx0 := hx
      obtain ⟨x1, x2, x3, x4, x5, x6⟩ := hx0
      obtain ⟨n1, n2⟩ := inv9_next i1 hx (by omega)
      have ek : ((x.1 : Int) - 1).toNat = x.1 - 1 := by omega
      have ek2 : i + (x.1 - 1) = i + x.1 - 1 := by omega
      rw [ek, ek2]
      have hm1 : nth x.2 (i + x.1) ∈ l := by rw [nth_drop x5 (by omega)]; exact L.mem_nth (by omega)
      have hm2 : nth x.2 (i + x.1 - 1) ∈ l := by rw [nth_drop x5 (by omega)]; exact L.mem_nth (by omega)
      have hn : U.n72 eq l (i + x.1) = ((U.comp eq (l.take (i + x.1))).length : Int) := rfl
      refine ⟨by omega, h3, by unfold In64; omega, by omega, by omega, asks_of _ (hpre _ hm1 _ hm2) ⟨fun he2 => ?_, fun he2 => ?_⟩⟩
      · have he2 : eq (nth x.2 (i + x.1)) (nth x.2 (i + x.1 - 1)) = false := by simpa using he2
        obtain ⟨k1, k2⟩ := n1 he2
        refine ⟨by omega, h3, by omega, by omega, by unfold In64; omega, L.in64 (by omega) (by omega), (x.1 + 1, _), ⟨⟨by simp, k1.symm, trivial⟩, rfl, trivial⟩, k2, by show _ - (x.1 + 1) < _; omega⟩
      · have he2 : eq (nth x.2 (i + x.1)) (nth x.2 (i + x.1 - 1)) = true := by simpa using he2
        obtain ⟨k1, k2⟩ := n2 he2
        exact ⟨L.in64 (by omega) (by omega), (x.1 + 1, x.2), ⟨⟨k1.symm, by simp, trivial⟩, rfl, trivial⟩, k2, by show _ - (x.1 + 1) < _; omega⟩
    · have h3 : ¬ (x.1 : Int) < ((l.length - i : Nat) : Int) := of_decide_eq_false h3
      obtain ⟨x1, x2, x3, x4, x5, x6⟩ := hx
      have hn : U.n72 eq l (i + x.1) = ((U.comp eq (l.take (i + x.1))).length : Int) := rfl
      have hall : l.take (i + x.1) = l := List.take_of_length_le (by omega)
      rw [hall] at hn x4 x6
      rw [hn]
      simp only [Int.toNat_natCast]
      have hcl := comp_len (eq := eq) l
      refine ⟨by omega, by omega, Int.le_refl _, by omega, by omega, by omega, ?_, ⟨?_, trivial⟩⟩
      · simp only [List.length_append, List.length_take, List.length_replicate]; omega
      · congr 1
        rw [show (U.comp eq l).length - Int.toNat 0 = (U.comp eq l).length from rfl]
        rw [List.take_left' (by rw [List.length_take]; omega)]
        exact x4.symm
    · rw [hc, if_neg (by rw [he]; simp), i3]
      exact (L.take_succ (by omega)).symm
  · have h2 : ¬ (i : Int) < (l.length : Int) := of_decide_eq_false h2
    obtain ⟨i1, i2, i3⟩ := hi
    have hall : l.take i = l := List.take_of_length_le (by omega)
    rw [hall] at i3
    rw [i3]
theorem ok72 : OFnOK PR 72 so72 := mkFnO (vc72_eq.mpr h72) Tryz.func72 (by kernel_rfl) (by kernel_rfl) (by kernel_rfl) (by kernel_rfl) (by kernel_rfl) trivial trivial

/-! ### Twins -/

theorem cmpP_ok : IsCmp U.cmpP := onC_ok cmpLs_ok (fun (a : PaD) => [a.1, a.2.1])
theorem cmpP_zero {a b : PaD} (h : U.cmpP a b = 0) : a = b := by
  have h : U.cmpL [a.1, a.2.1] [b.1, b.2.1] = 0 := h
  have := cmpL_zero.1 h
  simp only [List.cons.injEq, and_true] at this
  obtain ⟨a1, a2, ⟨⟩⟩ := a
  obtain ⟨b1, b2, ⟨⟩⟩ := b
  obtain ⟨h1, h2⟩ := this
  have h1 : a1 = b1 := h1
  have h2 : a2 = b2 := h2
  rw [h1, h2]
theorem ordP (l : List PaD) : OrdOn (U.lessF tP fun x => (U.cmpP x.1 x.2.1, ())) l where
  irrefl x _ := by
    unfold U.lessF
    have := cmpP_ok.refl x
    simp only [this]; rfl
  trans x y z _ _ _ h1 h2 := by
    unfold U.lessF at *
    have h1 := of_decide_eq_true h1
    have h2 := of_decide_eq_true h2
    exact decide_eq_true (cmpP_ok.lt_le h1 (by have h2 : U.cmpP y z < 0 := h2; show U.cmpP y z ≤ 0; omega))
  total x y _ _ h1 h2 := by
    unfold U.lessF at *
    have h1 : ¬ U.cmpP x y < 0 := of_decide_eq_false h1
    have h2 : ¬ U.cmpP y x < 0 := of_decide_eq_false h2
    have := cmpP_ok.anti x y
    exact cmpP_zero (by omega)

theorem pairsOf_snoc (l : List ED) (x y : ED) : U.pairsOf (l ++ [y]) x = U.pairsOf l x ++ (if U.twinOf x y = true then [U.pairOf x y] else []) := by
  unfold U.pairsOf
  rw [List.filter_append, List.map_append]
  congr 1
  cases h : U.twinOf x y <;> simp [List.filter, h]
theorem pairsOf_perm {a b : List ED} (h : a.Perm b) (x : ED) : (U.pairsOf a x).Perm (U.pairsOf b x) := (h.filter _).map _
theorem pairsAll_snoc (l done : List ED) (x : ED) : U.pairsAll l (done ++ [x]) = U.pairsAll l done ++ U.pairsOf l x := by unfold U.pairsAll; simp
theorem pairsAll_perm {a b : List ED} (l : List ED) (h : a.Perm b) : (U.pairsAll l a).Perm (U.pairsAll l b) := h.flatMap_right _
theorem pairsOf_len (l : List ED) (x : ED) : (U.pairsOf l x).length ≤ l.length := by unfold U.pairsOf; rw [List.length_map]; exact List.length_filter_le _ _
theorem pairsAll_len (l : List ED) : ∀ done : List ED, (U.pairsAll l done).length ≤ done.length * l.length
  | [] => by simp [U.pairsAll]
  | x :: r => by
    have h1 := pairsAll_len l r
    have h2 := pairsOf_len l x
    have e : U.pairsAll l (x :: r) = U.pairsOf l x ++ U.pairsAll l r := rfl
    rw [e, List.length_append, List.length_cons, Nat.succ_mul]; omega
theorem mid_perm {pre post : Bk} {y : Int × ED} {done V : List ED} (h : (done ++ U.vals (pre ++ y :: post)).Perm V) : ((done ++ [y.2]) ++ U.vals (pre ++ post)).Perm V := by
  refine List.Perm.trans ?_ h
  rw [vals_app, vals_app, List.append_assoc]
  refine List.Perm.append_left _ ?_
  show (y.2 :: (U.vals pre ++ U.vals post)).Perm (U.vals pre ++ y.2 :: U.vals post)
  exact List.perm_middle.symm

theorem h34 : vc34 := by
  intro d
  refine ⟨fun h => ?_, fun h => ?_⟩
  · unfold U.twn; rw [if_pos (of_decide_eq_true h)]
  have h0 : (U.opn d.1).2.1 = 0 := Classical.not_not.1 (of_decide_eq_false h)
  have h40 : (U.vals (U.opn d.1).1).length ≤ 40 := by unfold U.vals; rw [List.length_map]; exact opn_len d.1
  have htw : U.twn d.1 = (U.comp U.eqP (U.srtP (U.pairsAll (U.vals (U.opn d.1).1) (U.vals (U.opn d.1).1))), 0, ()) := by
    unfold U.twn; rw [if_neg (by rw [h0]; simp)]
  refine ⟨⟨((U.opn d.1).1, [], []), ⟨⟨trivial, trivial⟩, rfl, rfl, trivial⟩, List.Perm.refl _, List.Perm.refl _⟩, fun x hx => ?_⟩
  obtain ⟨left, done, out⟩ := x
  obtain ⟨hp, hq⟩ := hx
  have hp : (done ++ U.vals left).Perm (U.vals (U.opn d.1).1) := hp
  have hq : out.Perm (U.pairsAll (U.vals (U.opn d.1).1) done) := hq
  have hdl : done.length ≤ 40 := by
    have := hp.length_eq
    rw [List.length_append] at this; omega
  have hout : out.length ≤ 1600 := by
    rw [hq.length_eq]
    refine Nat.le_trans (pairsAll_len _ _) ?_
    exact Nat.mul_le_mul hdl h40
  refine ⟨fun h1 => ⟨fun h1 => (by cases h1), fun _ => ⟨fun _ _ _ _ => trivial, ordP _, fun _ _ _ _ => trivial, ?_, ?_⟩⟩, fun pre y post h1 => ⟨fun _ => ⟨⟨((U.opn d.1).1, [], out), ⟨⟨trivial, trivial⟩, rfl, rfl, trivial⟩, List.Perm.refl _, ?_⟩, fun z hz => ?_⟩, fun h1 => (by cases h1)⟩⟩
  · show (U.srtP out).length ≤ 100000
    have e : (U.srtP out).length = out.length := (sortBy_perm out).length_eq
    omega
  · have h1 : left = [] := h1
    subst h1
    rw [show U.vals [] = [] from rfl, List.append_nil] at hp
    have e : U.srtP out = U.srtP (U.pairsAll (U.vals (U.opn d.1).1) (U.vals (U.opn d.1).1)) := sortBy_congr (ordP _) (hq.trans (pairsAll_perm _ hp))
    rw [htw, ← e]; rfl
  · have e : U.pairsOf [] y.2 = [] := rfl
    show out.Perm (out ++ U.pairsOf [] y.2)
    rw [e, List.append_nil]
  have h1 : left = pre ++ y :: post := h1
  obtain ⟨left2, done2, out2⟩ := z
  obtain ⟨hp2, hq2⟩ := hz
  have hp2 : (done2 ++ U.vals left2).Perm (U.vals (U.opn d.1).1) := hp2
  have hq2 : out2.Perm (out ++ U.pairsOf done2 y.2) := hq2
  have hd2 : done2.length ≤ 40 := by
    have := hp2.length_eq
    rw [List.length_append] at this; omega
  have hout2 : out2.length ≤ 1640 := by
    rw [hq2.length_eq, List.length_append]
    have := pairsOf_len done2 y.2
    omega
  refine ⟨fun h2 => ⟨fun h2 => (by cases h2), fun _ => ⟨(pre ++ post, done ++ [y.2], out2), ⟨⟨trivial, trivial⟩, rfl, rfl, trivial⟩, ⟨mid_perm (by rw [← h1]; exact hp), ?_⟩, ?_⟩⟩, fun pre2 v post2 h2 => ⟨fun _ => ⟨fun ht => ⟨?_, (pre2 ++ post2, done2 ++ [v.2], out2 ++ [U.pairOf y.2 v.2]), ⟨⟨trivial, trivial⟩, rfl, rfl, trivial⟩, ⟨?_, ?_⟩, ?_⟩, fun ht => ⟨(pre2 ++ post2, done2 ++ [v.2], out2), ⟨⟨trivial, trivial⟩, rfl, rfl, trivial⟩, ⟨?_, ?_⟩, ?_⟩⟩, fun h1 => (by cases h1)⟩⟩
  · have h2 : left2 = [] := h2
    subst h2
    rw [show U.vals [] = [] from rfl, List.append_nil] at hp2
    rw [pairsAll_snoc]
    refine hq2.trans ?_
    exact List.Perm.append hq (pairsOf_perm hp2 y.2)
  · show (pre ++ post).length < left.length
    rw [h1]; simp
  · show (out2.length + 1) * 16 ≤ 140737488355328
    omega
  · have h2 : left2 = pre2 ++ v :: post2 := h2
    exact mid_perm (by rw [← h2]; exact hp2)
  · have ht : U.twinOf y.2 v.2 = true := ht
    show (out2 ++ [U.pairOf y.2 v.2]).Perm (out ++ U.pairsOf (done2 ++ [v.2]) y.2)
    rw [pairsOf_snoc, if_pos ht, ← List.append_assoc]
    exact hq2.append_right _
  · have h2 : left2 = pre2 ++ v :: post2 := h2
    show (pre2 ++ post2).length < left2.length
    rw [h2]; simp
  · have h2 : left2 = pre2 ++ v :: post2 := h2
    exact mid_perm (by rw [← h2]; exact hp2)
  · have ht : U.twinOf y.2 v.2 = false := ht
    show out2.Perm (out ++ U.pairsOf (done2 ++ [v.2]) y.2)
    rw [pairsOf_snoc, if_neg (by rw [ht]; simp), List.append_nil]
    exact hq2
  · have h2 : left2 = pre2 ++ v :: post2 := h2
    show (pre2 ++ post2).length < left2.length
    rw [h2]; simp
theorem ok34 : FnOK PR 34 sp34 := mkFn (vc34_eq.mpr h34) Tryz.func34 (by kernel_rfl) (by kernel_rfl) (by kernel_rfl) (by kernel_rfl) ⟨fun _ => ok59, fun _ => ok63, fun _ => ok68, fun _ => ok70, fun _ => ok73, trivial⟩ ⟨ok69, ok72, trivial⟩

end Go.X
