/-
  The specification's Readings, Sure, Agree; the statement 'GlossesReads': what is asked.
-/
import Derived.Test.YtoijahccalbjiaaG6
import Derived.Test.YtoijahccalbjiaaG4
namespace Go.X
open Go.Proofs

namespace U
def setR (s : Int) (l : List GD) (film : Int) (k : Nat) : Int := nth (smallest s (at' l film k)) 0
def readingsR (f : FD) (l : List GD) (film : Int) : List RD1 := if frameErr f l film 0 = 0 then readsTo (setR f.2.1 l film) (nth f.1 film.toNat).toNat else []
def sureR (f : FD) (l : List GD) (film frame : Int) : Int := if frameErr f l film frame = 0 then andAll (smallest f.2.1 (at' l film frame)) (nth (smallest f.2.1 (at' l film frame)) 0) else 0
def mayR (f : FD) (l : List GD) (film frame : Int) : Int := if frameErr f l film frame = 0 then orAll (smallest f.2.1 (at' l film frame)) 0 else 0
def sumN (f : Nat → Int) (n : Nat) : Int := (List.range n).foldl (fun s k => s + f k) 0
def cntB (l : List GD) (a b : Int) (φ k : Nat) : Int := if by' (at' l φ k) a ≠ 0 ∧ by' (at' l φ k) b ≠ 0 then 1 else 0
def cntS (l : List GD) (a b : Int) (φ k : Nat) : Int := if band (by' (at' l φ k) a) (by' (at' l φ k) b) ≠ 0 then 1 else 0
def autErr (f : FD) (l : List GD) (a b : Int) : Int := if check f l ≠ 0 then check f l else if areAuthors a b = true then 0 else 1
def bothR (f : FD) (l : List GD) (a b : Int) : Int := if autErr f l a b = 0 then sumN (fun φ => sumN (cntB l a b φ) (nth f.1 φ).toNat) f.1.length else 0
def sameR (f : FD) (l : List GD) (a b : Int) : Int := if autErr f l a b = 0 then sumN (fun φ => sumN (cntS l a b φ) (nth f.1 φ).toNat) f.1.length else 0
end U

def sp26 : Spec := ⟨[.val tF, .val (.slice tG), .val .int], [.slice tR, .int], false, fun _ => [], fun d => (U.readingsR d.1 d.2.1 d.2.2.1, U.frameErr d.1 d.2.1 d.2.2.1 0, ())⟩
def an26 : Ann := fun r => match r with
  | 6 => some fun σ => { X := Nat, sl := fun k => [(10, .dat .int (k : Int)), (9, .own 9 tR)], ob := fun k => [(9, some (.row 70 tR false .yes (U.readsTo (U.setR (gd tF σ 0).2.1 (gd (.slice tG) σ 1) (gd .int σ 2)) k)))], inv := fun k => k ≤ (nth (gd tF σ 0).1 (gd .int σ 2).toNat).toNat, mu := fun k => (nth (gd tF σ 0).1 (gd .int σ 2).toNat).toNat - k }
  | _ => none
def vc26 : Prop :=
  ∀ (d : (List Int × Int × Unit) × List (Int × Int × Int × Int × Int × Int × Unit) × Int × Unit),
  (decide (U.frameErr (d.fst.fst, d.fst.snd.fst, ()) d.snd.fst d.snd.snd.fst (0 : Int) ≠ (0 : Int)) = true →
  ([], U.frameErr (d.fst.fst, d.fst.snd.fst, ()) d.snd.fst d.snd.snd.fst (0 : Int), ()) = (U.readingsR d.fst d.snd.fst d.snd.snd.fst, U.frameErr d.fst d.snd.fst d.snd.snd.fst (0 : Int), ())) ∧
  (decide (U.frameErr (d.fst.fst, d.fst.snd.fst, ()) d.snd.fst d.snd.snd.fst (0 : Int) ≠ (0 : Int)) = false →
  (∃ (x : Nat), (((0 : Int) = (↑x : Int) ∧ True ∧ True) ∧ U.readsTo (U.setR d.fst.snd.fst d.snd.fst d.snd.snd.fst) x = [] ∧ True) ∧ x ≤ (nth d.fst.fst d.snd.snd.fst.toNat).toNat) ∧
  ∀ (x : Nat),
  x ≤ (nth d.fst.fst d.snd.snd.fst.toNat).toNat →
  (0 : Int) ≤ d.snd.snd.fst ∧
  d.snd.snd.fst < (↑d.fst.fst.length : Int) ∧
  (decide ((↑x : Int) < nth d.fst.fst d.snd.snd.fst.toNat) = true →
  d.snd.fst.length ≤ (100000 : Nat) ∧
  (∀ (g : Int × Int × Int × Int × Int × Int × Unit), g ∈ d.snd.fst → (0 : Int) < U.to g ∧ U.to g ≤ (1000 : Int)) ∧
  ((1 : Int) ≤ d.fst.snd.fst ∧ d.fst.snd.fst ≤ (10 : Int)) ∧
  (0 : Int) ≤ (0 : Int) ∧
  (0 : Int) < (↑(U.smallest d.fst.snd.fst (U.at' d.snd.fst d.snd.snd.fst (↑x : Int))).length : Int) ∧
  ((U.readsTo (U.setR d.fst.snd.fst d.snd.fst d.snd.snd.fst) x).length < (4611686018427387904 : Nat) →
  (decide ((0 : Int) < (↑(U.readsTo (U.setR d.fst.snd.fst d.snd.fst d.snd.snd.fst) x).length : Int)) = true → In64 ((↑(U.readsTo (U.setR d.fst.snd.fst d.snd.fst d.snd.snd.fst) x).length : Int) - (1 : Int))) ∧
  (decide ((0 : Int) < (↑(U.readsTo (U.setR d.fst.snd.fst d.snd.fst d.snd.snd.fst) x).length : Int)) = true →
  (0 : Int) ≤ (↑(U.readsTo (U.setR d.fst.snd.fst d.snd.fst d.snd.snd.fst) x).length : Int) - (1 : Int)) ∧
  (decide ((0 : Int) < (↑(U.readsTo (U.setR d.fst.snd.fst d.snd.fst d.snd.snd.fst) x).length : Int)) = true →
  (↑(U.readsTo (U.setR d.fst.snd.fst d.snd.fst d.snd.snd.fst) x).length : Int) - (1 : Int) < (↑(U.readsTo (U.setR d.fst.snd.fst d.snd.fst d.snd.snd.fst) x).length : Int)) ∧
  ((decide ((0 : Int) < (↑(U.readsTo (U.setR d.fst.snd.fst d.snd.fst d.snd.snd.fst) x).length : Int)) &&
  decide
  ((nth (U.readsTo (U.setR d.fst.snd.fst d.snd.fst d.snd.snd.fst) x) ((↑(U.readsTo (U.setR d.fst.snd.fst d.snd.fst d.snd.snd.fst) x).length : Int) - (1 : Int)).toNat).snd.fst = (↑x : Int))) =
  true →
  In64 ((↑(U.readsTo (U.setR d.fst.snd.fst d.snd.fst d.snd.snd.fst) x).length : Int) - (1 : Int))) ∧
  ((decide ((0 : Int) < (↑(U.readsTo (U.setR d.fst.snd.fst d.snd.fst d.snd.snd.fst) x).length : Int)) &&
  decide
  ((nth (U.readsTo (U.setR d.fst.snd.fst d.snd.fst d.snd.snd.fst) x) ((↑(U.readsTo (U.setR d.fst.snd.fst d.snd.fst d.snd.snd.fst) x).length : Int) - (1 : Int)).toNat).snd.fst = (↑x : Int))) =
  true →
  (0 : Int) ≤ (↑(U.readsTo (U.setR d.fst.snd.fst d.snd.fst d.snd.snd.fst) x).length : Int) - (1 : Int)) ∧
  ((decide ((0 : Int) < (↑(U.readsTo (U.setR d.fst.snd.fst d.snd.fst d.snd.snd.fst) x).length : Int)) &&
  decide
  ((nth (U.readsTo (U.setR d.fst.snd.fst d.snd.fst d.snd.snd.fst) x) ((↑(U.readsTo (U.setR d.fst.snd.fst d.snd.fst d.snd.snd.fst) x).length : Int) - (1 : Int)).toNat).snd.fst =
  (↑x : Int))) =
  true →
  (↑(U.readsTo (U.setR d.fst.snd.fst d.snd.fst d.snd.snd.fst) x).length : Int) - (1 : Int) < (↑(U.readsTo (U.setR d.fst.snd.fst d.snd.fst d.snd.snd.fst) x).length : Int)) ∧
  ((decide ((0 : Int) < (↑(U.readsTo (U.setR d.fst.snd.fst d.snd.fst d.snd.snd.fst) x).length : Int)) &&
  decide
  ((nth (U.readsTo (U.setR d.fst.snd.fst d.snd.fst d.snd.snd.fst) x) ((↑(U.readsTo (U.setR d.fst.snd.fst d.snd.fst d.snd.snd.fst) x).length : Int) - (1 : Int)).toNat).snd.fst =
  (↑x : Int)) &&
  decide
  ((nth (U.readsTo (U.setR d.fst.snd.fst d.snd.fst d.snd.snd.fst) x) ((↑(U.readsTo (U.setR d.fst.snd.fst d.snd.fst d.snd.snd.fst) x).length : Int) - (1 : Int)).toNat).snd.snd.fst =
  nth (U.smallest d.fst.snd.fst (U.at' d.snd.fst d.snd.snd.fst (↑x : Int))) (Int.toNat (0 : Int)))) =
  true →
  In64 ((↑(U.readsTo (U.setR d.fst.snd.fst d.snd.fst d.snd.snd.fst) x).length : Int) - (1 : Int)) ∧
  (0 : Int) ≤ (↑(U.readsTo (U.setR d.fst.snd.fst d.snd.fst d.snd.snd.fst) x).length : Int) - (1 : Int) ∧
  (↑(U.readsTo (U.setR d.fst.snd.fst d.snd.fst d.snd.snd.fst) x).length : Int) - (1 : Int) < (↑(U.readsTo (U.setR d.fst.snd.fst d.snd.fst d.snd.snd.fst) x).length : Int) ∧
  In64 ((↑x : Int) + (1 : Int)) ∧
  In64 ((↑(U.readsTo (U.setR d.fst.snd.fst d.snd.fst d.snd.snd.fst) x).length : Int) - (1 : Int)) ∧
  (0 : Int) ≤ (↑(U.readsTo (U.setR d.fst.snd.fst d.snd.fst d.snd.snd.fst) x).length : Int) - (1 : Int) ∧
  (↑(U.readsTo (U.setR d.fst.snd.fst d.snd.fst d.snd.snd.fst) x).length : Int) - (1 : Int) < (↑(U.readsTo (U.setR d.fst.snd.fst d.snd.fst d.snd.snd.fst) x).length : Int) ∧
  In64 ((↑x : Int) + (1 : Int)) ∧
  ∃ (x' : Nat),
  ((True ∧ (↑x : Int) + (1 : Int) = (↑x' : Int) ∧ True) ∧
  (U.readsTo (U.setR d.fst.snd.fst d.snd.fst d.snd.snd.fst) x).set ((↑(U.readsTo (U.setR d.fst.snd.fst d.snd.fst d.snd.snd.fst) x).length : Int) - (1 : Int)).toNat
  ((nth (U.readsTo (U.setR d.fst.snd.fst d.snd.fst d.snd.snd.fst) x)
  ((↑(U.readsTo (U.setR d.fst.snd.fst d.snd.fst d.snd.snd.fst) x).length : Int) - (1 : Int)).toNat).fst,
  (↑x : Int) + (1 : Int),
  (nth (U.readsTo (U.setR d.fst.snd.fst d.snd.fst d.snd.snd.fst) x)
  ((↑(U.readsTo (U.setR d.fst.snd.fst d.snd.fst d.snd.snd.fst) x).length : Int) - (1 : Int)).toNat).snd.snd.fst,
  ()) =
  U.readsTo (U.setR d.fst.snd.fst d.snd.fst d.snd.snd.fst) x' ∧
  True) ∧
  x' ≤ (nth d.fst.fst d.snd.snd.fst.toNat).toNat ∧ (nth d.fst.fst d.snd.snd.fst.toNat).toNat - x' < (nth d.fst.fst d.snd.snd.fst.toNat).toNat - x) ∧
  ((decide ((0 : Int) < (↑(U.readsTo (U.setR d.fst.snd.fst d.snd.fst d.snd.snd.fst) x).length : Int)) &&
  decide
  ((nth (U.readsTo (U.setR d.fst.snd.fst d.snd.fst d.snd.snd.fst) x) ((↑(U.readsTo (U.setR d.fst.snd.fst d.snd.fst d.snd.snd.fst) x).length : Int) - (1 : Int)).toNat).snd.fst =
  (↑x : Int)) &&
  decide
  ((nth (U.readsTo (U.setR d.fst.snd.fst d.snd.fst d.snd.snd.fst) x) ((↑(U.readsTo (U.setR d.fst.snd.fst d.snd.fst d.snd.snd.fst) x).length : Int) - (1 : Int)).toNat).snd.snd.fst =
  nth (U.smallest d.fst.snd.fst (U.at' d.snd.fst d.snd.snd.fst (↑x : Int))) (Int.toNat (0 : Int)))) =
  false →
  (decide (nth (U.smallest d.fst.snd.fst (U.at' d.snd.fst d.snd.snd.fst (↑x : Int))) (Int.toNat (0 : Int)) ≠ (0 : Int)) = true →
  In64 ((↑x : Int) + (1 : Int)) ∧
  ((U.readsTo (U.setR d.fst.snd.fst d.snd.fst d.snd.snd.fst) x).length +
  [((↑x : Int), (↑x : Int) + (1 : Int), nth (U.smallest d.fst.snd.fst (U.at' d.snd.fst d.snd.snd.fst (↑x : Int))) (Int.toNat (0 : Int)), ())].length) *
  (24 : Nat) ≤
  (140737488355328 : Nat) ∧
  In64 ((↑x : Int) + (1 : Int)) ∧
  ∃ (x' : Nat),
  (((↑x : Int) + (1 : Int) = (↑x' : Int) ∧ True ∧ True) ∧
  U.readsTo (U.setR d.fst.snd.fst d.snd.fst d.snd.snd.fst) x ++
  [((↑x : Int), (↑x : Int) + (1 : Int), nth (U.smallest d.fst.snd.fst (U.at' d.snd.fst d.snd.snd.fst (↑x : Int))) (Int.toNat (0 : Int)), ())] =
  U.readsTo (U.setR d.fst.snd.fst d.snd.fst d.snd.snd.fst) x' ∧
  True) ∧
  x' ≤ (nth d.fst.fst d.snd.snd.fst.toNat).toNat ∧ (nth d.fst.fst d.snd.snd.fst.toNat).toNat - x' < (nth d.fst.fst d.snd.snd.fst.toNat).toNat - x) ∧
  (decide (nth (U.smallest d.fst.snd.fst (U.at' d.snd.fst d.snd.snd.fst (↑x : Int))) (Int.toNat (0 : Int)) ≠ (0 : Int)) = false →
  In64 ((↑x : Int) + (1 : Int)) ∧
  ∃ (x' : Nat),
  ((True ∧ (↑x : Int) + (1 : Int) = (↑x' : Int) ∧ True) ∧
  U.readsTo (U.setR d.fst.snd.fst d.snd.fst d.snd.snd.fst) x = U.readsTo (U.setR d.fst.snd.fst d.snd.fst d.snd.snd.fst) x' ∧ True) ∧
  x' ≤ (nth d.fst.fst d.snd.snd.fst.toNat).toNat ∧ (nth d.fst.fst d.snd.snd.fst.toNat).toNat - x' < (nth d.fst.fst d.snd.snd.fst.toNat).toNat - x)))) ∧
  (decide ((↑x : Int) < nth d.fst.fst d.snd.snd.fst.toNat) = false →
  (U.readsTo (U.setR d.fst.snd.fst d.snd.fst d.snd.snd.fst) x, (0 : Int), ()) = (U.readingsR d.fst d.snd.fst d.snd.snd.fst, U.frameErr d.fst d.snd.fst d.snd.snd.fst (0 : Int), ())))

theorem vc26_eq : fnVC (ctx 86 [(14, sp14), (16, sp16), (51, sp51)] []) (an26) Try.f26 (bodyOf Try.f26) sp26 = vc26 := by kernel_rfl


def sp28 : Spec := ⟨[.val tF, .val (.slice tG), .val .int, .val .int], [.int, .int, .int], false, fun _ => [], fun d => (U.sureR d.1 d.2.1 d.2.2.1 d.2.2.2.1, U.mayR d.1 d.2.1 d.2.2.1 d.2.2.2.1, U.frameErr d.1 d.2.1 d.2.2.1 d.2.2.2.1, ())⟩
def an28 : Ann := fun r => match r with
  | 7 => some fun σ => { X := Nat, sl := fun j => [(13, .dat .int (j : Int)), (8, .dat .int (U.andAll ((gd (.slice .int) σ 12).take j) (gd .int σ 8))), (9, .dat .int (U.orAll ((gd (.slice .int) σ 12).take j) (gd .int σ 9)))], ob := fun _ => [], inv := fun j => j ≤ (gd (.slice .int) σ 12).length, mu := fun j => (gd (.slice .int) σ 12).length - j }
  | _ => none
def vc28 : Prop :=
  ∀ (d : (List Int × Int × Unit) × List (Int × Int × Int × Int × Int × Int × Unit) × Int × Int × Unit),
  (decide (U.frameErr (d.fst.fst, d.fst.snd.fst, ()) d.snd.fst d.snd.snd.fst d.snd.snd.snd.fst ≠ (0 : Int)) = true →
  ((0 : Int), (0 : Int), U.frameErr (d.fst.fst, d.fst.snd.fst, ()) d.snd.fst d.snd.snd.fst d.snd.snd.snd.fst, ()) =
  (U.sureR d.fst d.snd.fst d.snd.snd.fst d.snd.snd.snd.fst, U.mayR d.fst d.snd.fst d.snd.snd.fst d.snd.snd.snd.fst, U.frameErr d.fst d.snd.fst d.snd.snd.fst d.snd.snd.snd.fst, ())) ∧
  (decide (U.frameErr (d.fst.fst, d.fst.snd.fst, ()) d.snd.fst d.snd.snd.fst d.snd.snd.snd.fst ≠ (0 : Int)) = false →
  d.snd.fst.length ≤ (100000 : Nat) ∧
  (∀ (g : Int × Int × Int × Int × Int × Int × Unit), g ∈ d.snd.fst → (0 : Int) < U.to g ∧ U.to g ≤ (1000 : Int)) ∧
  ((1 : Int) ≤ d.fst.snd.fst ∧ d.fst.snd.fst ≤ (10 : Int)) ∧
  (0 : Int) ≤ (0 : Int) ∧
  (0 : Int) < (↑(U.smallest d.fst.snd.fst (U.at' d.snd.fst d.snd.snd.fst d.snd.snd.snd.fst)).length : Int) ∧
  (∃ (x : Nat),
  (((0 : Int) = (↑x : Int) ∧
  nth (U.smallest d.fst.snd.fst (U.at' d.snd.fst d.snd.snd.fst d.snd.snd.snd.fst)) (Int.toNat (0 : Int)) =
  U.andAll (List.take x (U.smallest d.fst.snd.fst (U.at' d.snd.fst d.snd.snd.fst d.snd.snd.snd.fst))) (nth (U.smallest d.fst.snd.fst (U.at' d.snd.fst d.snd.snd.fst d.snd.snd.snd.fst)) (Int.toNat (0 : Int))) ∧
  (0 : Int) = U.orAll (List.take x (U.smallest d.fst.snd.fst (U.at' d.snd.fst d.snd.snd.fst d.snd.snd.snd.fst))) (0 : Int) ∧ True) ∧
  True) ∧
  x ≤ (U.smallest d.fst.snd.fst (U.at' d.snd.fst d.snd.snd.fst d.snd.snd.snd.fst)).length) ∧
  ∀ (x : Nat),
  x ≤ (U.smallest d.fst.snd.fst (U.at' d.snd.fst d.snd.snd.fst d.snd.snd.snd.fst)).length →
  (U.smallest d.fst.snd.fst (U.at' d.snd.fst d.snd.snd.fst d.snd.snd.snd.fst)).length < (4611686018427387904 : Nat) →
  (decide ((↑x : Int) < (↑(U.smallest d.fst.snd.fst (U.at' d.snd.fst d.snd.snd.fst d.snd.snd.snd.fst)).length : Int)) = true →
  (0 : Int) ≤ (↑x : Int) ∧
  (↑x : Int) < (↑(U.smallest d.fst.snd.fst (U.at' d.snd.fst d.snd.snd.fst d.snd.snd.snd.fst)).length : Int) ∧
  (0 : Int) ≤ (↑x : Int) ∧
  (↑x : Int) < (↑(U.smallest d.fst.snd.fst (U.at' d.snd.fst d.snd.snd.fst d.snd.snd.snd.fst)).length : Int) ∧
  In64 ((↑x : Int) + (1 : Int)) ∧
  ∃ (x' : Nat),
  (((↑x : Int) + (1 : Int) = (↑x' : Int) ∧
  bor (U.orAll (List.take x (U.smallest d.fst.snd.fst (U.at' d.snd.fst d.snd.snd.fst d.snd.snd.snd.fst))) (0 : Int))
  (nth (U.smallest d.fst.snd.fst (U.at' d.snd.fst d.snd.snd.fst d.snd.snd.snd.fst)) (↑x : Int).toNat) =
  U.orAll (List.take x' (U.smallest d.fst.snd.fst (U.at' d.snd.fst d.snd.snd.fst d.snd.snd.snd.fst))) (0 : Int) ∧
  band
  (U.andAll (List.take x (U.smallest d.fst.snd.fst (U.at' d.snd.fst d.snd.snd.fst d.snd.snd.snd.fst)))
  (nth (U.smallest d.fst.snd.fst (U.at' d.snd.fst d.snd.snd.fst d.snd.snd.snd.fst)) (Int.toNat (0 : Int))))
  (nth (U.smallest d.fst.snd.fst (U.at' d.snd.fst d.snd.snd.fst d.snd.snd.snd.fst)) (↑x : Int).toNat) =
  U.andAll (List.take x' (U.smallest d.fst.snd.fst (U.at' d.snd.fst d.snd.snd.fst d.snd.snd.snd.fst)))
  (nth (U.smallest d.fst.snd.fst (U.at' d.snd.fst d.snd.snd.fst d.snd.snd.snd.fst)) (Int.toNat (0 : Int))) ∧
  True) ∧
  True) ∧
  x' ≤ (U.smallest d.fst.snd.fst (U.at' d.snd.fst d.snd.snd.fst d.snd.snd.snd.fst)).length ∧
  (U.smallest d.fst.snd.fst (U.at' d.snd.fst d.snd.snd.fst d.snd.snd.snd.fst)).length - x' < (U.smallest d.fst.snd.fst (U.at' d.snd.fst d.snd.snd.fst d.snd.snd.snd.fst)).length - x) ∧
  (decide ((↑x : Int) < (↑(U.smallest d.fst.snd.fst (U.at' d.snd.fst d.snd.snd.fst d.snd.snd.snd.fst)).length : Int)) = false →
  (U.andAll (List.take x (U.smallest d.fst.snd.fst (U.at' d.snd.fst d.snd.snd.fst d.snd.snd.snd.fst))) (nth (U.smallest d.fst.snd.fst (U.at' d.snd.fst d.snd.snd.fst d.snd.snd.snd.fst)) (Int.toNat (0 : Int))),
  U.orAll (List.take x (U.smallest d.fst.snd.fst (U.at' d.snd.fst d.snd.snd.fst d.snd.snd.snd.fst))) (0 : Int), (0 : Int), ()) =
  (U.sureR d.fst d.snd.fst d.snd.snd.fst d.snd.snd.snd.fst, U.mayR d.fst d.snd.fst d.snd.snd.fst d.snd.snd.snd.fst, U.frameErr d.fst d.snd.fst d.snd.snd.fst d.snd.snd.snd.fst, ())))

theorem vc28_eq : fnVC (ctx 51 [(14, sp14), (16, sp16), (51, sp51)] []) (an28) Try.f28 (bodyOf Try.f28) sp28 = vc28 := by kernel_rfl


def sp29 : Spec := ⟨[.val tF, .val (.slice tG), .val .int, .val .int], [.int, .int, .int], false, fun _ => [], fun d => (U.bothR d.1 d.2.1 d.2.2.1 d.2.2.2.1, U.sameR d.1 d.2.1 d.2.2.1 d.2.2.2.1, U.autErr d.1 d.2.1 d.2.2.1 d.2.2.2.1, ())⟩
def an29 : Ann := fun r => match r with
  | 7 => some fun σ => { X := Nat, sl := fun i => [(12, .dat .int (i : Int)), (8, .dat .int (U.sumN (fun φ => U.sumN (U.cntB (gd (.slice tG) σ 1) (gd .int σ 2) (gd .int σ 3) φ) (nth (gd tF σ 0).1 φ).toNat) i)), (9, .dat .int (U.sumN (fun φ => U.sumN (U.cntS (gd (.slice tG) σ 1) (gd .int σ 2) (gd .int σ 3) φ) (nth (gd tF σ 0).1 φ).toNat) i))], ob := fun _ => [], inv := fun i => i ≤ (gd tF σ 0).1.length, mu := fun i => (gd tF σ 0).1.length - i }
  | 10 => some fun σ => { X := Nat, sl := fun k => [(13, .dat .int (k : Int)), (8, .dat .int (gd .int σ 8 + U.sumN (U.cntB (gd (.slice tG) σ 1) (gd .int σ 2) (gd .int σ 3) (gd .int σ 12).toNat) k)), (9, .dat .int (gd .int σ 9 + U.sumN (U.cntS (gd (.slice tG) σ 1) (gd .int σ 2) (gd .int σ 3) (gd .int σ 12).toNat) k))], ob := fun _ => [], inv := fun k => k ≤ (nth (gd tF σ 0).1 (gd .int σ 12).toNat).toNat, mu := fun k => (nth (gd tF σ 0).1 (gd .int σ 12).toNat).toNat - k }
  | _ => none
def vc29 : Prop :=
  ∀ (d : (List Int × Int × Unit) × List (Int × Int × Int × Int × Int × Int × Unit) × Int × Int × Unit),
  (decide (U.check (d.fst.fst, d.fst.snd.fst, ()) d.snd.fst ≠ (0 : Int)) = true →
  ((0 : Int), (0 : Int), U.check (d.fst.fst, d.fst.snd.fst, ()) d.snd.fst, ()) =
  (U.bothR d.fst d.snd.fst d.snd.snd.fst d.snd.snd.snd.fst, U.sameR d.fst d.snd.fst d.snd.snd.fst d.snd.snd.snd.fst, U.autErr d.fst d.snd.fst d.snd.snd.fst d.snd.snd.snd.fst, ())) ∧
  (decide (U.check (d.fst.fst, d.fst.snd.fst, ()) d.snd.fst ≠ (0 : Int)) = false →
  ((!U.areAuthors d.snd.snd.fst d.snd.snd.snd.fst) = true →
  ((0 : Int), (0 : Int), (1 : Int), ()) = (U.bothR d.fst d.snd.fst d.snd.snd.fst d.snd.snd.snd.fst, U.sameR d.fst d.snd.fst d.snd.snd.fst d.snd.snd.snd.fst, U.autErr d.fst d.snd.fst d.snd.snd.fst d.snd.snd.snd.fst, ())) ∧
  ((!U.areAuthors d.snd.snd.fst d.snd.snd.snd.fst) = false →
  (∃ (x : Nat),
  (((0 : Int) = (↑x : Int) ∧
  (0 : Int) = U.sumN (fun (φ : Nat) => U.sumN (U.cntB d.snd.fst d.snd.snd.fst d.snd.snd.snd.fst φ) (nth d.fst.fst φ).toNat) x ∧
  (0 : Int) = U.sumN (fun (φ : Nat) => U.sumN (U.cntS d.snd.fst d.snd.snd.fst d.snd.snd.snd.fst φ) (nth d.fst.fst φ).toNat) x ∧ True) ∧
  True) ∧
  x ≤ d.fst.fst.length) ∧
  ∀ (x : Nat),
  x ≤ d.fst.fst.length →
  d.fst.fst.length < (4611686018427387904 : Nat) →
  (decide ((↑x : Int) < (↑d.fst.fst.length : Int)) = true →
  (∃ (x_4 : Nat),
  (((0 : Int) = (↑x_4 : Int) ∧
  U.sumN (fun (φ : Nat) => U.sumN (U.cntB d.snd.fst d.snd.snd.fst d.snd.snd.snd.fst φ) (nth d.fst.fst φ).toNat) x =
  U.sumN (fun (φ : Nat) => U.sumN (U.cntB d.snd.fst d.snd.snd.fst d.snd.snd.snd.fst φ) (nth d.fst.fst φ).toNat) x + U.sumN (U.cntB d.snd.fst d.snd.snd.fst d.snd.snd.snd.fst (↑x : Int).toNat) x_4 ∧
  U.sumN (fun (φ : Nat) => U.sumN (U.cntS d.snd.fst d.snd.snd.fst d.snd.snd.snd.fst φ) (nth d.fst.fst φ).toNat) x =
  U.sumN (fun (φ : Nat) => U.sumN (U.cntS d.snd.fst d.snd.snd.fst d.snd.snd.snd.fst φ) (nth d.fst.fst φ).toNat) x + U.sumN (U.cntS d.snd.fst d.snd.snd.fst d.snd.snd.snd.fst (↑x : Int).toNat) x_4 ∧
  True) ∧
  True) ∧
  x_4 ≤ (nth d.fst.fst (↑x : Int).toNat).toNat) ∧
  ∀ (x_4 : Nat),
  x_4 ≤ (nth d.fst.fst (↑x : Int).toNat).toNat →
  (0 : Int) ≤ (↑x : Int) ∧
  (↑x : Int) < (↑d.fst.fst.length : Int) ∧
  (decide ((↑x_4 : Int) < nth d.fst.fst (↑x : Int).toNat) = true →
  d.snd.fst.length ≤ (100000 : Nat) ∧
  (∀ (g : Int × Int × Int × Int × Int × Int × Unit), g ∈ d.snd.fst → (0 : Int) < U.to g ∧ U.to g ≤ (1000 : Int)) ∧
  ((decide (U.by' (U.at' d.snd.fst (↑x : Int) (↑x_4 : Int)) d.snd.snd.fst ≠ (0 : Int)) && decide (U.by' (U.at' d.snd.fst (↑x : Int) (↑x_4 : Int)) d.snd.snd.snd.fst ≠ (0 : Int))) = true →
  In64
  (U.sumN (fun (φ : Nat) => U.sumN (U.cntB d.snd.fst d.snd.snd.fst d.snd.snd.snd.fst φ) (nth d.fst.fst φ).toNat) x +
  U.sumN (U.cntB d.snd.fst d.snd.snd.fst d.snd.snd.snd.fst (↑x : Int).toNat) x_4 +
  (1 : Int)) ∧
  (decide (band (U.by' (U.at' d.snd.fst (↑x : Int) (↑x_4 : Int)) d.snd.snd.fst) (U.by' (U.at' d.snd.fst (↑x : Int) (↑x_4 : Int)) d.snd.snd.snd.fst) ≠ (0 : Int)) = true →
  In64
  (U.sumN (fun (φ : Nat) => U.sumN (U.cntS d.snd.fst d.snd.snd.fst d.snd.snd.snd.fst φ) (nth d.fst.fst φ).toNat) x +
  U.sumN (U.cntS d.snd.fst d.snd.snd.fst d.snd.snd.snd.fst (↑x : Int).toNat) x_4 +
  (1 : Int)) ∧
  In64 ((↑x_4 : Int) + (1 : Int)) ∧
  ∃ (x' : Nat),
  (((↑x_4 : Int) + (1 : Int) = (↑x' : Int) ∧
  U.sumN (fun (φ : Nat) => U.sumN (U.cntS d.snd.fst d.snd.snd.fst d.snd.snd.snd.fst φ) (nth d.fst.fst φ).toNat) x +
  U.sumN (U.cntS d.snd.fst d.snd.snd.fst d.snd.snd.snd.fst (↑x : Int).toNat) x_4 +
  (1 : Int) =
  U.sumN (fun (φ : Nat) => U.sumN (U.cntS d.snd.fst d.snd.snd.fst d.snd.snd.snd.fst φ) (nth d.fst.fst φ).toNat) x +
  U.sumN (U.cntS d.snd.fst d.snd.snd.fst d.snd.snd.snd.fst (↑x : Int).toNat) x' ∧
  U.sumN (fun (φ : Nat) => U.sumN (U.cntB d.snd.fst d.snd.snd.fst d.snd.snd.snd.fst φ) (nth d.fst.fst φ).toNat) x +
  U.sumN (U.cntB d.snd.fst d.snd.snd.fst d.snd.snd.snd.fst (↑x : Int).toNat) x_4 +
  (1 : Int) =
  U.sumN (fun (φ : Nat) => U.sumN (U.cntB d.snd.fst d.snd.snd.fst d.snd.snd.snd.fst φ) (nth d.fst.fst φ).toNat) x +
  U.sumN (U.cntB d.snd.fst d.snd.snd.fst d.snd.snd.snd.fst (↑x : Int).toNat) x' ∧
  True) ∧
  True) ∧
  x' ≤ (nth d.fst.fst (↑x : Int).toNat).toNat ∧ (nth d.fst.fst (↑x : Int).toNat).toNat - x' < (nth d.fst.fst (↑x : Int).toNat).toNat - x_4) ∧
  (decide (band (U.by' (U.at' d.snd.fst (↑x : Int) (↑x_4 : Int)) d.snd.snd.fst) (U.by' (U.at' d.snd.fst (↑x : Int) (↑x_4 : Int)) d.snd.snd.snd.fst) ≠ (0 : Int)) = false →
  In64 ((↑x_4 : Int) + (1 : Int)) ∧
  ∃ (x' : Nat),
  ((U.sumN (fun (φ : Nat) => U.sumN (U.cntS d.snd.fst d.snd.snd.fst d.snd.snd.snd.fst φ) (nth d.fst.fst φ).toNat) x +
  U.sumN (U.cntS d.snd.fst d.snd.snd.fst d.snd.snd.snd.fst (↑x : Int).toNat) x_4 =
  U.sumN (fun (φ : Nat) => U.sumN (U.cntS d.snd.fst d.snd.snd.fst d.snd.snd.snd.fst φ) (nth d.fst.fst φ).toNat) x +
  U.sumN (U.cntS d.snd.fst d.snd.snd.fst d.snd.snd.snd.fst (↑x : Int).toNat) x' ∧
  (↑x_4 : Int) + (1 : Int) = (↑x' : Int) ∧
  U.sumN (fun (φ : Nat) => U.sumN (U.cntB d.snd.fst d.snd.snd.fst d.snd.snd.snd.fst φ) (nth d.fst.fst φ).toNat) x +
  U.sumN (U.cntB d.snd.fst d.snd.snd.fst d.snd.snd.snd.fst (↑x : Int).toNat) x_4 +
  (1 : Int) =
  U.sumN (fun (φ : Nat) => U.sumN (U.cntB d.snd.fst d.snd.snd.fst d.snd.snd.snd.fst φ) (nth d.fst.fst φ).toNat) x +
  U.sumN (U.cntB d.snd.fst d.snd.snd.fst d.snd.snd.snd.fst (↑x : Int).toNat) x' ∧
  True) ∧
  True) ∧
  x' ≤ (nth d.fst.fst (↑x : Int).toNat).toNat ∧ (nth d.fst.fst (↑x : Int).toNat).toNat - x' < (nth d.fst.fst (↑x : Int).toNat).toNat - x_4)) ∧
  ((decide (U.by' (U.at' d.snd.fst (↑x : Int) (↑x_4 : Int)) d.snd.snd.fst ≠ (0 : Int)) && decide (U.by' (U.at' d.snd.fst (↑x : Int) (↑x_4 : Int)) d.snd.snd.snd.fst ≠ (0 : Int))) = false →
  (decide (band (U.by' (U.at' d.snd.fst (↑x : Int) (↑x_4 : Int)) d.snd.snd.fst) (U.by' (U.at' d.snd.fst (↑x : Int) (↑x_4 : Int)) d.snd.snd.snd.fst) ≠ (0 : Int)) = true →
  In64
  (U.sumN (fun (φ : Nat) => U.sumN (U.cntS d.snd.fst d.snd.snd.fst d.snd.snd.snd.fst φ) (nth d.fst.fst φ).toNat) x +
  U.sumN (U.cntS d.snd.fst d.snd.snd.fst d.snd.snd.snd.fst (↑x : Int).toNat) x_4 +
  (1 : Int)) ∧
  In64 ((↑x_4 : Int) + (1 : Int)) ∧
  ∃ (x' : Nat),
  ((U.sumN (fun (φ : Nat) => U.sumN (U.cntB d.snd.fst d.snd.snd.fst d.snd.snd.snd.fst φ) (nth d.fst.fst φ).toNat) x +
  U.sumN (U.cntB d.snd.fst d.snd.snd.fst d.snd.snd.snd.fst (↑x : Int).toNat) x_4 =
  U.sumN (fun (φ : Nat) => U.sumN (U.cntB d.snd.fst d.snd.snd.fst d.snd.snd.snd.fst φ) (nth d.fst.fst φ).toNat) x +
  U.sumN (U.cntB d.snd.fst d.snd.snd.fst d.snd.snd.snd.fst (↑x : Int).toNat) x' ∧
  (↑x_4 : Int) + (1 : Int) = (↑x' : Int) ∧
  U.sumN (fun (φ : Nat) => U.sumN (U.cntS d.snd.fst d.snd.snd.fst d.snd.snd.snd.fst φ) (nth d.fst.fst φ).toNat) x +
  U.sumN (U.cntS d.snd.fst d.snd.snd.fst d.snd.snd.snd.fst (↑x : Int).toNat) x_4 +
  (1 : Int) =
  U.sumN (fun (φ : Nat) => U.sumN (U.cntS d.snd.fst d.snd.snd.fst d.snd.snd.snd.fst φ) (nth d.fst.fst φ).toNat) x +
  U.sumN (U.cntS d.snd.fst d.snd.snd.fst d.snd.snd.snd.fst (↑x : Int).toNat) x' ∧
  True) ∧
  True) ∧
  x' ≤ (nth d.fst.fst (↑x : Int).toNat).toNat ∧ (nth d.fst.fst (↑x : Int).toNat).toNat - x' < (nth d.fst.fst (↑x : Int).toNat).toNat - x_4) ∧
  (decide (band (U.by' (U.at' d.snd.fst (↑x : Int) (↑x_4 : Int)) d.snd.snd.fst) (U.by' (U.at' d.snd.fst (↑x : Int) (↑x_4 : Int)) d.snd.snd.snd.fst) ≠ (0 : Int)) = false →
  In64 ((↑x_4 : Int) + (1 : Int)) ∧
  ∃ (x' : Nat),
  ((U.sumN (fun (φ : Nat) => U.sumN (U.cntS d.snd.fst d.snd.snd.fst d.snd.snd.snd.fst φ) (nth d.fst.fst φ).toNat) x +
  U.sumN (U.cntS d.snd.fst d.snd.snd.fst d.snd.snd.snd.fst (↑x : Int).toNat) x_4 =
  U.sumN (fun (φ : Nat) => U.sumN (U.cntS d.snd.fst d.snd.snd.fst d.snd.snd.snd.fst φ) (nth d.fst.fst φ).toNat) x +
  U.sumN (U.cntS d.snd.fst d.snd.snd.fst d.snd.snd.snd.fst (↑x : Int).toNat) x' ∧
  U.sumN (fun (φ : Nat) => U.sumN (U.cntB d.snd.fst d.snd.snd.fst d.snd.snd.snd.fst φ) (nth d.fst.fst φ).toNat) x +
  U.sumN (U.cntB d.snd.fst d.snd.snd.fst d.snd.snd.snd.fst (↑x : Int).toNat) x_4 =
  U.sumN (fun (φ : Nat) => U.sumN (U.cntB d.snd.fst d.snd.snd.fst d.snd.snd.snd.fst φ) (nth d.fst.fst φ).toNat) x +
  U.sumN (U.cntB d.snd.fst d.snd.snd.fst d.snd.snd.snd.fst (↑x : Int).toNat) x' ∧
  (↑x_4 : Int) + (1 : Int) = (↑x' : Int) ∧ True) ∧
  True) ∧
  x' ≤ (nth d.fst.fst (↑x : Int).toNat).toNat ∧ (nth d.fst.fst (↑x : Int).toNat).toNat - x' < (nth d.fst.fst (↑x : Int).toNat).toNat - x_4))) ∧
  (decide ((↑x_4 : Int) < nth d.fst.fst (↑x : Int).toNat) = false →
  In64 ((↑x : Int) + (1 : Int)) ∧
  ∃ (x' : Nat),
  (((↑x : Int) + (1 : Int) = (↑x' : Int) ∧
  U.sumN (fun (φ : Nat) => U.sumN (U.cntB d.snd.fst d.snd.snd.fst d.snd.snd.snd.fst φ) (nth d.fst.fst φ).toNat) x + U.sumN (U.cntB d.snd.fst d.snd.snd.fst d.snd.snd.snd.fst (↑x : Int).toNat) x_4 =
  U.sumN (fun (φ : Nat) => U.sumN (U.cntB d.snd.fst d.snd.snd.fst d.snd.snd.snd.fst φ) (nth d.fst.fst φ).toNat) x' ∧
  U.sumN (fun (φ : Nat) => U.sumN (U.cntS d.snd.fst d.snd.snd.fst d.snd.snd.snd.fst φ) (nth d.fst.fst φ).toNat) x +
  U.sumN (U.cntS d.snd.fst d.snd.snd.fst d.snd.snd.snd.fst (↑x : Int).toNat) x_4 =
  U.sumN (fun (φ : Nat) => U.sumN (U.cntS d.snd.fst d.snd.snd.fst d.snd.snd.snd.fst φ) (nth d.fst.fst φ).toNat) x' ∧
  True) ∧
  True) ∧
  x' ≤ d.fst.fst.length ∧ d.fst.fst.length - x' < d.fst.fst.length - x)) ∧
  (decide ((↑x : Int) < (↑d.fst.fst.length : Int)) = false →
  (U.sumN (fun (φ : Nat) => U.sumN (U.cntB d.snd.fst d.snd.snd.fst d.snd.snd.snd.fst φ) (nth d.fst.fst φ).toNat) x,
  U.sumN (fun (φ : Nat) => U.sumN (U.cntS d.snd.fst d.snd.snd.fst d.snd.snd.snd.fst φ) (nth d.fst.fst φ).toNat) x, (0 : Int), ()) =
  (U.bothR d.fst d.snd.fst d.snd.snd.fst d.snd.snd.snd.fst, U.sameR d.fst d.snd.fst d.snd.snd.fst d.snd.snd.snd.fst, U.autErr d.fst d.snd.fst d.snd.snd.fst d.snd.snd.snd.fst, ()))))

theorem vc29_eq : fnVC (ctx 69 [(38, sp38), (20, sp20), (16, sp16), (52, sp52)] []) (an29) Try.f29 (bodyOf Try.f29) sp29 = vc29 := by kernel_rfl


def sp7 : Spec := lawSpec [tF, .slice tG, tSpot]
def vc7 : Prop :=
  ∀ (d : (List Int × Int × Unit) × List (Int × Int × Int × Int × Int × Int × Unit) × (Int × Int × Int × Int × Int × Unit) × Unit),
  fitsAll (1048576 : Nat)
  [Ty.int.slice.pair (Ty.int.pair Ty.unit), (Ty.int.pair (Ty.int.pair (Ty.int.pair (Ty.int.pair (Ty.int.pair (Ty.int.pair Ty.unit)))))).slice, Ty.int.pair (Ty.int.pair (Ty.int.pair (Ty.int.pair (Ty.int.pair Ty.unit))))] d →
  (U.far (d.fst.fst, d.fst.snd.fst, ()) d.snd.fst = true → (true, ()) = (true, ())) ∧
  (U.far (d.fst.fst, d.fst.snd.fst, ()) d.snd.fst = false →
  d.fst.fst.length ≤ (2000000 : Nat) ∧
  d.snd.fst.length ≤ (2000000 : Nat) ∧
  (U.check (d.fst.fst, d.fst.snd.fst, ()) d.snd.fst = (0 : Int) → d.snd.fst.length ≤ (12 : Nat)) ∧
  (U.readings (d.fst.fst, d.fst.snd.fst, ()) d.snd.fst d.snd.snd.fst.fst).length ≤ (100000 : Nat) ∧
  ((!decide (U.readings (d.fst.fst, d.fst.snd.fst, ()) d.snd.fst d.snd.snd.fst.fst = U.readingsR (d.fst.fst, d.fst.snd.fst, ()) d.snd.fst d.snd.snd.fst.fst) ||
  decide (U.filmErr (d.fst.fst, d.fst.snd.fst, ()) d.snd.fst d.snd.snd.fst.fst ≠ U.frameErr (d.fst.fst, d.fst.snd.fst, ()) d.snd.fst d.snd.snd.fst.fst (0 : Int))) =
  true →
  (false, ()) = (true, ())) ∧
  ((!decide (U.readings (d.fst.fst, d.fst.snd.fst, ()) d.snd.fst d.snd.snd.fst.fst = U.readingsR (d.fst.fst, d.fst.snd.fst, ()) d.snd.fst d.snd.snd.fst.fst) ||
  decide (U.filmErr (d.fst.fst, d.fst.snd.fst, ()) d.snd.fst d.snd.snd.fst.fst ≠ U.frameErr (d.fst.fst, d.fst.snd.fst, ()) d.snd.fst d.snd.snd.fst.fst (0 : Int))) =
  false →
  (U.check (d.fst.fst, d.fst.snd.fst, ()) d.snd.fst = (0 : Int) → d.snd.fst.length ≤ (12 : Nat)) ∧
  ((decide (U.sureG (d.fst.fst, d.fst.snd.fst, ()) d.snd.fst d.snd.snd.fst.fst d.snd.snd.fst.snd.fst ≠ U.sureR (d.fst.fst, d.fst.snd.fst, ()) d.snd.fst d.snd.snd.fst.fst d.snd.snd.fst.snd.fst) ||
  decide (U.mayG (d.fst.fst, d.fst.snd.fst, ()) d.snd.fst d.snd.snd.fst.fst d.snd.snd.fst.snd.fst ≠ U.mayR (d.fst.fst, d.fst.snd.fst, ()) d.snd.fst d.snd.snd.fst.fst d.snd.snd.fst.snd.fst) ||
  decide (U.frmErr (d.fst.fst, d.fst.snd.fst, ()) d.snd.fst d.snd.snd.fst.fst d.snd.snd.fst.snd.fst ≠ U.frameErr (d.fst.fst, d.fst.snd.fst, ()) d.snd.fst d.snd.snd.fst.fst d.snd.snd.fst.snd.fst)) =
  true →
  (false, ()) = (true, ())) ∧
  ((decide (U.sureG (d.fst.fst, d.fst.snd.fst, ()) d.snd.fst d.snd.snd.fst.fst d.snd.snd.fst.snd.fst ≠ U.sureR (d.fst.fst, d.fst.snd.fst, ()) d.snd.fst d.snd.snd.fst.fst d.snd.snd.fst.snd.fst) ||
  decide (U.mayG (d.fst.fst, d.fst.snd.fst, ()) d.snd.fst d.snd.snd.fst.fst d.snd.snd.fst.snd.fst ≠ U.mayR (d.fst.fst, d.fst.snd.fst, ()) d.snd.fst d.snd.snd.fst.fst d.snd.snd.fst.snd.fst) ||
  decide (U.frmErr (d.fst.fst, d.fst.snd.fst, ()) d.snd.fst d.snd.snd.fst.fst d.snd.snd.fst.snd.fst ≠ U.frameErr (d.fst.fst, d.fst.snd.fst, ()) d.snd.fst d.snd.snd.fst.fst d.snd.snd.fst.snd.fst)) =
  false →
  (U.check (d.fst.fst, d.fst.snd.fst, ()) d.snd.fst = (0 : Int) → d.snd.fst.length ≤ (12 : Nat)) ∧
  (decide
  ((if U.authErr (d.fst.fst, d.fst.snd.fst, ()) d.snd.fst d.snd.snd.fst.snd.snd.fst d.snd.snd.fst.snd.snd.snd.fst = (0 : Int) then
  U.both (U.heldG d.snd.fst) d.snd.snd.fst.snd.snd.fst d.snd.snd.fst.snd.snd.snd.fst
  else (0 : Int)) =
  U.bothR (d.fst.fst, d.fst.snd.fst, ()) d.snd.fst d.snd.snd.fst.snd.snd.fst d.snd.snd.fst.snd.snd.snd.fst) &&
  decide
  ((if U.authErr (d.fst.fst, d.fst.snd.fst, ()) d.snd.fst d.snd.snd.fst.snd.snd.fst d.snd.snd.fst.snd.snd.snd.fst = (0 : Int) then
  U.same (U.heldG d.snd.fst) d.snd.snd.fst.snd.snd.fst d.snd.snd.fst.snd.snd.snd.fst
  else (0 : Int)) =
  U.sameR (d.fst.fst, d.fst.snd.fst, ()) d.snd.fst d.snd.snd.fst.snd.snd.fst d.snd.snd.fst.snd.snd.snd.fst) &&
  decide
  (U.authErr (d.fst.fst, d.fst.snd.fst, ()) d.snd.fst d.snd.snd.fst.snd.snd.fst d.snd.snd.fst.snd.snd.snd.fst =
  U.autErr (d.fst.fst, d.fst.snd.fst, ()) d.snd.fst d.snd.snd.fst.snd.snd.fst d.snd.snd.fst.snd.snd.snd.fst) &&
  true,
  ()) =
  (true, ()))))

theorem vc7_eq : fnVC (ctx 131 [(24, sp24), (15, sp15), (25, sp25), (17, sp17), (26, sp26), (27, sp27), (22, sp22), (28, sp28), (21, sp21), (29, sp29)] [(12, so12)]) (fun _ => none) Try.f7 (bodyOf Try.f7) sp7 = vc7 := by kernel_rfl


end Go.X
/-
  Two authors: frames counted, in either order, by pairs or by frames.
-/
namespace Go.X
open Go.Proofs
namespace M

/-! ### Sums -/

theorem sumN_succ (f : Nat → Int) (n : Nat) : U.sumN f (n + 1) = U.sumN f n + f n := by
  simp [U.sumN, List.range_succ]
theorem sumN_zero (f : Nat → Int) : U.sumN f 0 = 0 := rfl

theorem sumN_congr {f g : Nat → Int} : ∀ {n : Nat}, (∀ k, k < n → f k = g k) → U.sumN f n = U.sumN g n
  | 0, _ => rfl
  | n + 1, h => by rw [sumN_succ, sumN_succ, sumN_congr (fun k hk => h k (by omega)), h n (by omega)]

theorem sumN_add (f g : Nat → Int) : ∀ n, U.sumN (fun k => f k + g k) n = U.sumN f n + U.sumN g n
  | 0 => rfl
  | n + 1 => by rw [sumN_succ, sumN_succ, sumN_succ, sumN_add f g n]; omega

theorem sumN_const (n : Nat) : U.sumN (fun _ => 0) n = 0 := by
  induction n with
  | zero => rfl
  | succ n ih => rw [sumN_succ, ih]; rfl

theorem sumN_le {f g : Nat → Int} : ∀ {n : Nat}, (∀ k, k < n → f k ≤ g k) → U.sumN f n ≤ U.sumN g n
  | 0, _ => Int.le_refl _
  | n + 1, h => by
    rw [sumN_succ, sumN_succ]
    have := sumN_le (n := n) (fun k hk => h k (by omega))
    have := h n (by omega)
    omega

theorem sumN_one (n : Nat) : U.sumN (fun _ => 1) n = n := by
  induction n with
  | zero => rfl
  | succ n ih => rw [sumN_succ, ih]; rfl

/-- an interval's length -/
theorem sumN_iv {a b : Int} (h0 : 0 ≤ a) (hab : a ≤ b) : ∀ (n : Nat), U.sumN (fun k => if a ≤ (k : Int) ∧ (k : Int) < b then 1 else 0) n = if (n : Int) ≤ a then 0 else if (n : Int) ≤ b then (n : Int) - a else b - a
  | 0 => by rw [if_pos (by omega)]; rfl
  | n + 1 => by
    rw [sumN_succ, sumN_iv h0 hab n]
    split <;> split <;> (try split) <;> (try split) <;> omega

/-- only one place counts -/
theorem sumN_at {x : Int} {c : Nat} : ∀ (n : Nat), U.sumN (fun k => if k = c then x else 0) n = if c < n then x else 0
  | 0 => by rw [if_neg (by omega)]; rfl
  | n + 1 => by
    rw [sumN_succ, sumN_at n]
    by_cases h : n = c
    · subst h; rw [if_neg (by omega), if_pos rfl, if_pos (by omega)]; omega
    · rw [if_neg h]
      by_cases h2 : c < n
      · rw [if_pos h2, if_pos (by omega)]; omega
      · rw [if_neg h2, if_neg (by omega)]; rfl

theorem sumTo_cons (f : GD → Int) (g : GD) (l : List GD) : U.sumTo f (g :: l) = f g + U.sumTo f l := by
  have : ∀ (l : List GD) (a b : Int), l.foldl (fun s g => s + f g) (a + b) = a + l.foldl (fun s g => s + f g) b := by
    intro l
    induction l with
    | nil => intro a b; rfl
    | cons x l ih => intro a b; simp only [List.foldl_cons, Int.add_assoc]; exact ih a (b + f x)
  unfold U.sumTo
  simp only [List.foldl_cons]
  rw [Int.zero_add]
  have h := this l (f g) 0
  rw [Int.add_zero] at h
  exact h
theorem sumTo_nil (f : GD → Int) : U.sumTo f [] = 0 := rfl

theorem sumTo_congr {f h : GD → Int} : ∀ {l : List GD}, (∀ g ∈ l, f g = h g) → U.sumTo f l = U.sumTo h l
  | [], _ => rfl
  | g :: l, e => by rw [sumTo_cons, sumTo_cons, e g (by simp), sumTo_congr (fun x hx => e x (by simp [hx]))]

theorem sumTo_zero : ∀ (l : List GD), U.sumTo (fun _ => 0) l = 0
  | [] => rfl
  | g :: l => by rw [sumTo_cons, sumTo_zero l]; rfl

theorem sumTo_add (f h : GD → Int) : ∀ (l : List GD), U.sumTo (fun g => f g + h g) l = U.sumTo f l + U.sumTo h l
  | [] => rfl
  | g :: l => by rw [sumTo_cons, sumTo_cons, sumTo_cons, sumTo_add f h l]; omega

theorem sumTo_mul (c : Int) (f : GD → Int) : ∀ (l : List GD), U.sumTo (fun g => c * f g) l = c * U.sumTo f l
  | [] => by rw [sumTo_nil, sumTo_nil, Int.mul_zero]
  | g :: l => by rw [sumTo_cons, sumTo_cons, sumTo_mul c f l, Int.mul_add]

theorem sumTo_mulR (c : Int) (f : GD → Int) (l : List GD) : U.sumTo (fun g => f g * c) l = U.sumTo f l * c := by
  rw [Int.mul_comm, ← sumTo_mul]
  exact sumTo_congr fun g _ => Int.mul_comm _ _

/-- sums change places -/
theorem sumTo_sumN (f : GD → Nat → Int) (n : Nat) : ∀ (l : List GD), U.sumTo (fun g => U.sumN (f g) n) l = U.sumN (fun k => U.sumTo (fun g => f g k) l) n
  | [] => by
    rw [sumTo_nil]
    exact (sumN_const n).symm
  | g :: l => by
    rw [sumTo_cons, sumTo_sumN f n l, ← sumN_add]
    exact sumN_congr fun k _ => (sumTo_cons (fun g => f g k) g l).symm

theorem sumTo_swap (f : GD → GD → Int) (m : List GD) : ∀ (l : List GD), U.sumTo (fun g => U.sumTo (f g) m) l = U.sumTo (fun o => U.sumTo (fun g => f g o) l) m
  | [] => by
    rw [sumTo_nil]
    exact (sumTo_zero m).symm
  | g :: l => by
    rw [sumTo_cons, sumTo_swap f m l, ← sumTo_add]
    exact sumTo_congr fun o _ => (sumTo_cons (fun g => f g o) g l).symm

theorem sumTo_le_of {f h : GD → Int} : ∀ {l : List GD}, (∀ g ∈ l, f g ≤ h g) → U.sumTo f l ≤ U.sumTo h l
  | [], _ => Int.le_refl _
  | g :: l, e => by
    rw [sumTo_cons, sumTo_cons]
    have := e g (by simp)
    have := sumTo_le_of (l := l) (fun x hx => e x (by simp [hx]))
    omega

/-- a gloss of this author that contains this frame -/
def mine (a : Int) (φ k : Nat) (g : GD) : Bool := decide (U.au g = a) && U.inFrame φ k g

theorem mine_iff {a : Int} {φ k : Nat} {g : GD} : mine a φ k g = true ↔ U.au g = a ∧ U.fi g = φ ∧ U.fr g ≤ k ∧ (k : Int) < U.to g := by
  unfold mine
  rw [Bool.and_eq_true, decide_eq_true_eq, inFrame_iff]

def term (w : GD → GD → Int) (a b : Int) (g o : GD) (φ k : Nat) : Int := if mine a φ k g = true then (if mine b φ k o = true then w g o else 0) else 0

def frN (f : FD) (φ : Nat) : Nat := (nth f.1 φ).toNat

/-- what a gloss of valid messages is like -/
structure Gl (f : FD) (g : GD) : Prop where
  fi : 0 ≤ U.fi g ∧ U.fi g < f.1.length
  fr : 0 ≤ U.fr g
  lt : U.fr g < U.to g
  to : U.to g ≤ nth f.1 (U.fi g).toNat

theorem Ok.gls {f : FD} {l : List GD} (h : Ok f l) : ∀ g ∈ U.heldG l, Gl f g := fun g hg => by
  obtain ⟨_, _, _, _, a5, a6, a7, a8, a9, _⟩ := h.gl g (mem_heldG hg).1
  exact ⟨⟨a5, a6⟩, a7, a8, a9⟩

theorem pair_frames {f : FD} {a b : Int} {g o : GD} (w : GD → GD → Int) (hg : Gl f g) (ho : Gl f o) : w g o * U.pairN a b g o = U.sumN (fun φ => U.sumN (term w a b g o φ) (frN f φ)) f.1.length := by
  have h1 := hg.fi
  have h2 := hg.fr
  have h3 := hg.lt
  have h4 := hg.to
  have h5 := ho.fi
  have h6 := ho.fr
  have h7 := ho.lt
  have h8 := ho.to
  by_cases h : U.au g = a ∧ U.au o = b ∧ U.fi g = U.fi o ∧ max (U.fr g) (U.fr o) < min (U.to g) (U.to o)
  · obtain ⟨e1, e2, e3, e4⟩ := h
    have hp : U.pairN a b g o = min (U.to g) (U.to o) - max (U.fr g) (U.fr o) := by
      unfold U.pairN
      rw [if_pos ⟨e1, e2, by unfold U.common; exact decide_eq_true ⟨e3, e4⟩⟩]
    have hin : ∀ φ, φ < f.1.length → U.sumN (term w a b g o φ) (frN f φ) = if φ = (U.fi g).toNat then w g o * U.pairN a b g o else 0 := by
      intro φ _
      by_cases hφ : φ = (U.fi g).toNat
      · rw [if_pos hφ]
        have hφ' : (φ : Int) = U.fi g := by omega
        have ht : ∀ k, k < frN f φ → term w a b g o φ k = (if max (U.fr g) (U.fr o) ≤ (k : Int) ∧ (k : Int) < min (U.to g) (U.to o) then w g o else 0) := by
          intro k _
          unfold term
          by_cases c : max (U.fr g) (U.fr o) ≤ (k : Int) ∧ (k : Int) < min (U.to g) (U.to o)
          · rw [if_pos c, if_pos (mine_iff.2 ⟨e1, by omega, by omega, by omega⟩), if_pos (mine_iff.2 ⟨e2, by omega, by omega, by omega⟩)]
          · rw [if_neg c]
            split
            · rename_i c1
              obtain ⟨_, _, c2, c3⟩ := mine_iff.1 c1
              rw [if_neg]
              intro c4
              obtain ⟨_, _, c5, c6⟩ := mine_iff.1 c4
              exact c (by omega)
            · rfl
        rw [sumN_congr ht]
        have hiv := sumN_iv (a := max (U.fr g) (U.fr o)) (b := min (U.to g) (U.to o)) (by omega) (by omega) (frN f φ)
        have hscale : ∀ n, U.sumN (fun k => if max (U.fr g) (U.fr o) ≤ (k : Int) ∧ (k : Int) < min (U.to g) (U.to o) then w g o else 0) n = w g o * U.sumN (fun k => if max (U.fr g) (U.fr o) ≤ (k : Int) ∧ (k : Int) < min (U.to g) (U.to o) then 1 else 0) n := by
          intro n
          induction n with
          | zero => rw [sumN_zero, sumN_zero, Int.mul_zero]
          | succ n ih =>
            rw [sumN_succ, sumN_succ, ih, Int.mul_add]
            split
            · rw [Int.mul_one]
            · rw [Int.mul_zero]
        rw [hscale, hiv, hp]
        have hn : ((frN f φ : Nat) : Int) = nth f.1 (U.fi g).toNat := by unfold frN; rw [hφ]; omega
        rw [hn]
        congr 1
        rw [if_neg (by omega)]
        split <;> omega
      · rw [if_neg hφ]
        have : ∀ k, k < frN f φ → term w a b g o φ k = 0 := by
          intro k _
          unfold term
          rw [if_neg]
          intro c
          obtain ⟨_, c2, _⟩ := mine_iff.1 c
          exact hφ (by omega)
        rw [sumN_congr this, sumN_const]
    rw [sumN_congr hin, sumN_at, if_pos (by omega)]
  · have hp : U.pairN a b g o = 0 := by
      unfold U.pairN
      rw [if_neg]
      rintro ⟨e1, e2, e3⟩
      unfold U.common at e3
      have := of_decide_eq_true e3
      exact h ⟨e1, e2, this.1, this.2⟩
    rw [hp, Int.mul_zero]
    have : ∀ φ, φ < f.1.length → U.sumN (term w a b g o φ) (frN f φ) = 0 := by
      intro φ _
      have : ∀ k, k < frN f φ → term w a b g o φ k = 0 := by
        intro k _
        unfold term
        split
        · rename_i c1
          split
          · rename_i c2
            obtain ⟨a1, a2, a3, a4⟩ := mine_iff.1 c1
            obtain ⟨b1, b2, b3, b4⟩ := mine_iff.1 c2
            exact absurd ⟨a1, b1, by omega, by omega⟩ h
          · rfl
        · rfl
      rw [sumN_congr this, sumN_const]
    rw [sumN_congr this, sumN_const]

/-! ### At most one gloss of an author in a frame -/

theorem pick_none {p : GD → Bool} {x : GD → Int} : ∀ {l : List GD}, (∀ g ∈ l, p g = false) → U.sumTo (fun g => if p g = true then x g else 0) l = 0
  | [], _ => rfl
  | g :: l, h => by
    rw [sumTo_cons, pick_none (l := l) (fun y hy => h y (by simp [hy])), if_neg (by rw [h g (by simp)]; simp)]
    rfl

theorem pick_one {p : GD → Bool} {x : GD → Int} {g0 : GD} : ∀ {l : List GD}, l.Nodup → g0 ∈ l → p g0 = true → (∀ g ∈ l, p g = true → g = g0) → U.sumTo (fun g => if p g = true then x g else 0) l = x g0
  | [], _, h, _, _ => by simp at h
  | g :: l, hn, hm, hp, hu => by
    rw [List.nodup_cons] at hn
    rw [sumTo_cons]
    by_cases e : g = g0
    · subst e
      rw [if_pos hp, pick_none (l := l) (fun y hy => ?_), Int.add_zero]
      cases hy' : p y with
      | false => rfl
      | true =>
        have := hu y (by simp [hy]) hy'
        subst this
        exact absurd hy hn.1
    · have hm' : g0 ∈ l := by
        rcases List.mem_cons.1 hm with h | h
        · exact absurd h.symm e
        · exact h
      rw [if_neg (fun hp' => e (hu g (by simp) hp')), pick_one hn.2 hm' hp (fun y hy => hu y (by simp [hy])), Int.zero_add]

theorem one_mine {f : FD} {l : List GD} (h : Ok f l) {a : Int} {φ k : Nat} {g o : GD} (hg : g ∈ U.heldG l) (ho : o ∈ U.heldG l) (mg : mine a φ k g = true) (mo : mine a φ k o = true) : g = o := by
  obtain ⟨g1, g2, g3, g4⟩ := mine_iff.1 mg
  obtain ⟨o1, o2, o3, o4⟩ := mine_iff.1 mo
  obtain ⟨p1, p2⟩ := (mem_held_iff h).1 hg
  obtain ⟨q1, q2⟩ := (mem_held_iff h).1 ho
  obtain ⟨p3, _⟩ := holds_iff.1 p2
  obtain ⟨q3, _⟩ := holds_iff.1 q2
  have lt : ∀ {x y : GD}, U.au x = a → U.au y = a → U.fi x = φ → U.fi y = φ → U.fr x ≤ k → (k : Int) < U.to x → U.fr y ≤ k → (k : Int) < U.to y → U.later y x = false → ¬ U.st x < U.st y := by
    intro x y a1 a2 a3 a4 a5 a6 a7 a8 hl hlt
    unfold U.later U.over at hl
    rw [decide_eq_true (show U.au y = U.au x ∧ U.st x < U.st y from ⟨by rw [a1, a2], hlt⟩), decide_eq_true (show U.fi y = U.fi x ∧ U.fr y < U.to x ∧ U.fr x < U.to y from ⟨by rw [a3, a4], by omega, by omega⟩)] at hl
    cases hl
  have n1 := lt g1 o1 g2 o2 g3 g4 o3 o4 (p3 o q1)
  have n2 := lt o1 g1 o2 g2 o3 o4 g3 g4 (q3 g p1)
  refine noClash_of h.cl g p1 o q1 ?_
  unfold U.key
  rw [g1, o1, show U.st g = U.st o by omega]

theorem heldG_nodup (l : List GD) : (U.heldG l).Nodup := (asc_nodup (msgs_asc l)).filter _

/-- one author's set in a frame, and what it is -/
theorem by_frame {f : FD} {l : List GD} (h : Ok f l) (a : Int) (φ k : Nat) :
    (U.by' (U.at' l φ k) a = 0 ∧ ∀ g ∈ U.heldG l, mine a φ k g = false) ∨ ∃ g ∈ U.heldG l, mine a φ k g = true ∧ U.by' (U.at' l φ k) a = U.sg g ∧ U.sg g ≠ 0 := by
  have hat : U.at' l φ k = (U.heldG l).filter (U.inFrame φ k) := by rw [held_eq h]; rfl
  unfold U.by'
  split
  · rename_i g hg
    right
    have hm := List.mem_of_find?_eq_some hg
    have ha := List.find?_some hg
    rw [hat, List.mem_filter] at hm
    exact ⟨g, hm.1, by unfold mine; rw [ha, hm.2]; rfl, rfl, (mem_heldG hm.1).2⟩
  · rename_i hn
    left
    refine ⟨rfl, fun g hg => ?_⟩
    cases hm : mine a φ k g with
    | false => rfl
    | true =>
      unfold mine at hm
      rw [Bool.and_eq_true] at hm
      have := List.find?_eq_none.1 hn g (by rw [hat, List.mem_filter]; exact ⟨hg, hm.2⟩)
      exact absurd hm.1 this

/-- the pairs of a frame -/
theorem frame_pairs {f : FD} {l : List GD} (h : Ok f l) (w : GD → GD → Int) (a b : Int) (φ k : Nat) {v : Int}
    (h1 : ∀ g ∈ U.heldG l, ∀ o ∈ U.heldG l, mine a φ k g = true → mine b φ k o = true → w g o = v) (h0 : (∀ g ∈ U.heldG l, mine a φ k g = false) ∨ (∀ g ∈ U.heldG l, mine b φ k g = false) → v = 0) :
    U.sumTo (fun g => U.sumTo (fun o => term w a b g o φ k) (U.heldG l)) (U.heldG l) = v := by
  have hin : ∀ g, U.sumTo (fun o => term w a b g o φ k) (U.heldG l) = if mine a φ k g = true then U.sumTo (fun o => if mine b φ k o = true then w g o else 0) (U.heldG l) else 0 := by
    intro g
    unfold term
    split
    · rfl
    · exact sumTo_zero _
  rw [sumTo_congr (fun g _ => hin g)]
  rcases by_frame h a φ k with ⟨_, e⟩ | ⟨g, hg, mg, _⟩
  · rw [pick_none e, h0 (.inl e)]
  · rw [pick_one (heldG_nodup l) hg mg (fun y hy my => one_mine h hy hg my mg)]
    rcases by_frame h b φ k with ⟨_, e⟩ | ⟨o, ho, mo, _⟩
    · rw [pick_none e, h0 (.inr e)]
    · rw [pick_one (heldG_nodup l) ho mo (fun y hy my => one_mine h hy ho my mo)]
      exact h1 g hg o ho mg mo

theorem pairs_frames {f : FD} {l : List GD} (h : Ok f l) (w : GD → GD → Int) (a b : Int) : U.sumTo (fun g => U.sumTo (fun o => w g o * U.pairN a b g o) (U.heldG l)) (U.heldG l) =
    U.sumN (fun φ => U.sumN (fun k => U.sumTo (fun g => U.sumTo (fun o => term w a b g o φ k) (U.heldG l)) (U.heldG l)) (frN f φ)) f.1.length := by
  have hg := Ok.gls h
  have e1 : ∀ g ∈ U.heldG l, U.sumTo (fun o => w g o * U.pairN a b g o) (U.heldG l) = U.sumN (fun φ => U.sumN (fun k => U.sumTo (fun o => term w a b g o φ k) (U.heldG l)) (frN f φ)) f.1.length := by
    intro g hgm
    rw [sumTo_congr (fun o ho => pair_frames w (hg g hgm) (hg o ho)), sumTo_sumN]
    exact sumN_congr fun φ _ => sumTo_sumN _ _ _
  rw [sumTo_congr e1, sumTo_sumN]
  exact sumN_congr fun φ _ => sumTo_sumN _ _ _

theorem both_eq {f : FD} {l : List GD} (h : Ok f l) (a b : Int) : U.both (U.heldG l) a b = U.sumN (fun φ => U.sumN (U.cntB l a b φ) (frN f φ)) f.1.length := by
  have e : U.both (U.heldG l) a b = U.sumTo (fun g => U.sumTo (fun o => (fun _ _ => (1 : Int)) g o * U.pairN a b g o) (U.heldG l)) (U.heldG l) := by
    unfold U.both
    refine sumTo_congr fun g _ => sumTo_congr fun o _ => ?_
    show _ = 1 * _
    rw [Int.one_mul]
  rw [e, pairs_frames h]
  refine sumN_congr fun φ _ => sumN_congr fun k _ => ?_
  unfold U.cntB
  refine frame_pairs h _ a b φ k (fun g hg o ho mg mo => ?_) (fun hz => ?_)
  · rw [if_pos]
    constructor
    · rcases by_frame h a φ k with ⟨_, e⟩ | ⟨_, _, _, e1, e2⟩
      · rw [e g hg] at mg; cases mg
      · rw [e1]; exact e2
    · rcases by_frame h b φ k with ⟨_, e⟩ | ⟨_, _, _, e1, e2⟩
      · rw [e o ho] at mo; cases mo
      · rw [e1]; exact e2
  · rw [if_neg]
    rintro ⟨n1, n2⟩
    rcases hz with hz | hz
    · rcases by_frame h a φ k with ⟨e, _⟩ | ⟨g, hg, mg, _⟩
      · exact n1 e
      · rw [hz g hg] at mg; cases mg
    · rcases by_frame h b φ k with ⟨e, _⟩ | ⟨g, hg, mg, _⟩
      · exact n2 e
      · rw [hz g hg] at mg; cases mg

def ov (g o : GD) : Int := if band (U.sg g) (U.sg o) ≠ 0 then 1 else 0

theorem pairS_ov (a b : Int) (g o : GD) : U.pairS a b g o = ov g o * U.pairN a b g o := by
  unfold U.pairS ov
  split
  · rw [Int.one_mul]
  · rw [Int.zero_mul]

theorem band_zero (x : Int) : band 0 x = 0 := by
  unfold band
  simp [IntKind.wrap, IntKind.signed, IntKind.bits]

theorem same_eq {f : FD} {l : List GD} (h : Ok f l) (a b : Int) : U.same (U.heldG l) a b = U.sumN (fun φ => U.sumN (U.cntS l a b φ) (frN f φ)) f.1.length := by
  have e : U.same (U.heldG l) a b = U.sumTo (fun g => U.sumTo (fun o => ov g o * U.pairN a b g o) (U.heldG l)) (U.heldG l) := by
    unfold U.same
    exact sumTo_congr fun g _ => sumTo_congr fun o _ => pairS_ov a b g o
  rw [e, pairs_frames h]
  refine sumN_congr fun φ _ => sumN_congr fun k _ => ?_
  unfold U.cntS
  refine frame_pairs h _ a b φ k (fun g hg o ho mg mo => ?_) (fun hz => ?_)
  · rcases by_frame h a φ k with ⟨_, e⟩ | ⟨g', hg', mg', e1, _⟩
    · rw [e g hg] at mg; cases mg
    rcases by_frame h b φ k with ⟨_, e⟩ | ⟨o', ho', mo', e2, _⟩
    · rw [e o ho] at mo; cases mo
    rw [e1, e2, one_mine h hg' hg mg' mg, one_mine h ho' ho mo' mo]
    rfl
  · rw [if_neg]
    intro hn
    rcases hz with hz | hz
    · rcases by_frame h a φ k with ⟨e, _⟩ | ⟨g, hg, mg, _⟩
      · rw [e, band_zero] at hn; exact hn rfl
      · rw [hz g hg] at mg; cases mg
    · rcases by_frame h b φ k with ⟨e, _⟩ | ⟨g, hg, mg, _⟩
      · rw [e, band_comm, band_zero] at hn; exact hn rfl
      · rw [hz g hg] at mg; cases mg

theorem pairN_comm (a b : Int) (g o : GD) : U.pairN a b g o = U.pairN b a o g := by
  unfold U.pairN U.common
  by_cases h : U.au g = a ∧ U.au o = b ∧ decide (U.fi g = U.fi o ∧ max (U.fr g) (U.fr o) < min (U.to g) (U.to o)) = true
  · rw [if_pos h, if_pos]
    · rw [Int.min_comm, Int.max_comm]
    · obtain ⟨h1, h2, h3⟩ := h
      have h3 := of_decide_eq_true h3
      refine ⟨h2, h1, decide_eq_true ⟨h3.1.symm, ?_⟩⟩
      rw [Int.min_comm, Int.max_comm]; exact h3.2
  · rw [if_neg h, if_neg]
    rintro ⟨h1, h2, h3⟩
    have h3 := of_decide_eq_true h3
    refine h ⟨h2, h1, decide_eq_true ⟨h3.1.symm, ?_⟩⟩
    rw [Int.min_comm, Int.max_comm]; exact h3.2

theorem both_comm (H : List GD) (a b : Int) : U.both H a b = U.both H b a := by
  unfold U.both
  rw [sumTo_swap]
  exact sumTo_congr fun o _ => sumTo_congr fun g _ => pairN_comm a b g o

theorem same_comm (H : List GD) (a b : Int) : U.same H a b = U.same H b a := by
  unfold U.same
  rw [sumTo_swap]
  refine sumTo_congr fun o _ => sumTo_congr fun g _ => ?_
  unfold U.pairS
  rw [pairN_comm, band_comm]

theorem same_le {f : FD} {l : List GD} (h : Ok f l) (a b : Int) : 0 ≤ U.same (U.heldG l) a b ∧ U.same (U.heldG l) a b ≤ U.both (U.heldG l) a b := by
  have hs := Ok.span h
  constructor
  · unfold U.same
    have := sumTo_le_of (f := fun _ => (0 : Int)) (h := fun g => U.sumTo (U.pairS a b g) (U.heldG l)) (l := U.heldG l) (fun g hg => by
      have := sumTo_le_of (f := fun _ => (0 : Int)) (h := U.pairS a b g) (l := U.heldG l) (fun o ho => (pairS_in (hs g hg) (hs o ho)).1)
      rwa [sumTo_zero] at this)
    rwa [sumTo_zero] at this
  · unfold U.same U.both
    refine sumTo_le_of fun g hg => sumTo_le_of fun o ho => ?_
    have := pairN_in (a := a) (b := b) (hs g hg) (hs o ho)
    unfold U.pairS
    split <;> omega

theorem sumI_succ {l : List Int} {i : Nat} (h : i < l.length) : U.sumI (l.take (i + 1)) = U.sumI (l.take i) + nth l i := by
  rw [L.take_succ h]; simp [U.sumI]

theorem sumI_frames {f : FD} (h : ∀ n ∈ f.1, 1 ≤ n ∧ n ≤ 200) : ∀ i, i ≤ f.1.length → U.sumN (fun φ => ((frN f φ : Nat) : Int)) i = U.sumI (f.1.take i)
  | 0, _ => rfl
  | i + 1, hi => by
    rw [sumN_succ, sumI_succ (by omega), sumI_frames h i (by omega)]
    have := h _ (L.mem_nth (l := f.1) (i := i) (by omega))
    unfold frN
    omega

theorem both_le {f : FD} {l : List GD} (h : Ok f l) (a b : Int) : U.both (U.heldG l) a b ≤ U.sumI f.1 := by
  rw [both_eq h]
  have e := sumI_frames h.fr f.1.length (Nat.le_refl _)
  rw [List.take_length] at e
  rw [← e]
  refine sumN_le fun φ _ => ?_
  have := sumN_le (f := U.cntB l a b φ) (g := fun _ => 1) (n := frN f φ) (fun k _ => by unfold U.cntB; split <;> omega)
  rwa [sumN_one] at this

end M
end Go.X
/-
  The statement 'GlossesPair' is true of what the program computes.
-/
namespace Go.X
open Go.Proofs
namespace M

theorem size_pos : ∀ n : Nat, n < 1024 → n ≠ 0 → 1 ≤ U.size (n : Int) := by decide +kernel

theorem one_size {s : Nat} (hs : s ≤ 10) {x y : GD} {h : Nat} (hb : Best s [x, y] h) (hx : Sg s x) (hy : Sg s y) (hne : band (U.sg x) (U.sg y) ≠ 0) : U.size (h : Int) = 1 := by
  have hp : (2 : Nat) ^ s ≤ 2 ^ 10 := Nat.pow_le_pow_right (by omega) hs
  have hc : ((2 ^ s : Nat) : Int) = (2 : Int) ^ s := by simp
  obtain ⟨x1, x2⟩ := hx
  obtain ⟨y1, y2⟩ := hy
  have hl : ∀ g ∈ [x, y], Sg s g := by
    intro g hg
    rcases List.mem_cons.1 hg with rfl | hg
    · exact ⟨x1, x2⟩
    · have : g = y := by simpa using hg
      subst this; exact ⟨y1, y2⟩
  have hbn := band_nat (a := (U.sg x).toNat) (b := (U.sg y).toNat) (by omega) (by omega)
  rw [Int.toNat_of_nonneg (by omega), Int.toNat_of_nonneg (by omega)] at hbn
  have hnz : (U.sg x).toNat &&& (U.sg y).toNat ≠ 0 := fun e => hne (by rw [hbn, e]; rfl)
  have hlt : (U.sg x).toNat &&& (U.sg y).toNat < 2 ^ s := Nat.lt_of_le_of_lt Nat.and_le_left (by omega)
  obtain ⟨i, b1, b2⟩ := has_bit hnz hlt
  have ht : 2 ^ i < 2 ^ s := Nat.pow_lt_pow_right (by omega) b1
  have hag : U.agrees ((2 ^ i : Nat) : Int) [x, y] = true := by
    rw [agrees_iff hs ht hl]
    intro g hg
    rcases List.mem_cons.1 hg with rfl | hg
    · intro e
      rw [← Nat.and_assoc, e, Nat.zero_and] at b2
      exact b2 rfl
    · have : g = y := by simpa using hg
      subst this
      intro e
      rw [Nat.and_comm (U.sg x).toNat, ← Nat.and_assoc, e, Nat.zero_and] at b2
      exact b2 rfl
  have h1 := hb.min (2 ^ i) ht hag
  have h2 := one_bit 0 (by omega) i (by omega)
  rw [Nat.zero_or] at h2
  have h3 : U.size ((0 : Nat) : Int) = 0 := size_zero
  have h4 : h ≠ 0 := by
    intro e
    have := hb.ag
    rw [agrees_iff hs hb.lt hl] at this
    have := this x (by simp)
    rw [e, Nat.zero_and] at this
    exact this rfl
  have hlh := hb.lt
  have h5 := size_pos h (by omega) h4
  omega

theorem frame_zero {f : FD} {l : List GD} (c : U.check f l = 0) {film frame : Int} (h : U.frameErr f l film frame = 0) : (0 ≤ film ∧ film < f.1.length) ∧ 0 ≤ frame ∧ frame < nth f.1 film.toNat := by
  unfold U.frameErr at h
  rw [if_neg (by rw [c]; simp)] at h
  split at h
  · omega
  · cases h

theorem at_eq {f : FD} {l : List GD} (h : Ok f l) (film frame : Int) : U.at' l film frame = (U.heldG l).filter (U.inFrame film frame) := by
  rw [held_eq h]; rfl

theorem auth_zero {f : FD} {l : List GD} (c : U.check f l = 0) {a b : Int} (h : U.areAuthors a b = true) : U.authErr f l a b = 0 ∧ U.authErr f l b a = 0 := by
  unfold U.areAuthors at h
  have h := of_decide_eq_true h
  unfold U.authErr
  exact ⟨by rw [if_neg (by rw [c]; simp), if_pos (by omega)], by rw [if_neg (by rw [c]; simp), if_pos (by omega)]⟩

theorem sumI_in {l : List Int} (h : ∀ n ∈ l, 1 ≤ n ∧ n ≤ 200) : ∀ i, i ≤ l.length → 0 ≤ U.sumI (l.take i) ∧ U.sumI (l.take i) ≤ 200 * i
  | 0, _ => by simp [U.sumI]
  | i + 1, hi => by
    have := sumI_in h i (by omega)
    have := h _ (L.mem_nth (l := l) (i := i) (by omega))
    rw [sumI_succ (by omega)]
    omega

end M

theorem h5 : vc5 := by
  rintro ⟨⟨fr, s, ⟨⟩⟩, l, ⟨film, frame, a, b, set, ⟨⟩⟩, ⟨⟩⟩ _
  simp only
  refine ⟨fun _ => trivial, fun h => ?_⟩
  simp only [Bool.or_eq_false_iff, Bool.not_eq_false'] at h
  obtain ⟨v1, v2⟩ := h
  obtain ⟨c1, n1, o1, _, _⟩ := M.valid_of v1
  obtain ⟨e1, e2⟩ := M.auth_zero c1 v2
  have hfr := o1.fr
  have hnf := o1.nf
  simp only at hfr hnf
  refine ⟨fun _ => n1, fun _ => n1, ⟨0, ⟨⟨rfl, rfl, trivial⟩, trivial⟩, Nat.zero_le _⟩, fun i hi _ => ⟨fun hc => ?_, fun hc => ?_⟩⟩
  · have hc : i < fr.length := by have := of_decide_eq_true hc; omega
    simp only [Int.toNat_natCast]
    have hs := M.sumI_in hfr i (by omega)
    have hn := hfr _ (L.mem_nth hc)
    exact ⟨by omega, by omega, by unfold In64; omega, by unfold In64; omega, i + 1, ⟨⟨by simp, (M.sumI_succ hc).symm, trivial⟩, trivial⟩, by omega, by omega⟩
  · have hc : fr.length ≤ i := by have := of_decide_eq_false hc; omega
    rw [List.take_of_length_le hc]
    have sl := M.same_le o1 a b
    have bl := M.both_le o1 a b
    simp only at bl
    refine ⟨fun hb => ?_, fun _ => ⟨fun _ => trivial, fun hf => ?_⟩⟩
    · exfalso
      rw [e1, e2, if_pos rfl, if_pos rfl, if_pos rfl, if_pos rfl, M.both_comm _ b a, M.same_comm _ b a] at hb
      simp only [Bool.or_eq_true, decide_eq_true_eq] at hb
      rcases hb with (((((h | h) | h) | h) | h) | h) | h
      · exact h rfl
      · exact h rfl
      · exact h rfl
      · exact h rfl
      · omega
      · omega
      · omega
    · have hf : U.frameErr (fr, s, ()) l film frame = 0 := Classical.byContradiction (of_decide_eq_false hf)
      obtain ⟨hfilm, hk⟩ := M.frame_zero c1 hf
      have f1 := M.filmErr_zero c1 hfilm
      have len1 := M.readings_len c1 hfilm
      have at1 := M.readings_at c1 hfilm hk
      simp only at len1 at1
      refine ⟨by omega, fun g hg => by have := o1.gl g hg; omega, fun _ => n1, fun _ => ⟨fun _ => hfilm.1, fun _ => hfilm.2, fun hb => ?_, fun _ => ⟨by omega, fun _ => by omega, fun hb => ?_, fun _ => by omega, fun hb => ?_, ?_⟩⟩⟩
      · exfalso
        rw [f1, decide_eq_false (show ¬ nth fr film.toNat < ((U.readings (fr, s, ()) l film).length : Int) by omega)] at hb
        exact absurd hb (by decide)
      · simp only [Bool.and_eq_true, Bool.not_eq_true', decide_eq_false_iff_not] at hb
        omega
      · simp only [Bool.and_eq_true, Bool.not_eq_true', decide_eq_false_iff_not] at hb
        omega
      · rw [decide_eq_true at1.2, Bool.true_and, Bool.and_true]
        refine congrArg (·, ()) ?_
        by_cases h2 : (U.at' l film frame).length = 2
        · obtain ⟨x, y, hxy⟩ : ∃ x y, U.at' l film frame = [x, y] := by
            match hm : U.at' l film frame, h2 with
            | [x, y], _ => exact ⟨x, y, rfl⟩
          rw [hxy]
          have ex : nth [x, y] (Int.toNat 0) = x := rfl
          have ey : nth [x, y] (Int.toNat 1) = y := rfl
          rw [ex, ey]
          by_cases hz : band x.2.2.2.2.2.1 y.2.2.2.2.2.1 = 0
          · rw [decide_eq_true hz]; simp
          · obtain ⟨h', ea, hB⟩ := M.frame_best o1 film frame.toNat
            rw [Int.toNat_of_nonneg hk.1, ← M.at_eq o1, hxy] at hB
            have hsg := frame_sg o1 (U.inFrame film frame)
            rw [← M.at_eq o1, hxy] at hsg
            have := M.one_size (by have := o1.s; omega) hB (hsg x (by simp)) (hsg y (by simp)) hz
            rw [← ea, ← at1.1] at this
            rw [decide_eq_true this]; simp
        · rw [decide_eq_true (show ((U.at' l film frame).length : Int) ≠ 2 by omega)]; simp

theorem ok5 : FnOK PR 5 sp5 := mkFn (vc5_eq.mpr h5) Try.func5 (by kernel_rfl) (by kernel_rfl) (by kernel_rfl) (by kernel_rfl) ⟨fun _ => ok13, fun _ => ok14, fun _ => ok15, fun _ => ok16, fun _ => ok17, fun _ => ok18, fun _ => ok19, fun _ => ok20, fun _ => ok21, trivial⟩ trivial

end Go.X
