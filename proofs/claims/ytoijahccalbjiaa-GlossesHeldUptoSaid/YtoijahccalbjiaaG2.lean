/-
  What the functions of the program are asked to return (1).
-/
import Derived.Test.YtoijahccalbjiaaG1
namespace Go.X
open Go.Proofs

abbrev tFs : Ty := .st [tF]

namespace U
def common (a b : GD) : Bool := decide (fi a = fi b ∧ max (fr a) (fr b) < min (to a) (to b))
def cmp (a b : GD) : Int := if au a - au b ≠ 0 then au a - au b else st a - st b
def firstNZ (l : List Int) : Int := match l.find? (fun n => decide (n ≠ 0)) with | some n => n | none => 0
def minTo (l : List Int) (i : Nat) : Int := (l.take i).foldl min (nth l 0)
def maxTo (l : List Int) (i : Nat) : Int := (l.take i).foldl max (nth l 0)
def idx (p : GD → Bool) (l : List GD) : Int := match l.findIdx? p with | some i => (i : Int) | none => -1
def apply (F : (Ty.st [tG]).Data → (Ty.st [.bool]).Data) (g : GD) : Bool := (F (g, ())).1
def small (g : GD) : Prop := 0 ≤ au g ∧ au g ≤ 7 ∧ 0 ≤ st g ∧ st g ≤ 9999
def allP : List Prop → Prop
  | [] => True
  | p :: r => p ∧ allP r
end U

/-- the function in a slot -/
def gf (σ : St) (s : Nat) : (Ty.st [tG]).Data → (Ty.st [.bool]).Data := match σ.get s with
  | .fn ps rs _ F => if h : ps = [tG] ∧ rs = [.bool] then h.1 ▸ h.2 ▸ F else fun _ => (false, ())
  | _ => fun _ => (false, ())

def sp88 : Spec := ⟨[.val (.uint .u64)], [.int], false, fun d => [0 ≤ d.1 ∧ d.1 < 1024], fun d => (U.size d.1, ())⟩
def vc88 : Prop :=
  ∀ (d : Int × Unit),
  (0 : Int) ≤ d.fst ∧ d.fst < (1024 : Int) →
  (0 : Int) ≤ (1 : Int) ∧
  (1 : Int) ≤ (64 : Int) ∧
  (0 : Int) ≤ uand (d.fst / (2 : Int) ^ Int.toNat (1 : Int)) (6148914691236517205 : Int) + uand d.fst (6148914691236517205 : Int) ∧
  uand (d.fst / (2 : Int) ^ Int.toNat (1 : Int)) (6148914691236517205 : Int) + uand d.fst (6148914691236517205 : Int) ≤ (18446744073709551615 : Int) ∧
  (0 : Int) ≤ (2 : Int) ∧
  (2 : Int) ≤ (64 : Int) ∧
  (0 : Int) ≤
  uand ((uand (d.fst / (2 : Int) ^ Int.toNat (1 : Int)) (6148914691236517205 : Int) + uand d.fst (6148914691236517205 : Int)) / (2 : Int) ^ Int.toNat (2 : Int)) (3689348814741910323 : Int) +
  uand (uand (d.fst / (2 : Int) ^ Int.toNat (1 : Int)) (6148914691236517205 : Int) + uand d.fst (6148914691236517205 : Int)) (3689348814741910323 : Int) ∧
  uand ((uand (d.fst / (2 : Int) ^ Int.toNat (1 : Int)) (6148914691236517205 : Int) + uand d.fst (6148914691236517205 : Int)) / (2 : Int) ^ Int.toNat (2 : Int)) (3689348814741910323 : Int) +
  uand (uand (d.fst / (2 : Int) ^ Int.toNat (1 : Int)) (6148914691236517205 : Int) + uand d.fst (6148914691236517205 : Int)) (3689348814741910323 : Int) ≤
  (18446744073709551615 : Int) ∧
  (0 : Int) ≤ (4 : Int) ∧
  (4 : Int) ≤ (64 : Int) ∧
  (0 : Int) ≤
  (uand ((uand (d.fst / (2 : Int) ^ Int.toNat (1 : Int)) (6148914691236517205 : Int) + uand d.fst (6148914691236517205 : Int)) / (2 : Int) ^ Int.toNat (2 : Int)) (3689348814741910323 : Int) +
  uand (uand (d.fst / (2 : Int) ^ Int.toNat (1 : Int)) (6148914691236517205 : Int) + uand d.fst (6148914691236517205 : Int)) (3689348814741910323 : Int)) /
  (2 : Int) ^ Int.toNat (4 : Int) +
  (uand ((uand (d.fst / (2 : Int) ^ Int.toNat (1 : Int)) (6148914691236517205 : Int) + uand d.fst (6148914691236517205 : Int)) / (2 : Int) ^ Int.toNat (2 : Int)) (3689348814741910323 : Int) +
  uand (uand (d.fst / (2 : Int) ^ Int.toNat (1 : Int)) (6148914691236517205 : Int) + uand d.fst (6148914691236517205 : Int)) (3689348814741910323 : Int)) ∧
  (uand ((uand (d.fst / (2 : Int) ^ Int.toNat (1 : Int)) (6148914691236517205 : Int) + uand d.fst (6148914691236517205 : Int)) / (2 : Int) ^ Int.toNat (2 : Int)) (3689348814741910323 : Int) +
  uand (uand (d.fst / (2 : Int) ^ Int.toNat (1 : Int)) (6148914691236517205 : Int) + uand d.fst (6148914691236517205 : Int)) (3689348814741910323 : Int)) /
  (2 : Int) ^ Int.toNat (4 : Int) +
  (uand ((uand (d.fst / (2 : Int) ^ Int.toNat (1 : Int)) (6148914691236517205 : Int) + uand d.fst (6148914691236517205 : Int)) / (2 : Int) ^ Int.toNat (2 : Int)) (3689348814741910323 : Int) +
  uand (uand (d.fst / (2 : Int) ^ Int.toNat (1 : Int)) (6148914691236517205 : Int) + uand d.fst (6148914691236517205 : Int)) (3689348814741910323 : Int)) ≤
  (18446744073709551615 : Int) ∧
  (0 : Int) ≤ (8 : Int) ∧
  (8 : Int) ≤ (64 : Int) ∧
  (0 : Int) ≤
  uand
  ((uand ((uand (d.fst / (2 : Int) ^ Int.toNat (1 : Int)) (6148914691236517205 : Int) + uand d.fst (6148914691236517205 : Int)) / (2 : Int) ^ Int.toNat (2 : Int)) (3689348814741910323 : Int) +
  uand (uand (d.fst / (2 : Int) ^ Int.toNat (1 : Int)) (6148914691236517205 : Int) + uand d.fst (6148914691236517205 : Int)) (3689348814741910323 : Int)) /
  (2 : Int) ^ Int.toNat (4 : Int) +
  (uand ((uand (d.fst / (2 : Int) ^ Int.toNat (1 : Int)) (6148914691236517205 : Int) + uand d.fst (6148914691236517205 : Int)) / (2 : Int) ^ Int.toNat (2 : Int)) (3689348814741910323 : Int) +
  uand (uand (d.fst / (2 : Int) ^ Int.toNat (1 : Int)) (6148914691236517205 : Int) + uand d.fst (6148914691236517205 : Int)) (3689348814741910323 : Int)))
  (1085102592571150095 : Int) +
  uand
  ((uand ((uand (d.fst / (2 : Int) ^ Int.toNat (1 : Int)) (6148914691236517205 : Int) + uand d.fst (6148914691236517205 : Int)) / (2 : Int) ^ Int.toNat (2 : Int)) (3689348814741910323 : Int) +
  uand (uand (d.fst / (2 : Int) ^ Int.toNat (1 : Int)) (6148914691236517205 : Int) + uand d.fst (6148914691236517205 : Int)) (3689348814741910323 : Int)) /
  (2 : Int) ^ Int.toNat (4 : Int) +
  (uand ((uand (d.fst / (2 : Int) ^ Int.toNat (1 : Int)) (6148914691236517205 : Int) + uand d.fst (6148914691236517205 : Int)) / (2 : Int) ^ Int.toNat (2 : Int)) (3689348814741910323 : Int) +
  uand (uand (d.fst / (2 : Int) ^ Int.toNat (1 : Int)) (6148914691236517205 : Int) + uand d.fst (6148914691236517205 : Int)) (3689348814741910323 : Int)))
  (1085102592571150095 : Int) /
  (2 : Int) ^ Int.toNat (8 : Int) ∧
  uand
  ((uand ((uand (d.fst / (2 : Int) ^ Int.toNat (1 : Int)) (6148914691236517205 : Int) + uand d.fst (6148914691236517205 : Int)) / (2 : Int) ^ Int.toNat (2 : Int)) (3689348814741910323 : Int) +
  uand (uand (d.fst / (2 : Int) ^ Int.toNat (1 : Int)) (6148914691236517205 : Int) + uand d.fst (6148914691236517205 : Int)) (3689348814741910323 : Int)) /
  (2 : Int) ^ Int.toNat (4 : Int) +
  (uand ((uand (d.fst / (2 : Int) ^ Int.toNat (1 : Int)) (6148914691236517205 : Int) + uand d.fst (6148914691236517205 : Int)) / (2 : Int) ^ Int.toNat (2 : Int)) (3689348814741910323 : Int) +
  uand (uand (d.fst / (2 : Int) ^ Int.toNat (1 : Int)) (6148914691236517205 : Int) + uand d.fst (6148914691236517205 : Int)) (3689348814741910323 : Int)))
  (1085102592571150095 : Int) +
  uand
  ((uand ((uand (d.fst / (2 : Int) ^ Int.toNat (1 : Int)) (6148914691236517205 : Int) + uand d.fst (6148914691236517205 : Int)) / (2 : Int) ^ Int.toNat (2 : Int)) (3689348814741910323 : Int) +
  uand (uand (d.fst / (2 : Int) ^ Int.toNat (1 : Int)) (6148914691236517205 : Int) + uand d.fst (6148914691236517205 : Int)) (3689348814741910323 : Int)) /
  (2 : Int) ^ Int.toNat (4 : Int) +
  (uand ((uand (d.fst / (2 : Int) ^ Int.toNat (1 : Int)) (6148914691236517205 : Int) + uand d.fst (6148914691236517205 : Int)) / (2 : Int) ^ Int.toNat (2 : Int)) (3689348814741910323 : Int) +
  uand (uand (d.fst / (2 : Int) ^ Int.toNat (1 : Int)) (6148914691236517205 : Int) + uand d.fst (6148914691236517205 : Int)) (3689348814741910323 : Int)))
  (1085102592571150095 : Int) /
  (2 : Int) ^ Int.toNat (8 : Int) ≤
  (18446744073709551615 : Int) ∧
  (0 : Int) ≤ (16 : Int) ∧
  (16 : Int) ≤ (64 : Int) ∧
  (0 : Int) ≤
  uand
  ((uand ((uand (d.fst / (2 : Int) ^ Int.toNat (1 : Int)) (6148914691236517205 : Int) + uand d.fst (6148914691236517205 : Int)) / (2 : Int) ^ Int.toNat (2 : Int)) (3689348814741910323 : Int) +
  uand (uand (d.fst / (2 : Int) ^ Int.toNat (1 : Int)) (6148914691236517205 : Int) + uand d.fst (6148914691236517205 : Int)) (3689348814741910323 : Int)) /
  (2 : Int) ^ Int.toNat (4 : Int) +
  (uand ((uand (d.fst / (2 : Int) ^ Int.toNat (1 : Int)) (6148914691236517205 : Int) + uand d.fst (6148914691236517205 : Int)) / (2 : Int) ^ Int.toNat (2 : Int))
  (3689348814741910323 : Int) +
  uand (uand (d.fst / (2 : Int) ^ Int.toNat (1 : Int)) (6148914691236517205 : Int) + uand d.fst (6148914691236517205 : Int)) (3689348814741910323 : Int)))
  (1085102592571150095 : Int) +
  uand
  ((uand ((uand (d.fst / (2 : Int) ^ Int.toNat (1 : Int)) (6148914691236517205 : Int) + uand d.fst (6148914691236517205 : Int)) / (2 : Int) ^ Int.toNat (2 : Int))
  (3689348814741910323 : Int) +
  uand (uand (d.fst / (2 : Int) ^ Int.toNat (1 : Int)) (6148914691236517205 : Int) + uand d.fst (6148914691236517205 : Int)) (3689348814741910323 : Int)) /
  (2 : Int) ^ Int.toNat (4 : Int) +
  (uand ((uand (d.fst / (2 : Int) ^ Int.toNat (1 : Int)) (6148914691236517205 : Int) + uand d.fst (6148914691236517205 : Int)) / (2 : Int) ^ Int.toNat (2 : Int))
  (3689348814741910323 : Int) +
  uand (uand (d.fst / (2 : Int) ^ Int.toNat (1 : Int)) (6148914691236517205 : Int) + uand d.fst (6148914691236517205 : Int)) (3689348814741910323 : Int)))
  (1085102592571150095 : Int) /
  (2 : Int) ^ Int.toNat (8 : Int) +
  (uand
  ((uand ((uand (d.fst / (2 : Int) ^ Int.toNat (1 : Int)) (6148914691236517205 : Int) + uand d.fst (6148914691236517205 : Int)) / (2 : Int) ^ Int.toNat (2 : Int))
  (3689348814741910323 : Int) +
  uand (uand (d.fst / (2 : Int) ^ Int.toNat (1 : Int)) (6148914691236517205 : Int) + uand d.fst (6148914691236517205 : Int)) (3689348814741910323 : Int)) /
  (2 : Int) ^ Int.toNat (4 : Int) +
  (uand ((uand (d.fst / (2 : Int) ^ Int.toNat (1 : Int)) (6148914691236517205 : Int) + uand d.fst (6148914691236517205 : Int)) / (2 : Int) ^ Int.toNat (2 : Int))
  (3689348814741910323 : Int) +
  uand (uand (d.fst / (2 : Int) ^ Int.toNat (1 : Int)) (6148914691236517205 : Int) + uand d.fst (6148914691236517205 : Int)) (3689348814741910323 : Int)))
  (1085102592571150095 : Int) +
  uand
  ((uand ((uand (d.fst / (2 : Int) ^ Int.toNat (1 : Int)) (6148914691236517205 : Int) + uand d.fst (6148914691236517205 : Int)) / (2 : Int) ^ Int.toNat (2 : Int))
  (3689348814741910323 : Int) +
  uand (uand (d.fst / (2 : Int) ^ Int.toNat (1 : Int)) (6148914691236517205 : Int) + uand d.fst (6148914691236517205 : Int)) (3689348814741910323 : Int)) /
  (2 : Int) ^ Int.toNat (4 : Int) +
  (uand ((uand (d.fst / (2 : Int) ^ Int.toNat (1 : Int)) (6148914691236517205 : Int) + uand d.fst (6148914691236517205 : Int)) / (2 : Int) ^ Int.toNat (2 : Int))
  (3689348814741910323 : Int) +
  uand (uand (d.fst / (2 : Int) ^ Int.toNat (1 : Int)) (6148914691236517205 : Int) + uand d.fst (6148914691236517205 : Int)) (3689348814741910323 : Int)))
  (1085102592571150095 : Int) /
  (2 : Int) ^ Int.toNat (8 : Int)) /
  (2 : Int) ^ Int.toNat (16 : Int) ∧
  uand
  ((uand ((uand (d.fst / (2 : Int) ^ Int.toNat (1 : Int)) (6148914691236517205 : Int) + uand d.fst (6148914691236517205 : Int)) / (2 : Int) ^ Int.toNat (2 : Int))
  (3689348814741910323 : Int) +
  uand (uand (d.fst / (2 : Int) ^ Int.toNat (1 : Int)) (6148914691236517205 : Int) + uand d.fst (6148914691236517205 : Int)) (3689348814741910323 : Int)) /
  (2 : Int) ^ Int.toNat (4 : Int) +
  (uand ((uand (d.fst / (2 : Int) ^ Int.toNat (1 : Int)) (6148914691236517205 : Int) + uand d.fst (6148914691236517205 : Int)) / (2 : Int) ^ Int.toNat (2 : Int))
  (3689348814741910323 : Int) +
  uand (uand (d.fst / (2 : Int) ^ Int.toNat (1 : Int)) (6148914691236517205 : Int) + uand d.fst (6148914691236517205 : Int)) (3689348814741910323 : Int)))
  (1085102592571150095 : Int) +
  uand
  ((uand ((uand (d.fst / (2 : Int) ^ Int.toNat (1 : Int)) (6148914691236517205 : Int) + uand d.fst (6148914691236517205 : Int)) / (2 : Int) ^ Int.toNat (2 : Int))
  (3689348814741910323 : Int) +
  uand (uand (d.fst / (2 : Int) ^ Int.toNat (1 : Int)) (6148914691236517205 : Int) + uand d.fst (6148914691236517205 : Int)) (3689348814741910323 : Int)) /
  (2 : Int) ^ Int.toNat (4 : Int) +
  (uand ((uand (d.fst / (2 : Int) ^ Int.toNat (1 : Int)) (6148914691236517205 : Int) + uand d.fst (6148914691236517205 : Int)) / (2 : Int) ^ Int.toNat (2 : Int))
  (3689348814741910323 : Int) +
  uand (uand (d.fst / (2 : Int) ^ Int.toNat (1 : Int)) (6148914691236517205 : Int) + uand d.fst (6148914691236517205 : Int)) (3689348814741910323 : Int)))
  (1085102592571150095 : Int) /
  (2 : Int) ^ Int.toNat (8 : Int) +
  (uand
  ((uand ((uand (d.fst / (2 : Int) ^ Int.toNat (1 : Int)) (6148914691236517205 : Int) + uand d.fst (6148914691236517205 : Int)) / (2 : Int) ^ Int.toNat (2 : Int))
  (3689348814741910323 : Int) +
  uand (uand (d.fst / (2 : Int) ^ Int.toNat (1 : Int)) (6148914691236517205 : Int) + uand d.fst (6148914691236517205 : Int)) (3689348814741910323 : Int)) /
  (2 : Int) ^ Int.toNat (4 : Int) +
  (uand ((uand (d.fst / (2 : Int) ^ Int.toNat (1 : Int)) (6148914691236517205 : Int) + uand d.fst (6148914691236517205 : Int)) / (2 : Int) ^ Int.toNat (2 : Int))
  (3689348814741910323 : Int) +
  uand (uand (d.fst / (2 : Int) ^ Int.toNat (1 : Int)) (6148914691236517205 : Int) + uand d.fst (6148914691236517205 : Int)) (3689348814741910323 : Int)))
  (1085102592571150095 : Int) +
  uand
  ((uand ((uand (d.fst / (2 : Int) ^ Int.toNat (1 : Int)) (6148914691236517205 : Int) + uand d.fst (6148914691236517205 : Int)) / (2 : Int) ^ Int.toNat (2 : Int))
  (3689348814741910323 : Int) +
  uand (uand (d.fst / (2 : Int) ^ Int.toNat (1 : Int)) (6148914691236517205 : Int) + uand d.fst (6148914691236517205 : Int)) (3689348814741910323 : Int)) /
  (2 : Int) ^ Int.toNat (4 : Int) +
  (uand ((uand (d.fst / (2 : Int) ^ Int.toNat (1 : Int)) (6148914691236517205 : Int) + uand d.fst (6148914691236517205 : Int)) / (2 : Int) ^ Int.toNat (2 : Int))
  (3689348814741910323 : Int) +
  uand (uand (d.fst / (2 : Int) ^ Int.toNat (1 : Int)) (6148914691236517205 : Int) + uand d.fst (6148914691236517205 : Int)) (3689348814741910323 : Int)))
  (1085102592571150095 : Int) /
  (2 : Int) ^ Int.toNat (8 : Int)) /
  (2 : Int) ^ Int.toNat (16 : Int) ≤
  (18446744073709551615 : Int) ∧
  (0 : Int) ≤ (32 : Int) ∧
  (32 : Int) ≤ (64 : Int) ∧
  (0 : Int) ≤
  uand
  ((uand ((uand (d.fst / (2 : Int) ^ Int.toNat (1 : Int)) (6148914691236517205 : Int) + uand d.fst (6148914691236517205 : Int)) / (2 : Int) ^ Int.toNat (2 : Int))
  (3689348814741910323 : Int) +
  uand (uand (d.fst / (2 : Int) ^ Int.toNat (1 : Int)) (6148914691236517205 : Int) + uand d.fst (6148914691236517205 : Int)) (3689348814741910323 : Int)) /
  (2 : Int) ^ Int.toNat (4 : Int) +
  (uand ((uand (d.fst / (2 : Int) ^ Int.toNat (1 : Int)) (6148914691236517205 : Int) + uand d.fst (6148914691236517205 : Int)) / (2 : Int) ^ Int.toNat (2 : Int))
  (3689348814741910323 : Int) +
  uand (uand (d.fst / (2 : Int) ^ Int.toNat (1 : Int)) (6148914691236517205 : Int) + uand d.fst (6148914691236517205 : Int)) (3689348814741910323 : Int)))
  (1085102592571150095 : Int) +
  uand
  ((uand ((uand (d.fst / (2 : Int) ^ Int.toNat (1 : Int)) (6148914691236517205 : Int) + uand d.fst (6148914691236517205 : Int)) / (2 : Int) ^ Int.toNat (2 : Int))
  (3689348814741910323 : Int) +
  uand (uand (d.fst / (2 : Int) ^ Int.toNat (1 : Int)) (6148914691236517205 : Int) + uand d.fst (6148914691236517205 : Int)) (3689348814741910323 : Int)) /
  (2 : Int) ^ Int.toNat (4 : Int) +
  (uand ((uand (d.fst / (2 : Int) ^ Int.toNat (1 : Int)) (6148914691236517205 : Int) + uand d.fst (6148914691236517205 : Int)) / (2 : Int) ^ Int.toNat (2 : Int))
  (3689348814741910323 : Int) +
  uand (uand (d.fst / (2 : Int) ^ Int.toNat (1 : Int)) (6148914691236517205 : Int) + uand d.fst (6148914691236517205 : Int)) (3689348814741910323 : Int)))
  (1085102592571150095 : Int) /
  (2 : Int) ^ Int.toNat (8 : Int) +
  (uand
  ((uand ((uand (d.fst / (2 : Int) ^ Int.toNat (1 : Int)) (6148914691236517205 : Int) + uand d.fst (6148914691236517205 : Int)) / (2 : Int) ^ Int.toNat (2 : Int))
  (3689348814741910323 : Int) +
  uand (uand (d.fst / (2 : Int) ^ Int.toNat (1 : Int)) (6148914691236517205 : Int) + uand d.fst (6148914691236517205 : Int)) (3689348814741910323 : Int)) /
  (2 : Int) ^ Int.toNat (4 : Int) +
  (uand ((uand (d.fst / (2 : Int) ^ Int.toNat (1 : Int)) (6148914691236517205 : Int) + uand d.fst (6148914691236517205 : Int)) / (2 : Int) ^ Int.toNat (2 : Int))
  (3689348814741910323 : Int) +
  uand (uand (d.fst / (2 : Int) ^ Int.toNat (1 : Int)) (6148914691236517205 : Int) + uand d.fst (6148914691236517205 : Int)) (3689348814741910323 : Int)))
  (1085102592571150095 : Int) +
  uand
  ((uand ((uand (d.fst / (2 : Int) ^ Int.toNat (1 : Int)) (6148914691236517205 : Int) + uand d.fst (6148914691236517205 : Int)) / (2 : Int) ^ Int.toNat (2 : Int))
  (3689348814741910323 : Int) +
  uand (uand (d.fst / (2 : Int) ^ Int.toNat (1 : Int)) (6148914691236517205 : Int) + uand d.fst (6148914691236517205 : Int)) (3689348814741910323 : Int)) /
  (2 : Int) ^ Int.toNat (4 : Int) +
  (uand ((uand (d.fst / (2 : Int) ^ Int.toNat (1 : Int)) (6148914691236517205 : Int) + uand d.fst (6148914691236517205 : Int)) / (2 : Int) ^ Int.toNat (2 : Int))
  (3689348814741910323 : Int) +
  uand (uand (d.fst / (2 : Int) ^ Int.toNat (1 : Int)) (6148914691236517205 : Int) + uand d.fst (6148914691236517205 : Int)) (3689348814741910323 : Int)))
  (1085102592571150095 : Int) /
  (2 : Int) ^ Int.toNat (8 : Int)) /
  (2 : Int) ^ Int.toNat (16 : Int) +
  (uand
  ((uand ((uand (d.fst / (2 : Int) ^ Int.toNat (1 : Int)) (6148914691236517205 : Int) + uand d.fst (6148914691236517205 : Int)) / (2 : Int) ^ Int.toNat (2 : Int))
  (3689348814741910323 : Int) +
  uand (uand (d.fst / (2 : Int) ^ Int.toNat (1 : Int)) (6148914691236517205 : Int) + uand d.fst (6148914691236517205 : Int)) (3689348814741910323 : Int)) /
  (2 : Int) ^ Int.toNat (4 : Int) +
  (uand ((uand (d.fst / (2 : Int) ^ Int.toNat (1 : Int)) (6148914691236517205 : Int) + uand d.fst (6148914691236517205 : Int)) / (2 : Int) ^ Int.toNat (2 : Int))
  (3689348814741910323 : Int) +
  uand (uand (d.fst / (2 : Int) ^ Int.toNat (1 : Int)) (6148914691236517205 : Int) + uand d.fst (6148914691236517205 : Int)) (3689348814741910323 : Int)))
  (1085102592571150095 : Int) +
  uand
  ((uand ((uand (d.fst / (2 : Int) ^ Int.toNat (1 : Int)) (6148914691236517205 : Int) + uand d.fst (6148914691236517205 : Int)) / (2 : Int) ^ Int.toNat (2 : Int))
  (3689348814741910323 : Int) +
  uand (uand (d.fst / (2 : Int) ^ Int.toNat (1 : Int)) (6148914691236517205 : Int) + uand d.fst (6148914691236517205 : Int)) (3689348814741910323 : Int)) /
  (2 : Int) ^ Int.toNat (4 : Int) +
  (uand ((uand (d.fst / (2 : Int) ^ Int.toNat (1 : Int)) (6148914691236517205 : Int) + uand d.fst (6148914691236517205 : Int)) / (2 : Int) ^ Int.toNat (2 : Int))
  (3689348814741910323 : Int) +
  uand (uand (d.fst / (2 : Int) ^ Int.toNat (1 : Int)) (6148914691236517205 : Int) + uand d.fst (6148914691236517205 : Int)) (3689348814741910323 : Int)))
  (1085102592571150095 : Int) /
  (2 : Int) ^ Int.toNat (8 : Int) +
  (uand
  ((uand ((uand (d.fst / (2 : Int) ^ Int.toNat (1 : Int)) (6148914691236517205 : Int) + uand d.fst (6148914691236517205 : Int)) / (2 : Int) ^ Int.toNat (2 : Int))
  (3689348814741910323 : Int) +
  uand (uand (d.fst / (2 : Int) ^ Int.toNat (1 : Int)) (6148914691236517205 : Int) + uand d.fst (6148914691236517205 : Int)) (3689348814741910323 : Int)) /
  (2 : Int) ^ Int.toNat (4 : Int) +
  (uand ((uand (d.fst / (2 : Int) ^ Int.toNat (1 : Int)) (6148914691236517205 : Int) + uand d.fst (6148914691236517205 : Int)) / (2 : Int) ^ Int.toNat (2 : Int))
  (3689348814741910323 : Int) +
  uand (uand (d.fst / (2 : Int) ^ Int.toNat (1 : Int)) (6148914691236517205 : Int) + uand d.fst (6148914691236517205 : Int)) (3689348814741910323 : Int)))
  (1085102592571150095 : Int) +
  uand
  ((uand ((uand (d.fst / (2 : Int) ^ Int.toNat (1 : Int)) (6148914691236517205 : Int) + uand d.fst (6148914691236517205 : Int)) / (2 : Int) ^ Int.toNat (2 : Int))
  (3689348814741910323 : Int) +
  uand (uand (d.fst / (2 : Int) ^ Int.toNat (1 : Int)) (6148914691236517205 : Int) + uand d.fst (6148914691236517205 : Int)) (3689348814741910323 : Int)) /
  (2 : Int) ^ Int.toNat (4 : Int) +
  (uand ((uand (d.fst / (2 : Int) ^ Int.toNat (1 : Int)) (6148914691236517205 : Int) + uand d.fst (6148914691236517205 : Int)) / (2 : Int) ^ Int.toNat (2 : Int))
  (3689348814741910323 : Int) +
  uand (uand (d.fst / (2 : Int) ^ Int.toNat (1 : Int)) (6148914691236517205 : Int) + uand d.fst (6148914691236517205 : Int)) (3689348814741910323 : Int)))
  (1085102592571150095 : Int) /
  (2 : Int) ^ Int.toNat (8 : Int)) /
  (2 : Int) ^ Int.toNat (16 : Int)) /
  (2 : Int) ^ Int.toNat (32 : Int) ∧
  uand
  ((uand ((uand (d.fst / (2 : Int) ^ Int.toNat (1 : Int)) (6148914691236517205 : Int) + uand d.fst (6148914691236517205 : Int)) / (2 : Int) ^ Int.toNat (2 : Int))
  (3689348814741910323 : Int) +
  uand (uand (d.fst / (2 : Int) ^ Int.toNat (1 : Int)) (6148914691236517205 : Int) + uand d.fst (6148914691236517205 : Int)) (3689348814741910323 : Int)) /
  (2 : Int) ^ Int.toNat (4 : Int) +
  (uand ((uand (d.fst / (2 : Int) ^ Int.toNat (1 : Int)) (6148914691236517205 : Int) + uand d.fst (6148914691236517205 : Int)) / (2 : Int) ^ Int.toNat (2 : Int))
  (3689348814741910323 : Int) +
  uand (uand (d.fst / (2 : Int) ^ Int.toNat (1 : Int)) (6148914691236517205 : Int) + uand d.fst (6148914691236517205 : Int)) (3689348814741910323 : Int)))
  (1085102592571150095 : Int) +
  uand
  ((uand ((uand (d.fst / (2 : Int) ^ Int.toNat (1 : Int)) (6148914691236517205 : Int) + uand d.fst (6148914691236517205 : Int)) / (2 : Int) ^ Int.toNat (2 : Int))
  (3689348814741910323 : Int) +
  uand (uand (d.fst / (2 : Int) ^ Int.toNat (1 : Int)) (6148914691236517205 : Int) + uand d.fst (6148914691236517205 : Int)) (3689348814741910323 : Int)) /
  (2 : Int) ^ Int.toNat (4 : Int) +
  (uand ((uand (d.fst / (2 : Int) ^ Int.toNat (1 : Int)) (6148914691236517205 : Int) + uand d.fst (6148914691236517205 : Int)) / (2 : Int) ^ Int.toNat (2 : Int))
  (3689348814741910323 : Int) +
  uand (uand (d.fst / (2 : Int) ^ Int.toNat (1 : Int)) (6148914691236517205 : Int) + uand d.fst (6148914691236517205 : Int)) (3689348814741910323 : Int)))
  (1085102592571150095 : Int) /
  (2 : Int) ^ Int.toNat (8 : Int) +
  (uand
  ((uand ((uand (d.fst / (2 : Int) ^ Int.toNat (1 : Int)) (6148914691236517205 : Int) + uand d.fst (6148914691236517205 : Int)) / (2 : Int) ^ Int.toNat (2 : Int))
  (3689348814741910323 : Int) +
  uand (uand (d.fst / (2 : Int) ^ Int.toNat (1 : Int)) (6148914691236517205 : Int) + uand d.fst (6148914691236517205 : Int)) (3689348814741910323 : Int)) /
  (2 : Int) ^ Int.toNat (4 : Int) +
  (uand ((uand (d.fst / (2 : Int) ^ Int.toNat (1 : Int)) (6148914691236517205 : Int) + uand d.fst (6148914691236517205 : Int)) / (2 : Int) ^ Int.toNat (2 : Int))
  (3689348814741910323 : Int) +
  uand (uand (d.fst / (2 : Int) ^ Int.toNat (1 : Int)) (6148914691236517205 : Int) + uand d.fst (6148914691236517205 : Int)) (3689348814741910323 : Int)))
  (1085102592571150095 : Int) +
  uand
  ((uand ((uand (d.fst / (2 : Int) ^ Int.toNat (1 : Int)) (6148914691236517205 : Int) + uand d.fst (6148914691236517205 : Int)) / (2 : Int) ^ Int.toNat (2 : Int))
  (3689348814741910323 : Int) +
  uand (uand (d.fst / (2 : Int) ^ Int.toNat (1 : Int)) (6148914691236517205 : Int) + uand d.fst (6148914691236517205 : Int)) (3689348814741910323 : Int)) /
  (2 : Int) ^ Int.toNat (4 : Int) +
  (uand ((uand (d.fst / (2 : Int) ^ Int.toNat (1 : Int)) (6148914691236517205 : Int) + uand d.fst (6148914691236517205 : Int)) / (2 : Int) ^ Int.toNat (2 : Int))
  (3689348814741910323 : Int) +
  uand (uand (d.fst / (2 : Int) ^ Int.toNat (1 : Int)) (6148914691236517205 : Int) + uand d.fst (6148914691236517205 : Int)) (3689348814741910323 : Int)))
  (1085102592571150095 : Int) /
  (2 : Int) ^ Int.toNat (8 : Int)) /
  (2 : Int) ^ Int.toNat (16 : Int) +
  (uand
  ((uand ((uand (d.fst / (2 : Int) ^ Int.toNat (1 : Int)) (6148914691236517205 : Int) + uand d.fst (6148914691236517205 : Int)) / (2 : Int) ^ Int.toNat (2 : Int))
  (3689348814741910323 : Int) +
  uand (uand (d.fst / (2 : Int) ^ Int.toNat (1 : Int)) (6148914691236517205 : Int) + uand d.fst (6148914691236517205 : Int)) (3689348814741910323 : Int)) /
  (2 : Int) ^ Int.toNat (4 : Int) +
  (uand ((uand (d.fst / (2 : Int) ^ Int.toNat (1 : Int)) (6148914691236517205 : Int) + uand d.fst (6148914691236517205 : Int)) / (2 : Int) ^ Int.toNat (2 : Int))
  (3689348814741910323 : Int) +
  uand (uand (d.fst / (2 : Int) ^ Int.toNat (1 : Int)) (6148914691236517205 : Int) + uand d.fst (6148914691236517205 : Int)) (3689348814741910323 : Int)))
  (1085102592571150095 : Int) +
  uand
  ((uand ((uand (d.fst / (2 : Int) ^ Int.toNat (1 : Int)) (6148914691236517205 : Int) + uand d.fst (6148914691236517205 : Int)) / (2 : Int) ^ Int.toNat (2 : Int))
  (3689348814741910323 : Int) +
  uand (uand (d.fst / (2 : Int) ^ Int.toNat (1 : Int)) (6148914691236517205 : Int) + uand d.fst (6148914691236517205 : Int)) (3689348814741910323 : Int)) /
  (2 : Int) ^ Int.toNat (4 : Int) +
  (uand ((uand (d.fst / (2 : Int) ^ Int.toNat (1 : Int)) (6148914691236517205 : Int) + uand d.fst (6148914691236517205 : Int)) / (2 : Int) ^ Int.toNat (2 : Int))
  (3689348814741910323 : Int) +
  uand (uand (d.fst / (2 : Int) ^ Int.toNat (1 : Int)) (6148914691236517205 : Int) + uand d.fst (6148914691236517205 : Int)) (3689348814741910323 : Int)))
  (1085102592571150095 : Int) /
  (2 : Int) ^ Int.toNat (8 : Int) +
  (uand
  ((uand ((uand (d.fst / (2 : Int) ^ Int.toNat (1 : Int)) (6148914691236517205 : Int) + uand d.fst (6148914691236517205 : Int)) / (2 : Int) ^ Int.toNat (2 : Int))
  (3689348814741910323 : Int) +
  uand (uand (d.fst / (2 : Int) ^ Int.toNat (1 : Int)) (6148914691236517205 : Int) + uand d.fst (6148914691236517205 : Int)) (3689348814741910323 : Int)) /
  (2 : Int) ^ Int.toNat (4 : Int) +
  (uand ((uand (d.fst / (2 : Int) ^ Int.toNat (1 : Int)) (6148914691236517205 : Int) + uand d.fst (6148914691236517205 : Int)) / (2 : Int) ^ Int.toNat (2 : Int))
  (3689348814741910323 : Int) +
  uand (uand (d.fst / (2 : Int) ^ Int.toNat (1 : Int)) (6148914691236517205 : Int) + uand d.fst (6148914691236517205 : Int)) (3689348814741910323 : Int)))
  (1085102592571150095 : Int) +
  uand
  ((uand ((uand (d.fst / (2 : Int) ^ Int.toNat (1 : Int)) (6148914691236517205 : Int) + uand d.fst (6148914691236517205 : Int)) / (2 : Int) ^ Int.toNat (2 : Int))
  (3689348814741910323 : Int) +
  uand (uand (d.fst / (2 : Int) ^ Int.toNat (1 : Int)) (6148914691236517205 : Int) + uand d.fst (6148914691236517205 : Int)) (3689348814741910323 : Int)) /
  (2 : Int) ^ Int.toNat (4 : Int) +
  (uand ((uand (d.fst / (2 : Int) ^ Int.toNat (1 : Int)) (6148914691236517205 : Int) + uand d.fst (6148914691236517205 : Int)) / (2 : Int) ^ Int.toNat (2 : Int))
  (3689348814741910323 : Int) +
  uand (uand (d.fst / (2 : Int) ^ Int.toNat (1 : Int)) (6148914691236517205 : Int) + uand d.fst (6148914691236517205 : Int)) (3689348814741910323 : Int)))
  (1085102592571150095 : Int) /
  (2 : Int) ^ Int.toNat (8 : Int)) /
  (2 : Int) ^ Int.toNat (16 : Int)) /
  (2 : Int) ^ Int.toNat (32 : Int) ≤
  (18446744073709551615 : Int) ∧
  In64
  (uand
  ((uand ((uand (d.fst / (2 : Int) ^ Int.toNat (1 : Int)) (6148914691236517205 : Int) + uand d.fst (6148914691236517205 : Int)) / (2 : Int) ^ Int.toNat (2 : Int))
  (3689348814741910323 : Int) +
  uand (uand (d.fst / (2 : Int) ^ Int.toNat (1 : Int)) (6148914691236517205 : Int) + uand d.fst (6148914691236517205 : Int)) (3689348814741910323 : Int)) /
  (2 : Int) ^ Int.toNat (4 : Int) +
  (uand ((uand (d.fst / (2 : Int) ^ Int.toNat (1 : Int)) (6148914691236517205 : Int) + uand d.fst (6148914691236517205 : Int)) / (2 : Int) ^ Int.toNat (2 : Int))
  (3689348814741910323 : Int) +
  uand (uand (d.fst / (2 : Int) ^ Int.toNat (1 : Int)) (6148914691236517205 : Int) + uand d.fst (6148914691236517205 : Int)) (3689348814741910323 : Int)))
  (1085102592571150095 : Int) +
  uand
  ((uand ((uand (d.fst / (2 : Int) ^ Int.toNat (1 : Int)) (6148914691236517205 : Int) + uand d.fst (6148914691236517205 : Int)) / (2 : Int) ^ Int.toNat (2 : Int))
  (3689348814741910323 : Int) +
  uand (uand (d.fst / (2 : Int) ^ Int.toNat (1 : Int)) (6148914691236517205 : Int) + uand d.fst (6148914691236517205 : Int)) (3689348814741910323 : Int)) /
  (2 : Int) ^ Int.toNat (4 : Int) +
  (uand ((uand (d.fst / (2 : Int) ^ Int.toNat (1 : Int)) (6148914691236517205 : Int) + uand d.fst (6148914691236517205 : Int)) / (2 : Int) ^ Int.toNat (2 : Int))
  (3689348814741910323 : Int) +
  uand (uand (d.fst / (2 : Int) ^ Int.toNat (1 : Int)) (6148914691236517205 : Int) + uand d.fst (6148914691236517205 : Int)) (3689348814741910323 : Int)))
  (1085102592571150095 : Int) /
  (2 : Int) ^ Int.toNat (8 : Int) +
  (uand
  ((uand ((uand (d.fst / (2 : Int) ^ Int.toNat (1 : Int)) (6148914691236517205 : Int) + uand d.fst (6148914691236517205 : Int)) / (2 : Int) ^ Int.toNat (2 : Int))
  (3689348814741910323 : Int) +
  uand (uand (d.fst / (2 : Int) ^ Int.toNat (1 : Int)) (6148914691236517205 : Int) + uand d.fst (6148914691236517205 : Int)) (3689348814741910323 : Int)) /
  (2 : Int) ^ Int.toNat (4 : Int) +
  (uand ((uand (d.fst / (2 : Int) ^ Int.toNat (1 : Int)) (6148914691236517205 : Int) + uand d.fst (6148914691236517205 : Int)) / (2 : Int) ^ Int.toNat (2 : Int))
  (3689348814741910323 : Int) +
  uand (uand (d.fst / (2 : Int) ^ Int.toNat (1 : Int)) (6148914691236517205 : Int) + uand d.fst (6148914691236517205 : Int)) (3689348814741910323 : Int)))
  (1085102592571150095 : Int) +
  uand
  ((uand ((uand (d.fst / (2 : Int) ^ Int.toNat (1 : Int)) (6148914691236517205 : Int) + uand d.fst (6148914691236517205 : Int)) / (2 : Int) ^ Int.toNat (2 : Int))
  (3689348814741910323 : Int) +
  uand (uand (d.fst / (2 : Int) ^ Int.toNat (1 : Int)) (6148914691236517205 : Int) + uand d.fst (6148914691236517205 : Int)) (3689348814741910323 : Int)) /
  (2 : Int) ^ Int.toNat (4 : Int) +
  (uand ((uand (d.fst / (2 : Int) ^ Int.toNat (1 : Int)) (6148914691236517205 : Int) + uand d.fst (6148914691236517205 : Int)) / (2 : Int) ^ Int.toNat (2 : Int))
  (3689348814741910323 : Int) +
  uand (uand (d.fst / (2 : Int) ^ Int.toNat (1 : Int)) (6148914691236517205 : Int) + uand d.fst (6148914691236517205 : Int)) (3689348814741910323 : Int)))
  (1085102592571150095 : Int) /
  (2 : Int) ^ Int.toNat (8 : Int)) /
  (2 : Int) ^ Int.toNat (16 : Int) +
  (uand
  ((uand ((uand (d.fst / (2 : Int) ^ Int.toNat (1 : Int)) (6148914691236517205 : Int) + uand d.fst (6148914691236517205 : Int)) / (2 : Int) ^ Int.toNat (2 : Int))
  (3689348814741910323 : Int) +
  uand (uand (d.fst / (2 : Int) ^ Int.toNat (1 : Int)) (6148914691236517205 : Int) + uand d.fst (6148914691236517205 : Int)) (3689348814741910323 : Int)) /
  (2 : Int) ^ Int.toNat (4 : Int) +
  (uand ((uand (d.fst / (2 : Int) ^ Int.toNat (1 : Int)) (6148914691236517205 : Int) + uand d.fst (6148914691236517205 : Int)) / (2 : Int) ^ Int.toNat (2 : Int))
  (3689348814741910323 : Int) +
  uand (uand (d.fst / (2 : Int) ^ Int.toNat (1 : Int)) (6148914691236517205 : Int) + uand d.fst (6148914691236517205 : Int)) (3689348814741910323 : Int)))
  (1085102592571150095 : Int) +
  uand
  ((uand ((uand (d.fst / (2 : Int) ^ Int.toNat (1 : Int)) (6148914691236517205 : Int) + uand d.fst (6148914691236517205 : Int)) / (2 : Int) ^ Int.toNat (2 : Int))
  (3689348814741910323 : Int) +
  uand (uand (d.fst / (2 : Int) ^ Int.toNat (1 : Int)) (6148914691236517205 : Int) + uand d.fst (6148914691236517205 : Int)) (3689348814741910323 : Int)) /
  (2 : Int) ^ Int.toNat (4 : Int) +
  (uand ((uand (d.fst / (2 : Int) ^ Int.toNat (1 : Int)) (6148914691236517205 : Int) + uand d.fst (6148914691236517205 : Int)) / (2 : Int) ^ Int.toNat (2 : Int))
  (3689348814741910323 : Int) +
  uand (uand (d.fst / (2 : Int) ^ Int.toNat (1 : Int)) (6148914691236517205 : Int) + uand d.fst (6148914691236517205 : Int)) (3689348814741910323 : Int)))
  (1085102592571150095 : Int) /
  (2 : Int) ^ Int.toNat (8 : Int) +
  (uand
  ((uand ((uand (d.fst / (2 : Int) ^ Int.toNat (1 : Int)) (6148914691236517205 : Int) + uand d.fst (6148914691236517205 : Int)) / (2 : Int) ^ Int.toNat (2 : Int))
  (3689348814741910323 : Int) +
  uand (uand (d.fst / (2 : Int) ^ Int.toNat (1 : Int)) (6148914691236517205 : Int) + uand d.fst (6148914691236517205 : Int)) (3689348814741910323 : Int)) /
  (2 : Int) ^ Int.toNat (4 : Int) +
  (uand ((uand (d.fst / (2 : Int) ^ Int.toNat (1 : Int)) (6148914691236517205 : Int) + uand d.fst (6148914691236517205 : Int)) / (2 : Int) ^ Int.toNat (2 : Int))
  (3689348814741910323 : Int) +
  uand (uand (d.fst / (2 : Int) ^ Int.toNat (1 : Int)) (6148914691236517205 : Int) + uand d.fst (6148914691236517205 : Int)) (3689348814741910323 : Int)))
  (1085102592571150095 : Int) +
  uand
  ((uand ((uand (d.fst / (2 : Int) ^ Int.toNat (1 : Int)) (6148914691236517205 : Int) + uand d.fst (6148914691236517205 : Int)) / (2 : Int) ^ Int.toNat (2 : Int))
  (3689348814741910323 : Int) +
  uand (uand (d.fst / (2 : Int) ^ Int.toNat (1 : Int)) (6148914691236517205 : Int) + uand d.fst (6148914691236517205 : Int)) (3689348814741910323 : Int)) /
  (2 : Int) ^ Int.toNat (4 : Int) +
  (uand ((uand (d.fst / (2 : Int) ^ Int.toNat (1 : Int)) (6148914691236517205 : Int) + uand d.fst (6148914691236517205 : Int)) / (2 : Int) ^ Int.toNat (2 : Int))
  (3689348814741910323 : Int) +
  uand (uand (d.fst / (2 : Int) ^ Int.toNat (1 : Int)) (6148914691236517205 : Int) + uand d.fst (6148914691236517205 : Int)) (3689348814741910323 : Int)))
  (1085102592571150095 : Int) /
  (2 : Int) ^ Int.toNat (8 : Int)) /
  (2 : Int) ^ Int.toNat (16 : Int)) /
  (2 : Int) ^ Int.toNat (32 : Int)) ∧
  (band
  (uand
  ((uand ((uand (d.fst / (2 : Int) ^ Int.toNat (1 : Int)) (6148914691236517205 : Int) + uand d.fst (6148914691236517205 : Int)) / (2 : Int) ^ Int.toNat (2 : Int))
  (3689348814741910323 : Int) +
  uand (uand (d.fst / (2 : Int) ^ Int.toNat (1 : Int)) (6148914691236517205 : Int) + uand d.fst (6148914691236517205 : Int)) (3689348814741910323 : Int)) /
  (2 : Int) ^ Int.toNat (4 : Int) +
  (uand ((uand (d.fst / (2 : Int) ^ Int.toNat (1 : Int)) (6148914691236517205 : Int) + uand d.fst (6148914691236517205 : Int)) / (2 : Int) ^ Int.toNat (2 : Int))
  (3689348814741910323 : Int) +
  uand (uand (d.fst / (2 : Int) ^ Int.toNat (1 : Int)) (6148914691236517205 : Int) + uand d.fst (6148914691236517205 : Int)) (3689348814741910323 : Int)))
  (1085102592571150095 : Int) +
  uand
  ((uand ((uand (d.fst / (2 : Int) ^ Int.toNat (1 : Int)) (6148914691236517205 : Int) + uand d.fst (6148914691236517205 : Int)) / (2 : Int) ^ Int.toNat (2 : Int))
  (3689348814741910323 : Int) +
  uand (uand (d.fst / (2 : Int) ^ Int.toNat (1 : Int)) (6148914691236517205 : Int) + uand d.fst (6148914691236517205 : Int)) (3689348814741910323 : Int)) /
  (2 : Int) ^ Int.toNat (4 : Int) +
  (uand ((uand (d.fst / (2 : Int) ^ Int.toNat (1 : Int)) (6148914691236517205 : Int) + uand d.fst (6148914691236517205 : Int)) / (2 : Int) ^ Int.toNat (2 : Int))
  (3689348814741910323 : Int) +
  uand (uand (d.fst / (2 : Int) ^ Int.toNat (1 : Int)) (6148914691236517205 : Int) + uand d.fst (6148914691236517205 : Int)) (3689348814741910323 : Int)))
  (1085102592571150095 : Int) /
  (2 : Int) ^ Int.toNat (8 : Int) +
  (uand
  ((uand ((uand (d.fst / (2 : Int) ^ Int.toNat (1 : Int)) (6148914691236517205 : Int) + uand d.fst (6148914691236517205 : Int)) / (2 : Int) ^ Int.toNat (2 : Int))
  (3689348814741910323 : Int) +
  uand (uand (d.fst / (2 : Int) ^ Int.toNat (1 : Int)) (6148914691236517205 : Int) + uand d.fst (6148914691236517205 : Int)) (3689348814741910323 : Int)) /
  (2 : Int) ^ Int.toNat (4 : Int) +
  (uand ((uand (d.fst / (2 : Int) ^ Int.toNat (1 : Int)) (6148914691236517205 : Int) + uand d.fst (6148914691236517205 : Int)) / (2 : Int) ^ Int.toNat (2 : Int))
  (3689348814741910323 : Int) +
  uand (uand (d.fst / (2 : Int) ^ Int.toNat (1 : Int)) (6148914691236517205 : Int) + uand d.fst (6148914691236517205 : Int)) (3689348814741910323 : Int)))
  (1085102592571150095 : Int) +
  uand
  ((uand ((uand (d.fst / (2 : Int) ^ Int.toNat (1 : Int)) (6148914691236517205 : Int) + uand d.fst (6148914691236517205 : Int)) / (2 : Int) ^ Int.toNat (2 : Int))
  (3689348814741910323 : Int) +
  uand (uand (d.fst / (2 : Int) ^ Int.toNat (1 : Int)) (6148914691236517205 : Int) + uand d.fst (6148914691236517205 : Int)) (3689348814741910323 : Int)) /
  (2 : Int) ^ Int.toNat (4 : Int) +
  (uand ((uand (d.fst / (2 : Int) ^ Int.toNat (1 : Int)) (6148914691236517205 : Int) + uand d.fst (6148914691236517205 : Int)) / (2 : Int) ^ Int.toNat (2 : Int))
  (3689348814741910323 : Int) +
  uand (uand (d.fst / (2 : Int) ^ Int.toNat (1 : Int)) (6148914691236517205 : Int) + uand d.fst (6148914691236517205 : Int)) (3689348814741910323 : Int)))
  (1085102592571150095 : Int) /
  (2 : Int) ^ Int.toNat (8 : Int)) /
  (2 : Int) ^ Int.toNat (16 : Int) +
  (uand
  ((uand ((uand (d.fst / (2 : Int) ^ Int.toNat (1 : Int)) (6148914691236517205 : Int) + uand d.fst (6148914691236517205 : Int)) / (2 : Int) ^ Int.toNat (2 : Int))
  (3689348814741910323 : Int) +
  uand (uand (d.fst / (2 : Int) ^ Int.toNat (1 : Int)) (6148914691236517205 : Int) + uand d.fst (6148914691236517205 : Int)) (3689348814741910323 : Int)) /
  (2 : Int) ^ Int.toNat (4 : Int) +
  (uand ((uand (d.fst / (2 : Int) ^ Int.toNat (1 : Int)) (6148914691236517205 : Int) + uand d.fst (6148914691236517205 : Int)) / (2 : Int) ^ Int.toNat (2 : Int))
  (3689348814741910323 : Int) +
  uand (uand (d.fst / (2 : Int) ^ Int.toNat (1 : Int)) (6148914691236517205 : Int) + uand d.fst (6148914691236517205 : Int)) (3689348814741910323 : Int)))
  (1085102592571150095 : Int) +
  uand
  ((uand ((uand (d.fst / (2 : Int) ^ Int.toNat (1 : Int)) (6148914691236517205 : Int) + uand d.fst (6148914691236517205 : Int)) / (2 : Int) ^ Int.toNat (2 : Int))
  (3689348814741910323 : Int) +
  uand (uand (d.fst / (2 : Int) ^ Int.toNat (1 : Int)) (6148914691236517205 : Int) + uand d.fst (6148914691236517205 : Int)) (3689348814741910323 : Int)) /
  (2 : Int) ^ Int.toNat (4 : Int) +
  (uand ((uand (d.fst / (2 : Int) ^ Int.toNat (1 : Int)) (6148914691236517205 : Int) + uand d.fst (6148914691236517205 : Int)) / (2 : Int) ^ Int.toNat (2 : Int))
  (3689348814741910323 : Int) +
  uand (uand (d.fst / (2 : Int) ^ Int.toNat (1 : Int)) (6148914691236517205 : Int) + uand d.fst (6148914691236517205 : Int)) (3689348814741910323 : Int)))
  (1085102592571150095 : Int) /
  (2 : Int) ^ Int.toNat (8 : Int) +
  (uand
  ((uand ((uand (d.fst / (2 : Int) ^ Int.toNat (1 : Int)) (6148914691236517205 : Int) + uand d.fst (6148914691236517205 : Int)) / (2 : Int) ^ Int.toNat (2 : Int))
  (3689348814741910323 : Int) +
  uand (uand (d.fst / (2 : Int) ^ Int.toNat (1 : Int)) (6148914691236517205 : Int) + uand d.fst (6148914691236517205 : Int)) (3689348814741910323 : Int)) /
  (2 : Int) ^ Int.toNat (4 : Int) +
  (uand ((uand (d.fst / (2 : Int) ^ Int.toNat (1 : Int)) (6148914691236517205 : Int) + uand d.fst (6148914691236517205 : Int)) / (2 : Int) ^ Int.toNat (2 : Int))
  (3689348814741910323 : Int) +
  uand (uand (d.fst / (2 : Int) ^ Int.toNat (1 : Int)) (6148914691236517205 : Int) + uand d.fst (6148914691236517205 : Int)) (3689348814741910323 : Int)))
  (1085102592571150095 : Int) +
  uand
  ((uand ((uand (d.fst / (2 : Int) ^ Int.toNat (1 : Int)) (6148914691236517205 : Int) + uand d.fst (6148914691236517205 : Int)) / (2 : Int) ^ Int.toNat (2 : Int))
  (3689348814741910323 : Int) +
  uand (uand (d.fst / (2 : Int) ^ Int.toNat (1 : Int)) (6148914691236517205 : Int) + uand d.fst (6148914691236517205 : Int)) (3689348814741910323 : Int)) /
  (2 : Int) ^ Int.toNat (4 : Int) +
  (uand ((uand (d.fst / (2 : Int) ^ Int.toNat (1 : Int)) (6148914691236517205 : Int) + uand d.fst (6148914691236517205 : Int)) / (2 : Int) ^ Int.toNat (2 : Int))
  (3689348814741910323 : Int) +
  uand (uand (d.fst / (2 : Int) ^ Int.toNat (1 : Int)) (6148914691236517205 : Int) + uand d.fst (6148914691236517205 : Int)) (3689348814741910323 : Int)))
  (1085102592571150095 : Int) /
  (2 : Int) ^ Int.toNat (8 : Int)) /
  (2 : Int) ^ Int.toNat (16 : Int)) /
  (2 : Int) ^ Int.toNat (32 : Int))
  (127 : Int),
  ()) =
  (U.size d.fst, ())

theorem vc88_eq : fnVC (ctx 35 [] []) (fun _ => none) Try.f88 (bodyOf Try.f88) sp88 = vc88 := by kernel_rfl

def sp75 : Spec := ⟨[.val (.uint .u64)], [.int], false, fun d => [0 ≤ d.1 ∧ d.1 < 1024], fun d => (U.size d.1, ())⟩
def vc75 : Prop :=
  ∀ (d : Int × Unit), (0 : Int) ≤ d.fst ∧ d.fst < (1024 : Int) → (false = true → False) ∧ (false = false → ((0 : Int) ≤ d.fst ∧ d.fst < (1024 : Int)) ∧ (U.size d.fst, ()) = (U.size d.fst, ()))

theorem vc75_eq : fnVC (ctx 8 [(88, sp88)] []) (fun _ => none) Try.f75 (bodyOf Try.f75) sp75 = vc75 := by kernel_rfl

def sp53 : Spec := ⟨[.val .int], [.int], false, fun d => [0 ≤ d.1 ∧ d.1 < 1024], fun d => (U.size d.1, ())⟩
def vc53 : Prop :=
  ∀ (d : Int × Unit), (0 : Int) ≤ d.fst ∧ d.fst < (1024 : Int) → (0 : Int) ≤ d.fst ∧ d.fst ≤ (18446744073709551615 : Int) ∧ ((0 : Int) ≤ d.fst ∧ d.fst < (1024 : Int)) ∧ (U.size d.fst, ()) = (U.size d.fst, ())

theorem vc53_eq : fnVC (ctx 6 [(75, sp75)] []) (fun _ => none) Try.f53 (bodyOf Try.f53) sp53 = vc53 := by kernel_rfl


def sp48 : Spec := ⟨[.val .int], [.bool], false, fun _ => [], fun d => (decide (0 ≤ d.1 ∧ d.1 < 8), ())⟩
def vc48 : Prop :=
  ∀ (d : Int × Unit), (decide ((0 : Int) ≤ d.fst) && decide (d.fst < (8 : Int)), ()) = (decide ((0 : Int) ≤ d.fst ∧ d.fst < (8 : Int)), ())

theorem vc48_eq : fnVC (ctx 9 [] []) (fun _ => none) Try.f48 (bodyOf Try.f48) sp48 = vc48 := by kernel_rfl

def sp44 : Spec := ⟨[.val tFs, .val .int], [.bool], false, fun _ => [], fun d => (decide (0 ≤ d.2.1 ∧ d.2.1 < d.1.1.1.length), ())⟩
def vc44 : Prop :=
  ∀ (d : ((List Int × Int × Unit) × Unit) × Int × Unit),
  (decide ((0 : Int) ≤ d.snd.fst) = true → d.fst.fst.fst.length < (4611686018427387904 : Nat)) →
  (decide ((0 : Int) ≤ d.snd.fst) && decide (d.snd.fst < (↑d.fst.fst.fst.length : Int)), ()) = (decide ((0 : Int) ≤ d.snd.fst ∧ d.snd.fst < (↑d.fst.fst.fst.length : Int)), ())

theorem vc44_eq : fnVC (ctx 15 [] []) (fun _ => none) Try.f44 (bodyOf Try.f44) sp44 = vc44 := by kernel_rfl

def sp49 : Spec := ⟨[.val tG, .val tG], [.bool], false, fun _ => [], fun d => (U.common d.1 d.2.1, ())⟩
def vc49 : Prop :=
  ∀ (d : (Int × Int × Int × Int × Int × Int × Unit) × (Int × Int × Int × Int × Int × Int × Unit) × Unit),
  (decide (d.fst.snd.snd.fst = d.snd.fst.snd.snd.fst) && decide (max d.fst.snd.snd.snd.fst d.snd.fst.snd.snd.snd.fst < min d.fst.snd.snd.snd.snd.fst d.snd.fst.snd.snd.snd.snd.fst), ()) = (U.common d.fst d.snd.fst, ())

theorem vc49_eq : fnVC (ctx 23 [] []) (fun _ => none) Try.f49 (bodyOf Try.f49) sp49 = vc49 := by kernel_rfl


def sp91 : Spec := ⟨[.val (.slice .int)], [.int], false, fun _ => [], fun d => (U.firstNZ d.1, ())⟩
def an91 : Ann := fun r => match r with
  | 3 => some fun σ => { X := Nat, sl := fun i => [(8, .dat .int (i : Int))], ob := fun _ => [], inv := fun i => i ≤ (gd (.slice .int) σ 0).length ∧ ∀ n ∈ (gd (.slice .int) σ 0).take i, n = 0, mu := fun i => (gd (.slice .int) σ 0).length - i }
  | _ => none
def vc91 : Prop :=
  ∀ (d : List Int × Unit),
  d.fst.length < (4611686018427387904 : Nat) →
  (∃ (x : Nat), (((0 : Int) = (↑x : Int) ∧ True) ∧ True) ∧ x ≤ d.fst.length ∧ ∀ (n : Int), n ∈ List.take x d.fst → n = (0 : Int)) ∧
  ∀ (x : Nat),
  (x ≤ d.fst.length ∧ ∀ (n : Int), n ∈ List.take x d.fst → n = (0 : Int)) →
  (decide ((↑x : Int) < (↑d.fst.length : Int)) = true →
  (0 : Int) ≤ (↑x : Int) ∧
  (↑x : Int) < (↑d.fst.length : Int) ∧
  (decide (nth d.fst (↑x : Int).toNat ≠ (0 : Int)) = true → (nth d.fst (↑x : Int).toNat, ()) = (U.firstNZ d.fst, ())) ∧
  (decide (nth d.fst (↑x : Int).toNat ≠ (0 : Int)) = false →
  In64 ((↑x : Int) + (1 : Int)) ∧
  ∃ (x' : Nat), (((↑x : Int) + (1 : Int) = (↑x' : Int) ∧ True) ∧ True) ∧ (x' ≤ d.fst.length ∧ ∀ (n : Int), n ∈ List.take x' d.fst → n = (0 : Int)) ∧ d.fst.length - x' < d.fst.length - x)) ∧
  (decide ((↑x : Int) < (↑d.fst.length : Int)) = false → ((0 : Int), ()) = (U.firstNZ d.fst, ()))

theorem vc91_eq : fnVC (ctx 18 [] []) (an91) Try.f91 (bodyOf Try.f91) sp91 = vc91 := by kernel_rfl

def sp80 : Spec := ⟨[.val tG, .val tG], [.int], false, fun d => [U.small d.1 ∧ U.small d.2.1], fun d => (U.cmp d.1 d.2.1, ())⟩
def vc80 : Prop :=
  ∀ (d : (Int × Int × Int × Int × Int × Int × Unit) × (Int × Int × Int × Int × Int × Int × Unit) × Unit),
  U.small d.fst ∧ U.small d.snd.fst → In64 (d.fst.fst - d.snd.fst.fst) ∧ In64 (d.fst.snd.fst - d.snd.fst.snd.fst) ∧ (U.firstNZ [d.fst.fst - d.snd.fst.fst, d.fst.snd.fst - d.snd.fst.snd.fst], ()) = (U.cmp d.fst d.snd.fst, ())

theorem vc80_eq : fnVC (ctx 17 [(91, sp91)] []) (fun _ => none) Try.f80 (bodyOf Try.f80) sp80 = vc80 := by kernel_rfl


def sp81 : Spec := ⟨[.val (.slice .int)], [.int], false, fun d => [d.1 ≠ []], fun d => (d.1.foldl min (nth d.1 0), ())⟩
def an81 : Ann := fun r => match r with
  | 5 => some fun σ => { X := Nat, sl := fun i => [(3, .dat .int (U.minTo (gd (.slice .int) σ 0) i)), (4, .dat .int (i : Int))], ob := fun _ => [], inv := fun i => i ≤ (gd (.slice .int) σ 0).length ∧ 1 ≤ i, mu := fun i => (gd (.slice .int) σ 0).length - i }
  | _ => none
def vc81 : Prop :=
  ∀ (d : List Int × Unit),
  d.fst ≠ [] →
  d.fst.length < (4611686018427387904 : Nat) →
  (decide ((↑d.fst.length : Int) < (1 : Int)) = true → False) ∧
  (decide ((↑d.fst.length : Int) < (1 : Int)) = false →
  (0 : Int) ≤ (0 : Int) ∧
  (0 : Int) < (↑d.fst.length : Int) ∧
  (∃ (x : Nat), ((nth d.fst (Int.toNat (0 : Int)) = U.minTo d.fst x ∧ (1 : Int) = (↑x : Int) ∧ True) ∧ True) ∧ x ≤ d.fst.length ∧ (1 : Nat) ≤ x) ∧
  ∀ (x : Nat),
  x ≤ d.fst.length ∧ (1 : Nat) ≤ x →
  d.fst.length < (4611686018427387904 : Nat) →
  (decide ((↑x : Int) < (↑d.fst.length : Int)) = true →
  (0 : Int) ≤ (↑x : Int) ∧
  (↑x : Int) < (↑d.fst.length : Int) ∧
  In64 ((↑x : Int) + (1 : Int)) ∧
  ∃ (x' : Nat),
  (((↑x : Int) + (1 : Int) = (↑x' : Int) ∧ min (U.minTo d.fst x) (nth d.fst (↑x : Int).toNat) = U.minTo d.fst x' ∧ True) ∧ True) ∧
  (x' ≤ d.fst.length ∧ (1 : Nat) ≤ x') ∧ d.fst.length - x' < d.fst.length - x) ∧
  (decide ((↑x : Int) < (↑d.fst.length : Int)) = false → (U.minTo d.fst x, ()) = (List.foldl min (nth d.fst (0 : Nat)) d.fst, ())))

theorem vc81_eq : fnVC (ctx 25 [] []) (an81) Try.f81 (bodyOf Try.f81) sp81 = vc81 := by kernel_rfl

def sp82 : Spec := ⟨[.val (.slice .int)], [.int], false, fun d => [d.1 ≠ []], fun d => (d.1.foldl max (nth d.1 0), ())⟩
def an82 : Ann := fun r => match r with
  | 5 => some fun σ => { X := Nat, sl := fun i => [(3, .dat .int (U.maxTo (gd (.slice .int) σ 0) i)), (4, .dat .int (i : Int))], ob := fun _ => [], inv := fun i => i ≤ (gd (.slice .int) σ 0).length ∧ 1 ≤ i, mu := fun i => (gd (.slice .int) σ 0).length - i }
  | _ => none
def vc82 : Prop :=
  ∀ (d : List Int × Unit),
  d.fst ≠ [] →
  d.fst.length < (4611686018427387904 : Nat) →
  (decide ((↑d.fst.length : Int) < (1 : Int)) = true → False) ∧
  (decide ((↑d.fst.length : Int) < (1 : Int)) = false →
  (0 : Int) ≤ (0 : Int) ∧
  (0 : Int) < (↑d.fst.length : Int) ∧
  (∃ (x : Nat), ((nth d.fst (Int.toNat (0 : Int)) = U.maxTo d.fst x ∧ (1 : Int) = (↑x : Int) ∧ True) ∧ True) ∧ x ≤ d.fst.length ∧ (1 : Nat) ≤ x) ∧
  ∀ (x : Nat),
  x ≤ d.fst.length ∧ (1 : Nat) ≤ x →
  d.fst.length < (4611686018427387904 : Nat) →
  (decide ((↑x : Int) < (↑d.fst.length : Int)) = true →
  (0 : Int) ≤ (↑x : Int) ∧
  (↑x : Int) < (↑d.fst.length : Int) ∧
  In64 ((↑x : Int) + (1 : Int)) ∧
  ∃ (x' : Nat),
  (((↑x : Int) + (1 : Int) = (↑x' : Int) ∧ max (U.maxTo d.fst x) (nth d.fst (↑x : Int).toNat) = U.maxTo d.fst x' ∧ True) ∧ True) ∧
  (x' ≤ d.fst.length ∧ (1 : Nat) ≤ x') ∧ d.fst.length - x' < d.fst.length - x) ∧
  (decide ((↑x : Int) < (↑d.fst.length : Int)) = false → (U.maxTo d.fst x, ()) = (List.foldl max (nth d.fst (0 : Nat)) d.fst, ())))

theorem vc82_eq : fnVC (ctx 25 [] []) (an82) Try.f82 (bodyOf Try.f82) sp82 = vc82 := by kernel_rfl

def sp61 : Spec := ⟨[.val tFs], [.bool], false, fun _ => [], fun d => (U.okFilms d.1.1, ())⟩
def vc61 : Prop :=
  ∀ (d : ((List Int × Int × Unit) × Unit) × Unit),
  d.fst.fst.fst.length < (4611686018427387904 : Nat) →
  ((decide ((↑d.fst.fst.fst.length : Int) < (1 : Int)) || decide ((4 : Int) < (↑d.fst.fst.fst.length : Int)) || decide (d.fst.fst.snd.fst < (1 : Int)) || decide ((10 : Int) < d.fst.fst.snd.fst)) = true →
  (false, ()) = (U.okFilms d.fst.fst, ())) ∧
  ((decide ((↑d.fst.fst.fst.length : Int) < (1 : Int)) || decide ((4 : Int) < (↑d.fst.fst.fst.length : Int)) || decide (d.fst.fst.snd.fst < (1 : Int)) || decide ((10 : Int) < d.fst.fst.snd.fst)) = false →
  d.fst.fst.fst ≠ [] ∧
  (decide ((1 : Int) ≤ List.foldl min (nth d.fst.fst.fst (0 : Nat)) d.fst.fst.fst) = true → d.fst.fst.fst ≠ []) ∧
  (decide ((1 : Int) ≤ List.foldl min (nth d.fst.fst.fst (0 : Nat)) d.fst.fst.fst) && decide (List.foldl max (nth d.fst.fst.fst (0 : Nat)) d.fst.fst.fst ≤ (200 : Int)), ()) = (U.okFilms d.fst.fst, ()))

theorem vc61_eq : fnVC (ctx 38 [(81, sp81), (82, sp82)] []) (fun _ => none) Try.f61 (bodyOf Try.f61) sp61 = vc61 := by kernel_rfl


def sp86 : Spec := ⟨[.val (.slice tG), .fn [tG] [.bool]], [.int], false, fun d => [∀ g ∈ d.1, U.allP (d.2.1.pre (g, ()))], fun d => (U.idx (U.apply d.2.1.F) d.1, ())⟩
def an86 : Ann := fun r => match r with
  | 2 => some fun σ => { X := Nat, sl := fun i => [(8, .dat .int (i : Int))], ob := fun _ => [], inv := fun i => i ≤ (gd (.slice tG) σ 0).length ∧ ∀ b : Nat, b < i → U.apply (gf σ 1) (nth (gd (.slice tG) σ 0) b) = false, mu := fun i => (gd (.slice tG) σ 0).length - i }
  | _ => none
def vc86 : Prop :=
  ∀ (d : List (Int × Int × Int × Int × Int × Int × Unit) × FnD [tG] [Ty.bool] × Unit),
  (∀ (g : Int × Int × Int × Int × Int × Int × Unit), g ∈ d.fst → U.allP (d.snd.fst.1 (g, ()))) →
  d.fst.length < (4611686018427387904 : Nat) →
  (∃ (x : Nat), (((0 : Int) = (↑x : Int) ∧ True) ∧ True) ∧ x ≤ d.fst.length ∧ ∀ (b : Nat), b < x → U.apply d.snd.fst.2 (nth d.fst b) = false) ∧
  ∀ (x : Nat),
  (x ≤ d.fst.length ∧ ∀ (b : Nat), b < x → U.apply d.snd.fst.2 (nth d.fst b) = false) →
  (decide ((↑x : Int) < (↑d.fst.length : Int)) = true →
  (0 : Int) ≤ (↑x : Int) ∧
  (↑x : Int) < (↑d.fst.length : Int) ∧
  asks (d.snd.fst.1 (nth d.fst (↑x : Int).toNat, ()))
  (((d.snd.fst.2 (nth d.fst (↑x : Int).toNat, ())).fst = true → ((↑x : Int), ()) = (U.idx (U.apply d.snd.fst.2) d.fst, ())) ∧
  ((d.snd.fst.2 (nth d.fst (↑x : Int).toNat, ())).fst = false →
  In64 ((↑x : Int) + (1 : Int)) ∧
  ∃ (x' : Nat), (((↑x : Int) + (1 : Int) = (↑x' : Int) ∧ True) ∧ True) ∧ (x' ≤ d.fst.length ∧ ∀ (b : Nat), b < x' → U.apply d.snd.fst.2 (nth d.fst b) = false) ∧ d.fst.length - x' < d.fst.length - x))) ∧
  (decide ((↑x : Int) < (↑d.fst.length : Int)) = false → ((-1 : Int), ()) = (U.idx (U.apply d.snd.fst.2) d.fst, ()))

theorem vc86_eq : fnVC (ctx 19 [] []) (an86) Try.f86 (bodyOf Try.f86) sp86 = vc86 := by kernel_rfl

def sp71 : Spec := ⟨[.val (.slice tG), .fn [tG] [.bool]], [.bool], false, fun d => [∀ g ∈ d.1, U.allP (d.2.1.pre (g, ()))], fun d => (d.1.any (U.apply d.2.1.F), ())⟩
def vc71 : Prop :=
  ∀ (d : List (Int × Int × Int × Int × Int × Int × Unit) × FnD [tG] [Ty.bool] × Unit),
  (∀ (g : Int × Int × Int × Int × Int × Int × Unit), g ∈ d.fst → U.allP (d.snd.fst.1 (g, ()))) →
  (∀ (g : Int × Int × Int × Int × Int × Int × Unit), g ∈ d.fst → U.allP (d.snd.fst.1 (g, ()))) ∧ (decide ((0 : Int) ≤ U.idx (U.apply d.snd.fst.2) d.fst), ()) = (d.fst.any (U.apply d.snd.fst.2), ())

theorem vc71_eq : fnVC (ctx 9 [(86, sp86)] []) (fun _ => none) Try.f71 (bodyOf Try.f71) sp71 = vc71 := by kernel_rfl


def sp84 : Spec := ⟨[.val tFs, .val tG], [.bool], false, fun d => [U.okFilms d.1.1 = true], fun d => (U.okGloss d.1.1 d.2.1, ())⟩
def vc84 : Prop :=
  ∀ (d : ((List Int × Int × Unit) × Unit) × (Int × Int × Int × Int × Int × Int × Unit) × Unit),
  U.okFilms d.fst.fst = true →
  ((!decide ((0 : Int) ≤ d.snd.fst.fst ∧ d.snd.fst.fst < (8 : Int))) = true →
  ((!decide ((0 : Int) ≤ d.snd.fst.fst ∧ d.snd.fst.fst < (8 : Int))) = true → (false, ()) = (U.okGloss d.fst.fst d.snd.fst, ())) ∧
  ((!decide ((0 : Int) ≤ d.snd.fst.fst ∧ d.snd.fst.fst < (8 : Int))) = false →
  (decide (d.snd.fst.snd.snd.snd.fst < (0 : Int)) = true →
  (decide (d.snd.fst.snd.snd.snd.fst < (0 : Int)) = true → (false, ()) = (U.okGloss d.fst.fst d.snd.fst, ())) ∧
  (decide (d.snd.fst.snd.snd.snd.fst < (0 : Int)) = false →
  (decide ((0 : Int) ≤ d.snd.fst.snd.snd.snd.snd.snd.fst) = true → (0 : Int) ≤ d.fst.fst.snd.fst) ∧
  (decide ((0 : Int) ≤ d.snd.fst.snd.snd.snd.snd.snd.fst) = true → d.fst.fst.snd.fst ≤ (64 : Int)) ∧
  (decide ((0 : Int) ≤ d.snd.fst.snd.snd.snd.snd.snd.fst) = true → In64 ((1 : Int) * (2 : Int) ^ d.fst.fst.snd.fst.toNat)) ∧
  (decide ((0 : Int) ≤ d.snd.fst.snd.snd.snd.snd.snd.fst) && decide (d.snd.fst.snd.snd.snd.snd.snd.fst < (1 : Int) * (2 : Int) ^ d.fst.fst.snd.fst.toNat), ()) = (U.okGloss d.fst.fst d.snd.fst, ()))) ∧
  (decide (d.snd.fst.snd.snd.snd.fst < (0 : Int)) = false →
  (decide (d.snd.fst.snd.snd.snd.snd.fst ≤ d.snd.fst.snd.snd.snd.fst) = true →
  (decide (d.snd.fst.snd.snd.snd.snd.fst ≤ d.snd.fst.snd.snd.snd.fst) = true → (false, ()) = (U.okGloss d.fst.fst d.snd.fst, ())) ∧
  (decide (d.snd.fst.snd.snd.snd.snd.fst ≤ d.snd.fst.snd.snd.snd.fst) = false →
  (decide ((0 : Int) ≤ d.snd.fst.snd.snd.snd.snd.snd.fst) = true → (0 : Int) ≤ d.fst.fst.snd.fst) ∧
  (decide ((0 : Int) ≤ d.snd.fst.snd.snd.snd.snd.snd.fst) = true → d.fst.fst.snd.fst ≤ (64 : Int)) ∧
  (decide ((0 : Int) ≤ d.snd.fst.snd.snd.snd.snd.snd.fst) = true → In64 ((1 : Int) * (2 : Int) ^ d.fst.fst.snd.fst.toNat)) ∧
  (decide ((0 : Int) ≤ d.snd.fst.snd.snd.snd.snd.snd.fst) && decide (d.snd.fst.snd.snd.snd.snd.snd.fst < (1 : Int) * (2 : Int) ^ d.fst.fst.snd.fst.toNat), ()) = (U.okGloss d.fst.fst d.snd.fst, ()))) ∧
  (decide (d.snd.fst.snd.snd.snd.snd.fst ≤ d.snd.fst.snd.snd.snd.fst) = false →
  (0 : Int) ≤ d.snd.fst.snd.snd.fst ∧
  d.snd.fst.snd.snd.fst < (↑d.fst.fst.fst.length : Int) ∧
  (decide (nth d.fst.fst.fst d.snd.fst.snd.snd.fst.toNat < d.snd.fst.snd.snd.snd.snd.fst) = true → (false, ()) = (U.okGloss d.fst.fst d.snd.fst, ())) ∧
  (decide (nth d.fst.fst.fst d.snd.fst.snd.snd.fst.toNat < d.snd.fst.snd.snd.snd.snd.fst) = false →
  (decide ((0 : Int) ≤ d.snd.fst.snd.snd.snd.snd.snd.fst) = true → (0 : Int) ≤ d.fst.fst.snd.fst) ∧
  (decide ((0 : Int) ≤ d.snd.fst.snd.snd.snd.snd.snd.fst) = true → d.fst.fst.snd.fst ≤ (64 : Int)) ∧
  (decide ((0 : Int) ≤ d.snd.fst.snd.snd.snd.snd.snd.fst) = true → In64 ((1 : Int) * (2 : Int) ^ d.fst.fst.snd.fst.toNat)) ∧
  (decide ((0 : Int) ≤ d.snd.fst.snd.snd.snd.snd.snd.fst) && decide (d.snd.fst.snd.snd.snd.snd.snd.fst < (1 : Int) * (2 : Int) ^ d.fst.fst.snd.fst.toNat), ()) = (U.okGloss d.fst.fst d.snd.fst, ())))))) ∧
  ((!decide ((0 : Int) ≤ d.snd.fst.fst ∧ d.snd.fst.fst < (8 : Int))) = false →
  (decide (d.snd.fst.snd.fst < (0 : Int)) = true →
  (decide (d.snd.fst.snd.fst < (0 : Int)) = true → (false, ()) = (U.okGloss d.fst.fst d.snd.fst, ())) ∧
  (decide (d.snd.fst.snd.fst < (0 : Int)) = false →
  (decide (d.snd.fst.snd.snd.snd.fst < (0 : Int)) = true →
  (decide (d.snd.fst.snd.snd.snd.fst < (0 : Int)) = true → (false, ()) = (U.okGloss d.fst.fst d.snd.fst, ())) ∧
  (decide (d.snd.fst.snd.snd.snd.fst < (0 : Int)) = false →
  (decide ((0 : Int) ≤ d.snd.fst.snd.snd.snd.snd.snd.fst) = true → (0 : Int) ≤ d.fst.fst.snd.fst) ∧
  (decide ((0 : Int) ≤ d.snd.fst.snd.snd.snd.snd.snd.fst) = true → d.fst.fst.snd.fst ≤ (64 : Int)) ∧
  (decide ((0 : Int) ≤ d.snd.fst.snd.snd.snd.snd.snd.fst) = true → In64 ((1 : Int) * (2 : Int) ^ d.fst.fst.snd.fst.toNat)) ∧
  (decide ((0 : Int) ≤ d.snd.fst.snd.snd.snd.snd.snd.fst) && decide (d.snd.fst.snd.snd.snd.snd.snd.fst < (1 : Int) * (2 : Int) ^ d.fst.fst.snd.fst.toNat), ()) = (U.okGloss d.fst.fst d.snd.fst, ()))) ∧
  (decide (d.snd.fst.snd.snd.snd.fst < (0 : Int)) = false →
  (decide (d.snd.fst.snd.snd.snd.snd.fst ≤ d.snd.fst.snd.snd.snd.fst) = true →
  (decide (d.snd.fst.snd.snd.snd.snd.fst ≤ d.snd.fst.snd.snd.snd.fst) = true → (false, ()) = (U.okGloss d.fst.fst d.snd.fst, ())) ∧
  (decide (d.snd.fst.snd.snd.snd.snd.fst ≤ d.snd.fst.snd.snd.snd.fst) = false →
  (decide ((0 : Int) ≤ d.snd.fst.snd.snd.snd.snd.snd.fst) = true → (0 : Int) ≤ d.fst.fst.snd.fst) ∧
  (decide ((0 : Int) ≤ d.snd.fst.snd.snd.snd.snd.snd.fst) = true → d.fst.fst.snd.fst ≤ (64 : Int)) ∧
  (decide ((0 : Int) ≤ d.snd.fst.snd.snd.snd.snd.snd.fst) = true → In64 ((1 : Int) * (2 : Int) ^ d.fst.fst.snd.fst.toNat)) ∧
  (decide ((0 : Int) ≤ d.snd.fst.snd.snd.snd.snd.snd.fst) && decide (d.snd.fst.snd.snd.snd.snd.snd.fst < (1 : Int) * (2 : Int) ^ d.fst.fst.snd.fst.toNat), ()) = (U.okGloss d.fst.fst d.snd.fst, ()))) ∧
  (decide (d.snd.fst.snd.snd.snd.snd.fst ≤ d.snd.fst.snd.snd.snd.fst) = false →
  (0 : Int) ≤ d.snd.fst.snd.snd.fst ∧
  d.snd.fst.snd.snd.fst < (↑d.fst.fst.fst.length : Int) ∧
  (decide (nth d.fst.fst.fst d.snd.fst.snd.snd.fst.toNat < d.snd.fst.snd.snd.snd.snd.fst) = true → (false, ()) = (U.okGloss d.fst.fst d.snd.fst, ())) ∧
  (decide (nth d.fst.fst.fst d.snd.fst.snd.snd.fst.toNat < d.snd.fst.snd.snd.snd.snd.fst) = false →
  (decide ((0 : Int) ≤ d.snd.fst.snd.snd.snd.snd.snd.fst) = true → (0 : Int) ≤ d.fst.fst.snd.fst) ∧
  (decide ((0 : Int) ≤ d.snd.fst.snd.snd.snd.snd.snd.fst) = true → d.fst.fst.snd.fst ≤ (64 : Int)) ∧
  (decide ((0 : Int) ≤ d.snd.fst.snd.snd.snd.snd.snd.fst) = true → In64 ((1 : Int) * (2 : Int) ^ d.fst.fst.snd.fst.toNat)) ∧
  (decide ((0 : Int) ≤ d.snd.fst.snd.snd.snd.snd.snd.fst) && decide (d.snd.fst.snd.snd.snd.snd.snd.fst < (1 : Int) * (2 : Int) ^ d.fst.fst.snd.fst.toNat), ()) = (U.okGloss d.fst.fst d.snd.fst, ())))))) ∧
  (decide (d.snd.fst.snd.fst < (0 : Int)) = false →
  (decide ((9999 : Int) < d.snd.fst.snd.fst) = true →
  (decide ((9999 : Int) < d.snd.fst.snd.fst) = true → (false, ()) = (U.okGloss d.fst.fst d.snd.fst, ())) ∧
  (decide ((9999 : Int) < d.snd.fst.snd.fst) = false →
  (decide (d.snd.fst.snd.snd.snd.fst < (0 : Int)) = true →
  (decide (d.snd.fst.snd.snd.snd.fst < (0 : Int)) = true → (false, ()) = (U.okGloss d.fst.fst d.snd.fst, ())) ∧
  (decide (d.snd.fst.snd.snd.snd.fst < (0 : Int)) = false →
  (decide ((0 : Int) ≤ d.snd.fst.snd.snd.snd.snd.snd.fst) = true → (0 : Int) ≤ d.fst.fst.snd.fst) ∧
  (decide ((0 : Int) ≤ d.snd.fst.snd.snd.snd.snd.snd.fst) = true → d.fst.fst.snd.fst ≤ (64 : Int)) ∧
  (decide ((0 : Int) ≤ d.snd.fst.snd.snd.snd.snd.snd.fst) = true → In64 ((1 : Int) * (2 : Int) ^ d.fst.fst.snd.fst.toNat)) ∧
  (decide ((0 : Int) ≤ d.snd.fst.snd.snd.snd.snd.snd.fst) && decide (d.snd.fst.snd.snd.snd.snd.snd.fst < (1 : Int) * (2 : Int) ^ d.fst.fst.snd.fst.toNat), ()) = (U.okGloss d.fst.fst d.snd.fst, ()))) ∧
  (decide (d.snd.fst.snd.snd.snd.fst < (0 : Int)) = false →
  (decide (d.snd.fst.snd.snd.snd.snd.fst ≤ d.snd.fst.snd.snd.snd.fst) = true →
  (decide (d.snd.fst.snd.snd.snd.snd.fst ≤ d.snd.fst.snd.snd.snd.fst) = true → (false, ()) = (U.okGloss d.fst.fst d.snd.fst, ())) ∧
  (decide (d.snd.fst.snd.snd.snd.snd.fst ≤ d.snd.fst.snd.snd.snd.fst) = false →
  (decide ((0 : Int) ≤ d.snd.fst.snd.snd.snd.snd.snd.fst) = true → (0 : Int) ≤ d.fst.fst.snd.fst) ∧
  (decide ((0 : Int) ≤ d.snd.fst.snd.snd.snd.snd.snd.fst) = true → d.fst.fst.snd.fst ≤ (64 : Int)) ∧
  (decide ((0 : Int) ≤ d.snd.fst.snd.snd.snd.snd.snd.fst) = true → In64 ((1 : Int) * (2 : Int) ^ d.fst.fst.snd.fst.toNat)) ∧
  (decide ((0 : Int) ≤ d.snd.fst.snd.snd.snd.snd.snd.fst) && decide (d.snd.fst.snd.snd.snd.snd.snd.fst < (1 : Int) * (2 : Int) ^ d.fst.fst.snd.fst.toNat), ()) = (U.okGloss d.fst.fst d.snd.fst, ()))) ∧
  (decide (d.snd.fst.snd.snd.snd.snd.fst ≤ d.snd.fst.snd.snd.snd.fst) = false →
  (0 : Int) ≤ d.snd.fst.snd.snd.fst ∧
  d.snd.fst.snd.snd.fst < (↑d.fst.fst.fst.length : Int) ∧
  (decide (nth d.fst.fst.fst d.snd.fst.snd.snd.fst.toNat < d.snd.fst.snd.snd.snd.snd.fst) = true → (false, ()) = (U.okGloss d.fst.fst d.snd.fst, ())) ∧
  (decide (nth d.fst.fst.fst d.snd.fst.snd.snd.fst.toNat < d.snd.fst.snd.snd.snd.snd.fst) = false →
  (decide ((0 : Int) ≤ d.snd.fst.snd.snd.snd.snd.snd.fst) = true → (0 : Int) ≤ d.fst.fst.snd.fst) ∧
  (decide ((0 : Int) ≤ d.snd.fst.snd.snd.snd.snd.snd.fst) = true → d.fst.fst.snd.fst ≤ (64 : Int)) ∧
  (decide ((0 : Int) ≤ d.snd.fst.snd.snd.snd.snd.snd.fst) = true → In64 ((1 : Int) * (2 : Int) ^ d.fst.fst.snd.fst.toNat)) ∧
  (decide ((0 : Int) ≤ d.snd.fst.snd.snd.snd.snd.snd.fst) && decide (d.snd.fst.snd.snd.snd.snd.snd.fst < (1 : Int) * (2 : Int) ^ d.fst.fst.snd.fst.toNat), ()) =
  (U.okGloss d.fst.fst d.snd.fst, ())))))) ∧
  (decide ((9999 : Int) < d.snd.fst.snd.fst) = false →
  ((!decide ((0 : Int) ≤ d.snd.fst.snd.snd.fst ∧ d.snd.fst.snd.snd.fst < (↑d.fst.fst.fst.length : Int))) = true → (false, ()) = (U.okGloss d.fst.fst d.snd.fst, ())) ∧
  ((!decide ((0 : Int) ≤ d.snd.fst.snd.snd.fst ∧ d.snd.fst.snd.snd.fst < (↑d.fst.fst.fst.length : Int))) = false →
  (decide (d.snd.fst.snd.snd.snd.fst < (0 : Int)) = true →
  (decide (d.snd.fst.snd.snd.snd.fst < (0 : Int)) = true → (false, ()) = (U.okGloss d.fst.fst d.snd.fst, ())) ∧
  (decide (d.snd.fst.snd.snd.snd.fst < (0 : Int)) = false →
  (decide ((0 : Int) ≤ d.snd.fst.snd.snd.snd.snd.snd.fst) = true → (0 : Int) ≤ d.fst.fst.snd.fst) ∧
  (decide ((0 : Int) ≤ d.snd.fst.snd.snd.snd.snd.snd.fst) = true → d.fst.fst.snd.fst ≤ (64 : Int)) ∧
  (decide ((0 : Int) ≤ d.snd.fst.snd.snd.snd.snd.snd.fst) = true → In64 ((1 : Int) * (2 : Int) ^ d.fst.fst.snd.fst.toNat)) ∧
  (decide ((0 : Int) ≤ d.snd.fst.snd.snd.snd.snd.snd.fst) && decide (d.snd.fst.snd.snd.snd.snd.snd.fst < (1 : Int) * (2 : Int) ^ d.fst.fst.snd.fst.toNat), ()) = (U.okGloss d.fst.fst d.snd.fst, ()))) ∧
  (decide (d.snd.fst.snd.snd.snd.fst < (0 : Int)) = false →
  (decide (d.snd.fst.snd.snd.snd.snd.fst ≤ d.snd.fst.snd.snd.snd.fst) = true →
  (decide (d.snd.fst.snd.snd.snd.snd.fst ≤ d.snd.fst.snd.snd.snd.fst) = true → (false, ()) = (U.okGloss d.fst.fst d.snd.fst, ())) ∧
  (decide (d.snd.fst.snd.snd.snd.snd.fst ≤ d.snd.fst.snd.snd.snd.fst) = false →
  (decide ((0 : Int) ≤ d.snd.fst.snd.snd.snd.snd.snd.fst) = true → (0 : Int) ≤ d.fst.fst.snd.fst) ∧
  (decide ((0 : Int) ≤ d.snd.fst.snd.snd.snd.snd.snd.fst) = true → d.fst.fst.snd.fst ≤ (64 : Int)) ∧
  (decide ((0 : Int) ≤ d.snd.fst.snd.snd.snd.snd.snd.fst) = true → In64 ((1 : Int) * (2 : Int) ^ d.fst.fst.snd.fst.toNat)) ∧
  (decide ((0 : Int) ≤ d.snd.fst.snd.snd.snd.snd.snd.fst) && decide (d.snd.fst.snd.snd.snd.snd.snd.fst < (1 : Int) * (2 : Int) ^ d.fst.fst.snd.fst.toNat), ()) = (U.okGloss d.fst.fst d.snd.fst, ()))) ∧
  (decide (d.snd.fst.snd.snd.snd.snd.fst ≤ d.snd.fst.snd.snd.snd.fst) = false →
  (0 : Int) ≤ d.snd.fst.snd.snd.fst ∧
  d.snd.fst.snd.snd.fst < (↑d.fst.fst.fst.length : Int) ∧
  (decide (nth d.fst.fst.fst d.snd.fst.snd.snd.fst.toNat < d.snd.fst.snd.snd.snd.snd.fst) = true → (false, ()) = (U.okGloss d.fst.fst d.snd.fst, ())) ∧
  (decide (nth d.fst.fst.fst d.snd.fst.snd.snd.fst.toNat < d.snd.fst.snd.snd.snd.snd.fst) = false →
  (decide ((0 : Int) ≤ d.snd.fst.snd.snd.snd.snd.snd.fst) = true → (0 : Int) ≤ d.fst.fst.snd.fst) ∧
  (decide ((0 : Int) ≤ d.snd.fst.snd.snd.snd.snd.snd.fst) = true → d.fst.fst.snd.fst ≤ (64 : Int)) ∧
  (decide ((0 : Int) ≤ d.snd.fst.snd.snd.snd.snd.snd.fst) = true → In64 ((1 : Int) * (2 : Int) ^ d.fst.fst.snd.fst.toNat)) ∧
  (decide ((0 : Int) ≤ d.snd.fst.snd.snd.snd.snd.snd.fst) && decide (d.snd.fst.snd.snd.snd.snd.snd.fst < (1 : Int) * (2 : Int) ^ d.fst.fst.snd.fst.toNat), ()) =
  (U.okGloss d.fst.fst d.snd.fst, ()))))))))

theorem vc84_eq : fnVC (ctx 52 [(48, sp48), (44, sp44)] []) (fun _ => none) Try.f84 (bodyOf Try.f84) sp84 = vc84 := by kernel_rfl


end Go.X
/-
  The program's functions return what they are asked to (1).
-/
namespace Go.X
open Go.Proofs

theorem h48 : vc48 := by
  rintro ⟨a, ⟨⟩⟩
  congr 1
  rw [Bool.eq_iff_iff]
  simp only [Bool.and_eq_true, decide_eq_true_eq]

theorem ok48 : FnOK PR 48 sp48 := mkFn (vc48_eq.mpr h48) Try.func48 (by kernel_rfl) (by kernel_rfl) (by kernel_rfl) (by kernel_rfl) trivial trivial

theorem h44 : vc44 := by
  rintro ⟨⟨f, ⟨⟩⟩, n, ⟨⟩⟩
  intros
  congr 1
  rw [Bool.eq_iff_iff]
  simp only [Bool.and_eq_true, decide_eq_true_eq]

theorem ok44 : FnOK PR 44 sp44 := mkFn (vc44_eq.mpr h44) Try.func44 (by kernel_rfl) (by kernel_rfl) (by kernel_rfl) (by kernel_rfl) trivial trivial

theorem h49 : vc49 := by
  rintro ⟨a, b, ⟨⟩⟩
  congr 1
  rw [Bool.eq_iff_iff]
  simp only [Bool.and_eq_true, decide_eq_true_eq]
  exact ⟨fun h => decide_eq_true h, fun h => of_decide_eq_true h⟩

theorem ok49 : FnOK PR 49 sp49 := mkFn (vc49_eq.mpr h49) Try.func49 (by kernel_rfl) (by kernel_rfl) (by kernel_rfl) (by kernel_rfl) trivial trivial

theorem h91 : vc91 := by
  rintro ⟨l, ⟨⟩⟩ hl
  refine ⟨⟨0, ⟨⟨rfl, trivial⟩, trivial⟩, Nat.zero_le _, fun g hg => by simp at hg⟩, fun i hi => ⟨fun h => ?_, fun h => ?_⟩⟩
  · have h : i < l.length := by simpa using h
    simp only [Int.toNat_natCast] at *
    refine ⟨by omega, by omega, fun hb => ?_, fun hb => ⟨L.in64 (by omega) (by omega), i + 1, ⟨⟨by simp, trivial⟩, trivial⟩, ⟨by omega, ?_⟩, by omega⟩⟩
    · have hb : nth l i ≠ 0 := of_decide_eq_true hb
      have : l.find? (fun n => decide (n ≠ 0)) = some (nth l i) := by
        have e : l = l.take i ++ nth l i :: l.drop (i + 1) := by
          rw [L.nth_lt h, ← List.drop_eq_getElem_cons h, List.take_append_drop]
        rw [e, List.find?_append, List.find?_eq_none.2 (fun g hg => by simpa using hi.2 g hg)]
        rw [← e]
        simp [List.find?, hb]
      unfold U.firstNZ; rw [this]
    · have hb : ¬ nth l i ≠ 0 := of_decide_eq_false hb
      intro g hg
      rw [L.take_succ h] at hg
      rcases List.mem_append.1 hg with hg | hg
      · exact hi.2 g hg
      · simp at hg; subst hg; omega
  · have h : l.length ≤ i := by simpa using h
    have : l.find? (fun n => decide (n ≠ 0)) = none := List.find?_eq_none.2 (fun g hg => by simpa using hi.2 g (by rw [List.take_of_length_le h]; exact hg))
    unfold U.firstNZ; rw [this]

theorem ok91 : FnOK PR 91 sp91 := mkFn (vc91_eq.mpr h91) Try.func91 (by kernel_rfl) (by kernel_rfl) (by kernel_rfl) (by kernel_rfl) trivial trivial

theorem h80 : vc80 := by
  rintro ⟨⟨a1, a2, ar⟩, ⟨b1, b2, br⟩, ⟨⟩⟩ ⟨ha, hb⟩
  simp only [U.small, U.au, U.st] at ha hb
  simp only
  refine ⟨by unfold In64; omega, by unfold In64; omega, ?_⟩
  congr 1
  unfold U.firstNZ U.cmp U.au U.st
  simp only [List.find?]
  by_cases h1 : a1 - b1 = 0 <;> by_cases h2 : a2 - b2 = 0 <;> simp [h1, h2]

theorem ok80 : FnOK PR 80 sp80 := mkFn (vc80_eq.mpr h80) Try.func80 (by kernel_rfl) (by kernel_rfl) (by kernel_rfl) (by kernel_rfl) ⟨fun _ => ok91, trivial⟩ trivial

theorem h81 : vc81 := by
  rintro ⟨l, ⟨⟩⟩ hne hl
  have hpos := List.length_pos_iff.mpr hne
  have hpos : 0 < l.length := hpos
  have h1 : U.minTo l 1 = nth l 0 := by
    unfold U.minTo
    have e : l.take 1 = [nth l 0] := by rw [L.take_succ (i := 0) hpos]; rfl
    rw [e]; simp
  refine ⟨fun h => ?_, fun h => ⟨by omega, by simpa using hpos, ⟨1, ⟨⟨h1.symm, rfl, trivial⟩, trivial⟩, by omega, by omega⟩, fun i hi hl => ⟨fun h => ?_, fun h => ?_⟩⟩⟩
  · have := of_decide_eq_true h
    simp only at this; omega
  · have h : i < l.length := by simpa using h
    simp only [Int.toNat_natCast] at *
    refine ⟨by omega, by omega, L.in64 (by omega) (by omega), i + 1, ⟨⟨by simp, ?_, trivial⟩, trivial⟩, by omega, by omega⟩
    unfold U.minTo
    rw [L.take_succ h, List.foldl_append]; rfl
  · have h : l.length ≤ i := by simpa using h
    unfold U.minTo
    simp only [List.take_of_length_le h]

theorem ok81 : FnOK PR 81 sp81 := mkFn (vc81_eq.mpr h81) Try.func81 (by kernel_rfl) (by kernel_rfl) (by kernel_rfl) (by kernel_rfl) trivial trivial

theorem h82 : vc82 := by
  rintro ⟨l, ⟨⟩⟩ hne hl
  have hpos := List.length_pos_iff.mpr hne
  have hpos : 0 < l.length := hpos
  have h1 : U.maxTo l 1 = nth l 0 := by
    unfold U.maxTo
    have e : l.take 1 = [nth l 0] := by rw [L.take_succ (i := 0) hpos]; rfl
    rw [e]; simp
  refine ⟨fun h => ?_, fun h => ⟨by omega, by simpa using hpos, ⟨1, ⟨⟨h1.symm, rfl, trivial⟩, trivial⟩, by omega, by omega⟩, fun i hi hl => ⟨fun h => ?_, fun h => ?_⟩⟩⟩
  · have := of_decide_eq_true h
    simp only at this; omega
  · have h : i < l.length := by simpa using h
    simp only [Int.toNat_natCast] at *
    refine ⟨by omega, by omega, L.in64 (by omega) (by omega), i + 1, ⟨⟨by simp, ?_, trivial⟩, trivial⟩, by omega, by omega⟩
    unfold U.maxTo
    rw [L.take_succ h, List.foldl_append]; rfl
  · have h : l.length ≤ i := by simpa using h
    unfold U.maxTo
    simp only [List.take_of_length_le h]

theorem ok82 : FnOK PR 82 sp82 := mkFn (vc82_eq.mpr h82) Try.func82 (by kernel_rfl) (by kernel_rfl) (by kernel_rfl) (by kernel_rfl) trivial trivial

theorem le_foldmin {a : Int} : ∀ (l : List Int) (b : Int), a ≤ l.foldl min b ↔ a ≤ b ∧ ∀ x ∈ l, a ≤ x := by
  intro l
  induction l with
  | nil => intro b; simp
  | cons x r ih => intro b; rw [List.foldl_cons, ih, Int.le_min]; simp only [List.mem_cons, forall_eq_or_imp, and_assoc]

theorem foldmax_le {a : Int} : ∀ (l : List Int) (b : Int), l.foldl max b ≤ a ↔ b ≤ a ∧ ∀ x ∈ l, x ≤ a := by
  intro l
  induction l with
  | nil => intro b; simp
  | cons x r ih => intro b; rw [List.foldl_cons, ih, Int.max_le]; simp only [List.mem_cons, forall_eq_or_imp, and_assoc]

theorem h61 : vc61 := by
  rintro ⟨⟨⟨fr, s, ⟨⟩⟩, ⟨⟩⟩, ⟨⟩⟩ hl
  simp only
  have key := @okFilms_iff (fr, s, ())
  simp only at key
  refine ⟨fun h => ?_, fun h => ?_⟩
  · simp only [Bool.or_eq_true, decide_eq_true_eq] at h
    have : U.okFilms (fr, s, ()) = false := by
      rw [Bool.eq_false_iff]; intro hc; have := key.1 hc; omega
    rw [this]
  · simp only [Bool.or_eq_false_iff, decide_eq_false_iff_not] at h
    have hne : fr ≠ [] := by intro e; subst e; simp at h
    have hpos := List.length_pos_iff.mpr hne
    have h0 : nth fr 0 ∈ fr := L.mem_nth hpos
    refine ⟨hne, fun _ => hne, ?_⟩
    congr 1
    rw [Bool.eq_iff_iff, key]
    simp only [Bool.and_eq_true, decide_eq_true_eq, le_foldmin, foldmax_le]
    constructor
    · rintro ⟨⟨_, h1⟩, _, h2⟩
      exact ⟨fun n hn => ⟨h1 n hn, h2 n hn⟩, by omega⟩
    · rintro ⟨h1, _⟩
      exact ⟨⟨(h1 _ h0).1, fun n hn => (h1 n hn).1⟩, (h1 _ h0).2, fun n hn => (h1 n hn).2⟩

theorem ok61 : FnOK PR 61 sp61 := mkFn (vc61_eq.mpr h61) Try.func61 (by kernel_rfl) (by kernel_rfl) (by kernel_rfl) (by kernel_rfl) ⟨fun _ => ok81, fun _ => ok82, trivial⟩ trivial

theorem asks_of : ∀ (l : List Prop) {k : Prop}, U.allP l → k → asks l k
  | [], _, _, hk => hk
  | _ :: r, _, h, hk => ⟨h.1, asks_of r h.2 hk⟩

theorem h86 : vc86 := by
  rintro ⟨l, f, ⟨⟩⟩ hpre hl
  refine ⟨⟨0, ⟨⟨rfl, trivial⟩, trivial⟩, Nat.zero_le _, fun b hb => by omega⟩, fun i hi => ⟨fun h => ?_, fun h => ?_⟩⟩
  · have h : i < l.length := by simpa using h
    simp only [Int.toNat_natCast] at *
    refine ⟨by omega, by omega, asks_of _ (hpre _ (L.mem_nth h)) ⟨fun hb => ?_, fun hb => ⟨L.in64 (by omega) (by omega), i + 1, ⟨⟨by simp, trivial⟩, trivial⟩, ⟨by omega, fun b hb' => ?_⟩, by omega⟩⟩⟩
    · have hb : U.apply f.2 (nth l i) = true := hb
      have : l.findIdx? (U.apply f.2) = some i := by
        rw [List.findIdx?_eq_some_iff_getElem]
        refine ⟨h, by rw [← L.nth_lt h]; exact hb, fun j hj => ?_⟩
        have := hi.2 j hj
        rw [L.nth_lt (by omega)] at this
        simp [this]
      unfold U.idx; rw [this]
    · by_cases e : b = i
      · subst e; exact hb
      · exact hi.2 b (by omega)
  · have h : l.length ≤ i := by simpa using h
    have : l.findIdx? (U.apply f.2) = none := by
      rw [List.findIdx?_eq_none_iff]
      intro x hx
      obtain ⟨k, hk, rfl⟩ := L.mem_iff.1 hx
      exact hi.2 k (by omega)
    unfold U.idx; rw [this]

theorem ok86 : FnOK PR 86 sp86 := mkFn (vc86_eq.mpr h86) Try.func86 (by kernel_rfl) (by kernel_rfl) (by kernel_rfl) (by kernel_rfl) trivial trivial

theorem h71 : vc71 := by
  rintro ⟨l, f, ⟨⟩⟩ hpre
  refine ⟨hpre, ?_⟩
  congr 1
  rw [Bool.eq_iff_iff]
  unfold U.idx
  simp only [decide_eq_true_eq]
  split
  · rename_i i e
    rw [List.findIdx?_eq_some_iff_getElem] at e
    obtain ⟨h, h1, _⟩ := e
    exact ⟨fun _ => List.any_eq_true.2 ⟨_, List.getElem_mem h, h1⟩, fun _ => by omega⟩
  · rename_i e
    rw [List.findIdx?_eq_none_iff] at e
    refine ⟨fun h => by omega, fun h => ?_⟩
    obtain ⟨x, hx, h1⟩ := List.any_eq_true.1 h
    have := e x hx
    exact absurd (h1.symm.trans this) (by simp)

theorem ok71 : FnOK PR 71 sp71 := mkFn (vc71_eq.mpr h71) Try.func71 (by kernel_rfl) (by kernel_rfl) (by kernel_rfl) (by kernel_rfl) ⟨fun _ => ok86, trivial⟩ trivial

theorem h84 : vc84 := by
  rintro ⟨⟨⟨fr, s, ⟨⟩⟩, ⟨⟩⟩, g, ⟨⟩⟩ hok
  have hok : U.okFilms (fr, s, ()) = true := hok
  have hf := okFilms_iff.1 hok
  simp only at hf
  have hp := pow_in (by omega) hf.2.2.2.2
  have key := @okGloss_iff (fr, s, ()) g
  simp only at key
  simp only [Int.one_mul]
  simp only [Bool.not_eq_true', Bool.not_eq_false', decide_eq_true_eq, decide_eq_false_iff_not]
  generalize U.okGloss (fr, s, ()) g = ok at *
  generalize nth fr g.2.2.1.toNat = ln at *
  generalize (2 : Int) ^ s.toNat = pw at *
  repeat' (first | apply And.intro | intro)
  all_goals first
    | omega
    | (unfold In64; omega)
    | (congr 1; rw [Bool.eq_iff_iff, key]; simp only [Bool.and_eq_true, decide_eq_true_eq]; omega)
    | (congr 1; rw [Bool.eq_iff_iff, key]; simp; omega)
    | skip

theorem ok84 : FnOK PR 84 sp84 := mkFn (vc84_eq.mpr h84) Try.func84 (by kernel_rfl) (by kernel_rfl) (by kernel_rfl) (by kernel_rfl) ⟨fun _ => ok48, fun _ => ok44, trivial⟩ trivial

/-! ### how many bits are set -/

def c1 (x : Int) : Int := uand (x / (2 : Int) ^ Int.toNat 1) 6148914691236517205 + uand x 6148914691236517205
def c2 (x : Int) : Int := uand (x / (2 : Int) ^ Int.toNat 2) 3689348814741910323 + uand x 3689348814741910323
def c3 (x : Int) : Int := x / (2 : Int) ^ Int.toNat 4 + x
def c4 (x : Int) : Int := uand x 1085102592571150095 + uand x 1085102592571150095 / (2 : Int) ^ Int.toNat 8
def c5 (x : Int) : Int := x + x / (2 : Int) ^ Int.toNat 16
def c6 (x : Int) : Int := x + x / (2 : Int) ^ Int.toNat 32
def inU (x : Int) : Bool := decide (0 ≤ x) && decide (x ≤ 9223372036854775807)
def chk (n : Nat) : Bool :=
  inU (c1 n) && (inU (c2 (c1 n)) && (inU (c3 (c2 (c1 n))) && (inU (c4 (c3 (c2 (c1 n)))) && (inU (c5 (c4 (c3 (c2 (c1 n))))) && (inU (c6 (c5 (c4 (c3 (c2 (c1 n)))))) &&
    decide (band (c6 (c5 (c4 (c3 (c2 (c1 n)))))) 127 = U.size n))))))
theorem chk_all : ∀ n, n < 1024 → chk n = true := by decide +kernel

theorem h88 : vc88 := by
  rintro ⟨x, ⟨⟩⟩ ⟨h0, h1⟩
  obtain ⟨n, rfl⟩ := Int.eq_ofNat_of_zero_le h0
  have h1 : (n : Int) < 1024 := h1
  have hc := chk_all n (by omega)
  simp only [chk, inU, Bool.and_eq_true, decide_eq_true_eq] at hc
  simp only
  generalize e1 : uand ((n : Int) / (2 : Int) ^ Int.toNat 1) 6148914691236517205 + uand (n : Int) 6148914691236517205 = a1
  rw [show c1 n = a1 from e1] at hc
  generalize e2 : uand (a1 / (2 : Int) ^ Int.toNat 2) 3689348814741910323 + uand a1 3689348814741910323 = a2
  rw [show c2 a1 = a2 from e2] at hc
  generalize e3 : a2 / (2 : Int) ^ Int.toNat 4 + a2 = a3
  rw [show c3 a2 = a3 from e3] at hc
  generalize e4 : uand a3 1085102592571150095 + uand a3 1085102592571150095 / (2 : Int) ^ Int.toNat 8 = a4
  rw [show c4 a3 = a4 from e4] at hc
  generalize e5 : a4 + a4 / (2 : Int) ^ Int.toNat 16 = a5
  rw [show c5 a4 = a5 from e5] at hc
  generalize e6 : a5 + a5 / (2 : Int) ^ Int.toNat 32 = a6
  rw [show c6 a5 = a6 from e6] at hc
  obtain ⟨b1, b2, b3, b4, b5, b6, hr⟩ := hc
  unfold In64
  rw [hr]
  repeat' apply And.intro
  all_goals first
    | omega
    | rfl
    | skip

theorem ok88 : FnOK PR 88 sp88 := mkFn (vc88_eq.mpr h88) Try.func88 (by kernel_rfl) (by kernel_rfl) (by kernel_rfl) (by kernel_rfl) trivial trivial

theorem h75 : vc75 := by
  intro d h
  exact ⟨fun e => by simp at e, fun _ => ⟨h, rfl⟩⟩

theorem ok75 : FnOK PR 75 sp75 := mkFn (vc75_eq.mpr h75) Try.func75 (by kernel_rfl) (by kernel_rfl) (by kernel_rfl) (by kernel_rfl) ⟨fun _ => ok88, trivial⟩ trivial

theorem h53 : vc53 := by
  intro d h
  exact ⟨by omega, by omega, h, rfl⟩

theorem ok53 : FnOK PR 53 sp53 := mkFn (vc53_eq.mpr h53) Try.func53 (by kernel_rfl) (by kernel_rfl) (by kernel_rfl) (by kernel_rfl) ⟨fun _ => ok75, trivial⟩ trivial

end Go.X
/-
  What the functions of the program are asked to do with what is handed to them (1): a box of messages.
-/
namespace Go.X
open Go.Proofs

abbrev tK : Ty := .st [.int, .int]
abbrev KD' : Type := Int × Int × Unit
/-- a box: its messages by their keys, and how many were wrong -/
abbrev shB : Sh := .box 89 [.map tK tG, .dat .int]
abbrev BD : Type := List (KD' × GD) × Int × Unit

namespace U
def key (g : GD) : KD' := (au g, st g, ())
def wrong : Option GD → GD → Bool
  | some x, g => decide (x ≠ g)
  | none, _ => false
def put1 (b : BD) (g : GD) : BD := (mput tK (key g) g b.1, (if wrong (mfind tK (key g) b.1) g = true then b.2.1 + 1 else b.2.1), ())
def putAll (b : BD) (l : List GD) : BD := l.foldl put1 b
def fillAll (l : List (List GD)) : BD := l.foldl putAll ([], 0, ())
end U

/-- the map of this name, the second cell of the box of this name -/
def gmap (σ : St) (o : Nat) : List (KD' × GD) := match σ.obj o with
  | some (.map _ kt vt l) => match cast? (.map kt vt) (.map tK tG) l with | some l' => l' | none => []
  | _ => []
def gwr (σ : St) (o : Nat) : Int := match σ.obj o with
  | some (.box _ _ [_, v]) => match asInt v with | some i => i | none => 0
  | _ => 0

def so78 : OSpec := ⟨[.own shB true, .val (.slice tG)], [], fun d => [0 ≤ d.1.2.1 ∧ d.1.2.1 ≤ 100000, d.2.1.length ≤ 100000], fun d => ((), (U.putAll d.1 d.2.1, ()))⟩
def an78 : Ann := fun r => match r with
  | 1 => some fun σ => { X := Nat, sl := fun i => [(11, .dat .int (i : Int))], ob := fun i => [(1000000, some (.box 89 false [.mp 1000000000, .dat .int (U.putAll (gmap σ 1000000000, gwr σ 1000000, ()) ((gd (.slice tG) σ 1).take i)).2.1])), (1000000000, some (.map false tK tG (U.putAll (gmap σ 1000000000, gwr σ 1000000, ()) ((gd (.slice tG) σ 1).take i)).1))], inv := fun i => i ≤ (gd (.slice tG) σ 1).length, mu := fun i => (gd (.slice tG) σ 1).length - i }
  | _ => none
def vc78 : Prop :=
  ∀ (d : (List ((Int × Int × Unit) × Int × Int × Int × Int × Int × Int × Unit) × Int × Unit) × List (Int × Int × Int × Int × Int × Int × Unit) × Unit),
  (0 : Int) ≤ d.fst.snd.fst ∧ d.fst.snd.fst ≤ (100000 : Int) →
  d.snd.fst.length ≤ (100000 : Nat) →
  d.snd.fst.length < (4611686018427387904 : Nat) →
  (∃ (x : Nat),
  (((0 : Int) = (↑x : Int) ∧ True) ∧ (True ∧ d.fst.snd.fst = (U.putAll (d.fst.1, d.fst.snd.1, ()) (List.take x d.snd.fst)).snd.fst ∧ True) ∧ d.fst.fst = (U.putAll (d.fst.1, d.fst.snd.1, ()) (List.take x d.snd.fst)).fst ∧ True) ∧
  x ≤ d.snd.fst.length) ∧
  ∀ (x : Nat),
  x ≤ d.snd.fst.length →
  (decide ((↑x : Int) < (↑d.snd.fst.length : Int)) = true →
  (0 : Int) ≤ (↑x : Int) ∧
  (↑x : Int) < (↑d.snd.fst.length : Int) ∧
  ((misS (mfind (Ty.int.pair (Ty.int.pair Ty.unit)) ((nth d.snd.fst (↑x : Int).toNat).fst, (nth d.snd.fst (↑x : Int).toNat).snd.fst, ()) (U.putAll (d.fst.1, d.fst.snd.1, ()) (List.take x d.snd.fst)).fst) &&
  !decide
  (((mvalD ((0 : Int), (0 : Int), (0 : Int), (0 : Int), (0 : Int), (0 : Int), ())
  (mfind (Ty.int.pair (Ty.int.pair Ty.unit)) ((nth d.snd.fst (↑x : Int).toNat).fst, (nth d.snd.fst (↑x : Int).toNat).snd.fst, ())
  (U.putAll (d.fst.1, d.fst.snd.1, ()) (List.take x d.snd.fst)).fst)).fst,
  (mvalD ((0 : Int), (0 : Int), (0 : Int), (0 : Int), (0 : Int), (0 : Int), ())
  (mfind (Ty.int.pair (Ty.int.pair Ty.unit)) ((nth d.snd.fst (↑x : Int).toNat).fst, (nth d.snd.fst (↑x : Int).toNat).snd.fst, ())
  (U.putAll (d.fst.1, d.fst.snd.1, ()) (List.take x d.snd.fst)).fst)).snd.fst,
  (mvalD ((0 : Int), (0 : Int), (0 : Int), (0 : Int), (0 : Int), (0 : Int), ())
  (mfind (Ty.int.pair (Ty.int.pair Ty.unit)) ((nth d.snd.fst (↑x : Int).toNat).fst, (nth d.snd.fst (↑x : Int).toNat).snd.fst, ())
  (U.putAll (d.fst.1, d.fst.snd.1, ()) (List.take x d.snd.fst)).fst)).snd.snd.fst,
  (mvalD ((0 : Int), (0 : Int), (0 : Int), (0 : Int), (0 : Int), (0 : Int), ())
  (mfind (Ty.int.pair (Ty.int.pair Ty.unit)) ((nth d.snd.fst (↑x : Int).toNat).fst, (nth d.snd.fst (↑x : Int).toNat).snd.fst, ())
  (U.putAll (d.fst.1, d.fst.snd.1, ()) (List.take x d.snd.fst)).fst)).snd.snd.snd.fst,
  (mvalD ((0 : Int), (0 : Int), (0 : Int), (0 : Int), (0 : Int), (0 : Int), ())
  (mfind (Ty.int.pair (Ty.int.pair Ty.unit)) ((nth d.snd.fst (↑x : Int).toNat).fst, (nth d.snd.fst (↑x : Int).toNat).snd.fst, ())
  (U.putAll (d.fst.1, d.fst.snd.1, ()) (List.take x d.snd.fst)).fst)).snd.snd.snd.snd.fst,
  (mvalD ((0 : Int), (0 : Int), (0 : Int), (0 : Int), (0 : Int), (0 : Int), ())
  (mfind (Ty.int.pair (Ty.int.pair Ty.unit)) ((nth d.snd.fst (↑x : Int).toNat).fst, (nth d.snd.fst (↑x : Int).toNat).snd.fst, ())
  (U.putAll (d.fst.1, d.fst.snd.1, ()) (List.take x d.snd.fst)).fst)).snd.snd.snd.snd.snd.fst,
  ()) =
  ((nth d.snd.fst (↑x : Int).toNat).fst, (nth d.snd.fst (↑x : Int).toNat).snd.fst, (nth d.snd.fst (↑x : Int).toNat).snd.snd.fst, (nth d.snd.fst (↑x : Int).toNat).snd.snd.snd.fst,
  (nth d.snd.fst (↑x : Int).toNat).snd.snd.snd.snd.fst, (nth d.snd.fst (↑x : Int).toNat).snd.snd.snd.snd.snd.fst, ()))) =
  true →
  In64 ((U.putAll (d.fst.1, d.fst.snd.1, ()) (List.take x d.snd.fst)).snd.fst + (1 : Int)) ∧
  In64 ((↑x : Int) + (1 : Int)) ∧
  ∃ (x' : Nat),
  (((↑x : Int) + (1 : Int) = (↑x' : Int) ∧ True) ∧
  mput (Ty.int.pair (Ty.int.pair Ty.unit)) ((nth d.snd.fst (↑x : Int).toNat).fst, (nth d.snd.fst (↑x : Int).toNat).snd.fst, ())
  ((nth d.snd.fst (↑x : Int).toNat).fst, (nth d.snd.fst (↑x : Int).toNat).snd.fst, (nth d.snd.fst (↑x : Int).toNat).snd.snd.fst, (nth d.snd.fst (↑x : Int).toNat).snd.snd.snd.fst,
  (nth d.snd.fst (↑x : Int).toNat).snd.snd.snd.snd.fst, (nth d.snd.fst (↑x : Int).toNat).snd.snd.snd.snd.snd.fst, ())
  (U.putAll (d.fst.1, d.fst.snd.1, ()) (List.take x d.snd.fst)).fst =
  (U.putAll (d.fst.1, d.fst.snd.1, ()) (List.take x' d.snd.fst)).fst ∧
  (True ∧ (U.putAll (d.fst.1, d.fst.snd.1, ()) (List.take x d.snd.fst)).snd.fst + (1 : Int) = (U.putAll (d.fst.1, d.fst.snd.1, ()) (List.take x' d.snd.fst)).snd.fst ∧ True) ∧ True) ∧
  x' ≤ d.snd.fst.length ∧ d.snd.fst.length - x' < d.snd.fst.length - x) ∧
  ((misS (mfind (Ty.int.pair (Ty.int.pair Ty.unit)) ((nth d.snd.fst (↑x : Int).toNat).fst, (nth d.snd.fst (↑x : Int).toNat).snd.fst, ()) (U.putAll (d.fst.1, d.fst.snd.1, ()) (List.take x d.snd.fst)).fst) &&
  !decide
  (((mvalD ((0 : Int), (0 : Int), (0 : Int), (0 : Int), (0 : Int), (0 : Int), ())
  (mfind (Ty.int.pair (Ty.int.pair Ty.unit)) ((nth d.snd.fst (↑x : Int).toNat).fst, (nth d.snd.fst (↑x : Int).toNat).snd.fst, ())
  (U.putAll (d.fst.1, d.fst.snd.1, ()) (List.take x d.snd.fst)).fst)).fst,
  (mvalD ((0 : Int), (0 : Int), (0 : Int), (0 : Int), (0 : Int), (0 : Int), ())
  (mfind (Ty.int.pair (Ty.int.pair Ty.unit)) ((nth d.snd.fst (↑x : Int).toNat).fst, (nth d.snd.fst (↑x : Int).toNat).snd.fst, ())
  (U.putAll (d.fst.1, d.fst.snd.1, ()) (List.take x d.snd.fst)).fst)).snd.fst,
  (mvalD ((0 : Int), (0 : Int), (0 : Int), (0 : Int), (0 : Int), (0 : Int), ())
  (mfind (Ty.int.pair (Ty.int.pair Ty.unit)) ((nth d.snd.fst (↑x : Int).toNat).fst, (nth d.snd.fst (↑x : Int).toNat).snd.fst, ())
  (U.putAll (d.fst.1, d.fst.snd.1, ()) (List.take x d.snd.fst)).fst)).snd.snd.fst,
  (mvalD ((0 : Int), (0 : Int), (0 : Int), (0 : Int), (0 : Int), (0 : Int), ())
  (mfind (Ty.int.pair (Ty.int.pair Ty.unit)) ((nth d.snd.fst (↑x : Int).toNat).fst, (nth d.snd.fst (↑x : Int).toNat).snd.fst, ())
  (U.putAll (d.fst.1, d.fst.snd.1, ()) (List.take x d.snd.fst)).fst)).snd.snd.snd.fst,
  (mvalD ((0 : Int), (0 : Int), (0 : Int), (0 : Int), (0 : Int), (0 : Int), ())
  (mfind (Ty.int.pair (Ty.int.pair Ty.unit)) ((nth d.snd.fst (↑x : Int).toNat).fst, (nth d.snd.fst (↑x : Int).toNat).snd.fst, ())
  (U.putAll (d.fst.1, d.fst.snd.1, ()) (List.take x d.snd.fst)).fst)).snd.snd.snd.snd.fst,
  (mvalD ((0 : Int), (0 : Int), (0 : Int), (0 : Int), (0 : Int), (0 : Int), ())
  (mfind (Ty.int.pair (Ty.int.pair Ty.unit)) ((nth d.snd.fst (↑x : Int).toNat).fst, (nth d.snd.fst (↑x : Int).toNat).snd.fst, ())
  (U.putAll (d.fst.1, d.fst.snd.1, ()) (List.take x d.snd.fst)).fst)).snd.snd.snd.snd.snd.fst,
  ()) =
  ((nth d.snd.fst (↑x : Int).toNat).fst, (nth d.snd.fst (↑x : Int).toNat).snd.fst, (nth d.snd.fst (↑x : Int).toNat).snd.snd.fst, (nth d.snd.fst (↑x : Int).toNat).snd.snd.snd.fst,
  (nth d.snd.fst (↑x : Int).toNat).snd.snd.snd.snd.fst, (nth d.snd.fst (↑x : Int).toNat).snd.snd.snd.snd.snd.fst, ()))) =
  false →
  In64 ((↑x : Int) + (1 : Int)) ∧
  ∃ (x' : Nat),
  (((↑x : Int) + (1 : Int) = (↑x' : Int) ∧ True) ∧
  (True ∧ (U.putAll (d.fst.1, d.fst.snd.1, ()) (List.take x d.snd.fst)).snd.fst = (U.putAll (d.fst.1, d.fst.snd.1, ()) (List.take x' d.snd.fst)).snd.fst ∧ True) ∧
  mput (Ty.int.pair (Ty.int.pair Ty.unit)) ((nth d.snd.fst (↑x : Int).toNat).fst, (nth d.snd.fst (↑x : Int).toNat).snd.fst, ())
  ((nth d.snd.fst (↑x : Int).toNat).fst, (nth d.snd.fst (↑x : Int).toNat).snd.fst, (nth d.snd.fst (↑x : Int).toNat).snd.snd.fst, (nth d.snd.fst (↑x : Int).toNat).snd.snd.snd.fst,
  (nth d.snd.fst (↑x : Int).toNat).snd.snd.snd.snd.fst, (nth d.snd.fst (↑x : Int).toNat).snd.snd.snd.snd.snd.fst, ())
  (U.putAll (d.fst.1, d.fst.snd.1, ()) (List.take x d.snd.fst)).fst =
  (U.putAll (d.fst.1, d.fst.snd.1, ()) (List.take x' d.snd.fst)).fst ∧
  True) ∧
  x' ≤ d.snd.fst.length ∧ d.snd.fst.length - x' < d.snd.fst.length - x)) ∧
  (decide ((↑x : Int) < (↑d.snd.fst.length : Int)) = false →
  () = () ∧ (((U.putAll (d.fst.1, d.fst.snd.1, ()) (List.take x d.snd.fst)).fst, (U.putAll (d.fst.1, d.fst.snd.1, ()) (List.take x d.snd.fst)).snd.fst, ()), ()) = (U.putAll d.fst d.snd.fst, ()))

theorem vc78_eq : ofnVC (ctx 49 [] []) (an78) Try.f78 (bodyOf Try.f78) so78 = vc78 := by kernel_rfl


def so59 : OSpec := ⟨[.val (.slice (.slice tG))], [shB], fun d => [d.1.length ≤ 2, ∀ l ∈ d.1, l.length ≤ 40000], fun d => ((U.fillAll d.1, ()), ())⟩
def an59 : Ann := fun r => match r with
  | 3 => some fun σ => { X := Nat, sl := fun i => [(11, .dat .int (i : Int))], ob := fun i => [(8, some (.box 89 false [.mp 500160, .dat .int (U.fillAll ((gd (.slice (.slice tG)) σ 0).take i)).2.1])), (500160, some (.map false tK tG (U.fillAll ((gd (.slice (.slice tG)) σ 0).take i)).1))], inv := fun i => i ≤ (gd (.slice (.slice tG)) σ 0).length, mu := fun i => (gd (.slice (.slice tG)) σ 0).length - i }
  | _ => none
def vc59 : Prop :=
  ∀ (d : List (List (Int × Int × Int × Int × Int × Int × Unit)) × Unit),
  d.fst.length ≤ (2 : Nat) →
  (∀ (l : List (Int × Int × Int × Int × Int × Int × Unit)), l ∈ d.fst → l.length ≤ (40000 : Nat)) →
  d.fst.length < (4611686018427387904 : Nat) →
  (∃ (x : Nat), (((0 : Int) = (↑x : Int) ∧ True) ∧ (True ∧ (0 : Int) = (U.fillAll (List.take x d.fst)).snd.fst ∧ True) ∧ [] = (U.fillAll (List.take x d.fst)).fst ∧ True) ∧ x ≤ d.fst.length) ∧
  ∀ (x : Nat),
  x ≤ d.fst.length →
  (decide ((↑x : Int) < (↑d.fst.length : Int)) = true →
  (0 : Int) ≤ (↑x : Int) ∧
  (↑x : Int) < (↑d.fst.length : Int) ∧
  ((0 : Int) ≤ (U.fillAll (List.take x d.fst)).snd.fst ∧ (U.fillAll (List.take x d.fst)).snd.fst ≤ (100000 : Int)) ∧
  (nth d.fst (↑x : Int).toNat).length ≤ (100000 : Nat) ∧
  In64 ((↑x : Int) + (1 : Int)) ∧
  ∃ (x' : Nat),
  (((↑x : Int) + (1 : Int) = (↑x' : Int) ∧ True) ∧
  (True ∧ (U.putAll ((U.fillAll (List.take x d.fst)).fst, (U.fillAll (List.take x d.fst)).snd.fst, ()) (nth d.fst (↑x : Int).toNat)).snd.fst = (U.fillAll (List.take x' d.fst)).snd.fst ∧ True) ∧
  (U.putAll ((U.fillAll (List.take x d.fst)).fst, (U.fillAll (List.take x d.fst)).snd.fst, ()) (nth d.fst (↑x : Int).toNat)).fst = (U.fillAll (List.take x' d.fst)).fst ∧ True) ∧
  x' ≤ d.fst.length ∧ d.fst.length - x' < d.fst.length - x) ∧
  (decide ((↑x : Int) < (↑d.fst.length : Int)) = false → (((U.fillAll (List.take x d.fst)).fst, (U.fillAll (List.take x d.fst)).snd.fst, ()), ()) = (U.fillAll d.fst, ()) ∧ () = ())

theorem vc59_eq : ofnVC (ctx 20 [] [(78, so78)]) (an59) Try.f59 (bodyOf Try.f59) so59 = vc59 := by kernel_rfl


end Go.X
/-
  The program's functions return what they are asked to (2): a box of messages.
-/
namespace Go.X
open Go.Proofs

theorem putAll_succ (b : BD) {l : List GD} {i : Nat} (h : i < l.length) : U.putAll b (l.take (i + 1)) = U.put1 (U.putAll b (l.take i)) (nth l i) := by
  unfold U.putAll; rw [L.take_succ h, List.foldl_append]; rfl

theorem put1_wrong (b : BD) (g : GD) : b.2.1 ≤ (U.put1 b g).2.1 ∧ (U.put1 b g).2.1 ≤ b.2.1 + 1 := by
  unfold U.put1
  simp only
  split <;> omega

theorem putAll_wrong : ∀ (l : List GD) (b : BD), b.2.1 ≤ (U.putAll b l).2.1 ∧ (U.putAll b l).2.1 ≤ b.2.1 + l.length
  | [], b => by simp [U.putAll]
  | g :: r, b => by
    have h1 := putAll_wrong r (U.put1 b g)
    have h2 := put1_wrong b g
    have e : U.putAll b (g :: r) = U.putAll (U.put1 b g) r := rfl
    rw [e, List.length_cons]; omega

theorem put_cond (o : Option GD) (z g : GD) : (misS o && !(@decide (mvalD z o = g) (tG.decEq (mvalD z o) g))) = U.wrong o g := by
  cases o with
  | none => rfl
  | some x =>
    simp only [misS, mvalD, Bool.true_and, U.wrong]
    rw [Bool.eq_iff_iff]
    simp only [Bool.not_eq_true', decide_eq_true_eq]
    exact ⟨fun h => of_decide_eq_false h, fun h => decide_eq_false h⟩

theorem h78 : vc78 := by
  rintro ⟨⟨m, w, ⟨⟩⟩, l, ⟨⟩⟩ hw hlen hl
  have hw : 0 ≤ w ∧ w ≤ 100000 := hw
  have hlen : l.length ≤ 100000 := hlen
  refine ⟨⟨0, ⟨⟨rfl, trivial⟩, ⟨trivial, rfl, trivial⟩, rfl, trivial⟩, Nat.zero_le _⟩, fun i hi => ⟨fun h => ?_, fun h => ?_⟩⟩
  · have h : i < l.length := by simpa using h
    have hs := putAll_succ (m, w, ()) h
    have hb := putAll_wrong (l.take i) (m, w, ())
    simp only [List.length_take, Int.toNat_natCast] at hb ⊢
    generalize U.putAll (m, w, ()) (l.take i) = b at *
    have hc := put_cond (mfind tK (U.key (nth l i)) b.1) (0, 0, 0, 0, 0, 0, ()) (nth l i)
    refine ⟨by omega, by omega, fun hb1 => ⟨?_, L.in64 (by omega) (by omega), i + 1, ⟨⟨by simp, trivial⟩, ?_, ⟨trivial, ?_, trivial⟩, trivial⟩, by omega, by omega⟩, fun hb1 => ⟨L.in64 (by omega) (by omega), i + 1, ⟨⟨by simp, trivial⟩, ⟨trivial, ?_, trivial⟩, ?_, trivial⟩, by omega, by omega⟩⟩
    · unfold In64; omega
    · rw [hs]; rfl
    · rw [hs]; unfold U.put1; simp only; rw [if_pos (hc.symm.trans hb1)]
    · rw [hs]; unfold U.put1; simp only; rw [if_neg (by rw [hc.symm.trans hb1]; intro h; cases h)]
    · rw [hs]; rfl
  · have h : l.length ≤ i := by simpa using h
    simp only [List.take_of_length_le h]
    exact ⟨trivial, trivial⟩

theorem ok78 : OFnOK PR 78 so78 := mkFnO (vc78_eq.mpr h78) Try.func78 (by kernel_rfl) (by kernel_rfl) (by kernel_rfl) (by kernel_rfl) (by kernel_rfl) trivial trivial

theorem fill_succ {l : List (List GD)} {i : Nat} (h : i < l.length) : U.fillAll (l.take (i + 1)) = U.putAll (U.fillAll (l.take i)) (nth l i) := by
  unfold U.fillAll; rw [L.take_succ h, List.foldl_append]; rfl

theorem fill_wrong (l : List (List GD)) (h : ∀ x ∈ l, x.length ≤ 40000) : ∀ i, i ≤ l.length → 0 ≤ (U.fillAll (l.take i)).2.1 ∧ (U.fillAll (l.take i)).2.1 ≤ 40000 * i := by
  intro i
  induction i with
  | zero => intro _; simp [U.fillAll]
  | succ i ih =>
    intro hi
    have ih := ih (by omega)
    rw [fill_succ (by omega)]
    have h1 := putAll_wrong (nth l i) (U.fillAll (l.take i))
    have h2 := h _ (L.mem_nth (l := l) (i := i) (by omega))
    omega

theorem h59 : vc59 := by
  rintro ⟨l, ⟨⟩⟩ hlen hl hb
  have hlen : l.length ≤ 2 := hlen
  have hl : ∀ x ∈ l, x.length ≤ 40000 := hl
  refine ⟨⟨0, ⟨⟨rfl, trivial⟩, ⟨trivial, rfl, trivial⟩, rfl, trivial⟩, Nat.zero_le _⟩, fun i hi => ⟨fun h => ?_, fun h => ?_⟩⟩
  · have h : i < l.length := by simpa using h
    have hs := fill_succ h
    have hw := fill_wrong l hl i (by omega)
    have h2 := hl _ (L.mem_nth h)
    simp only [Int.toNat_natCast]
    exact ⟨by omega, by omega, by omega, by omega, L.in64 (by omega) (by omega), i + 1, ⟨⟨by simp, trivial⟩, ⟨trivial, by rw [hs], trivial⟩, by rw [hs], trivial⟩, by omega, by omega⟩
  · have h : l.length ≤ i := by simpa using h
    simp only [List.take_of_length_le h]
    exact ⟨trivial, trivial⟩

theorem ok59 : OFnOK PR 59 so59 := mkFnO (vc59_eq.mpr h59) Try.func59 (by kernel_rfl) (by kernel_rfl) (by kernel_rfl) (by kernel_rfl) (by kernel_rfl) trivial ⟨ok78, trivial⟩

end Go.X
/-
  What the functions of the program are asked to return (2): the check.
-/
namespace Go.X
open Go.Proofs

namespace U
def glossErr (f : FD) (l : List GD) : Int := if (l.all (okGloss f) && decide (l.length ≤ 40)) = true then (if clash l = true then 22 else 0) else 21
end U

def sp83 : Spec := ⟨[.val tG, .ref tFs], [.bool], false, fun d => [U.okFilms d.2.1.1 = true], fun d => (!U.okGloss d.2.1.1 d.1, ())⟩
def vc83 : Prop :=
  ∀ (d : (Int × Int × Int × Int × Int × Int × Unit) × ((List Int × Int × Unit) × Unit) × Unit),
  U.okFilms d.snd.fst.fst = true →
  U.okFilms d.snd.fst.fst = true ∧ (!U.okGloss d.snd.fst.fst (d.fst.fst, d.fst.snd.fst, d.fst.snd.snd.fst, d.fst.snd.snd.snd.fst, d.fst.snd.snd.snd.snd.fst, d.fst.snd.snd.snd.snd.snd.fst, ()), ()) = (!U.okGloss d.snd.fst.fst d.fst, ())

theorem vc83_eq : fnVC (ctx 8 [(84, sp84)] []) (fun _ => none) Try.f83 (bodyOf Try.f83) sp83 = vc83 := by kernel_rfl

def sp62 : Spec := ⟨[.val tFs, .val (.slice tG)], [.int], false, fun d => [U.okFilms d.1.1 = true], fun d => (U.glossErr d.1.1 d.2.1, ())⟩
def vc62 : Prop :=
  ∀ (d : ((List Int × Int × Unit) × Unit) × List (Int × Int × Int × Int × Int × Int × Unit) × Unit),
  U.okFilms d.fst.fst = true →
  d.snd.fst.length < (4611686018427387904 : Nat) →
  ((!decide ((40 : Int) < (↑d.snd.fst.length : Int))) = true → ∀ (g : Int × Int × Int × Int × Int × Int × Unit), g ∈ d.snd.fst → U.allP [U.okFilms (d.fst.fst.fst, d.fst.fst.snd.fst, ()) = true]) ∧
  ((decide ((40 : Int) < (↑d.snd.fst.length : Int)) || d.snd.fst.any (U.apply fun (x : (Int × Int × Int × Int × Int × Int × Unit) × Unit) => (!U.okGloss (d.fst.fst.fst, d.fst.fst.snd.fst, ()) x.fst, ()))) = true →
  ((21 : Int), ()) = (U.glossErr d.fst.fst d.snd.fst, ())) ∧
  ((decide ((40 : Int) < (↑d.snd.fst.length : Int)) || d.snd.fst.any (U.apply fun (x : (Int × Int × Int × Int × Int × Int × Unit) × Unit) => (!U.okGloss (d.fst.fst.fst, d.fst.fst.snd.fst, ()) x.fst, ()))) = false →
  [d.snd.fst].length ≤ (2 : Nat) ∧
  (∀ (l : List (Int × Int × Int × Int × Int × Int × Unit)), l ∈ [d.snd.fst] → l.length ≤ (40000 : Nat)) ∧
  (decide ((0 : Int) < (U.fillAll [d.snd.fst]).snd.fst) = true → ((22 : Int), ()) = (U.glossErr d.fst.fst d.snd.fst, ())) ∧
  (decide ((0 : Int) < (U.fillAll [d.snd.fst]).snd.fst) = false → ((0 : Int), ()) = (U.glossErr d.fst.fst d.snd.fst, ())))

theorem vc62_eq : fnVC (ctx 20 [(83, sp83), (71, sp71)] [(59, so59)]) (fun _ => none) Try.f62 (bodyOf Try.f62) sp62 = vc62 := by kernel_rfl

def sp37 : Spec := ⟨[.val tF, .val (.slice tG)], [.int], false, fun _ => [], fun d => (U.check d.1 d.2.1, ())⟩
def vc37 : Prop :=
  ∀ (d : (List Int × Int × Unit) × List (Int × Int × Int × Int × Int × Int × Unit) × Unit),
  ((!U.okFilms (d.fst.fst, d.fst.snd.fst, ())) = true → ((20 : Int), ()) = (U.check d.fst d.snd.fst, ())) ∧
  ((!U.okFilms (d.fst.fst, d.fst.snd.fst, ())) = false → U.okFilms (d.fst.fst, d.fst.snd.fst, ()) = true ∧ (U.glossErr (d.fst.fst, d.fst.snd.fst, ()) d.snd.fst, ()) = (U.check d.fst d.snd.fst, ()))

theorem vc37_eq : fnVC (ctx 13 [(61, sp61), (62, sp62)] []) (fun _ => none) Try.f37 (bodyOf Try.f37) sp37 = vc37 := by kernel_rfl


end Go.X
/-
  The program's functions return what they are asked to (3): the check.
-/
namespace Go.X
open Go.Proofs

theorem h83 : vc83 := by
  rintro ⟨g, ⟨f, ⟨⟩⟩, ⟨⟩⟩ h
  exact ⟨h, rfl⟩

theorem ok83 : FnOK PR 83 sp83 := mkFn (vc83_eq.mpr h83) Try.func83 (by kernel_rfl) (by kernel_rfl) (by kernel_rfl) (by kernel_rfl) ⟨fun _ => ok84, trivial⟩ trivial

/-! ### maps -/

theorem mfind_put {β : Type} (k : KD') (v : β) : ∀ (l : List (KD' × β)), mfind tK k (mput tK k v l) = some v
  | [] => by simp [mput, mfind]
  | e :: r => by
    unfold mput
    split
    · simp [mfind]
    · rename_i h
      unfold mfind
      rw [if_neg h]
      exact mfind_put k v r

theorem mfind_put_ne {β : Type} {k k' : KD'} (hne : k' ≠ k) (v : β) : ∀ (l : List (KD' × β)), mfind tK k' (mput tK k v l) = mfind tK k' l
  | [] => by
    unfold mput mfind
    rw [if_neg (by simpa using hne)]; rfl
  | e :: r => by
    unfold mput
    split
    · rename_i h
      have h : k = e.1 := of_decide_eq_true h
      simp only [mfind]
      rw [← h, if_neg (by simpa using hne), if_neg (by simpa using hne)]
    · simp only [mfind]
      split
      · rfl
      · exact mfind_put_ne hne v r

/-- what a box tells of the messages that were put into it -/
structure Boxed (p : List GD) (b : BD) : Prop where
  nn : 0 ≤ b.2.1
  ok : b.2.1 = 0 → (∀ a ∈ p, ∀ c ∈ p, U.key a = U.key c → a = c) ∧ (∀ k g, mfind tK k b.1 = some g → g ∈ p ∧ U.key g = k) ∧ (∀ g ∈ p, mfind tK (U.key g) b.1 = some g)
  bad : 0 < b.2.1 → ∃ a ∈ p, ∃ c ∈ p, U.key a = U.key c ∧ a ≠ c

theorem boxed_put {p : List GD} {b : BD} (h : Boxed p b) (g : GD) : Boxed (p ++ [g]) (U.put1 b g) := by
  unfold U.put1
  by_cases h0 : b.2.1 = 0
  · obtain ⟨k1, k2, k3⟩ := h.ok h0
    by_cases hw : U.wrong (mfind tK (U.key g) b.1) g = true
    · rw [if_pos hw]
      refine ⟨by simp only; omega, fun e => by simp only at e; omega, fun _ => ?_⟩
      cases hf : mfind tK (U.key g) b.1 with
      | none => rw [hf] at hw; cases hw
      | some x =>
        rw [hf] at hw
        obtain ⟨q1, q2⟩ := k2 _ _ hf
        exact ⟨x, by simp [q1], g, by simp, q2, by simpa [U.wrong] using hw⟩
    · rw [if_neg hw]
      refine ⟨by simp only; omega, fun _ => ?_, fun e => by simp only at e; omega⟩
      have hg : ∀ a ∈ p, U.key a = U.key g → a = g := by
        intro a ha e
        have := k3 a ha
        rw [e] at this
        rw [this] at hw
        simpa [U.wrong] using hw
      refine ⟨?_, ?_, ?_⟩
      · intro a ha c hc e
        simp only [List.mem_append, List.mem_singleton] at ha hc
        rcases ha with ha | rfl <;> rcases hc with hc | rfl
        · exact k1 a ha c hc e
        · exact hg a ha e
        · exact (hg c hc e.symm).symm
        · rfl
      · intro k x hx
        by_cases hk : k = U.key g
        · subst hk
          rw [mfind_put] at hx
          simp at hx; subst hx
          exact ⟨by simp, rfl⟩
        · rw [mfind_put_ne hk] at hx
          obtain ⟨q1, q2⟩ := k2 _ _ hx
          exact ⟨by simp [q1], q2⟩
      · intro x hx
        simp only [List.mem_append, List.mem_singleton] at hx
        by_cases hk : U.key x = U.key g
        · rw [hk, mfind_put]
          rcases hx with hx | rfl
          · rw [hg x hx hk]
          · rfl
        · rw [mfind_put_ne hk]
          rcases hx with hx | rfl
          · exact k3 x hx
          · exact absurd rfl hk
  · have hpos : 0 < b.2.1 := by have := h.nn; omega
    obtain ⟨a, ha, c, hc, e1, e2⟩ := h.bad hpos
    refine ⟨?_, fun e => ?_, fun _ => ⟨a, by simp [ha], c, by simp [hc], e1, e2⟩⟩
    · simp only; split <;> omega
    · simp only at e; split at e <;> omega

theorem boxed_all : ∀ (l p : List GD) (b : BD), Boxed p b → Boxed (p ++ l) (U.putAll b l)
  | [], p, b, h => by simpa [U.putAll] using h
  | g :: r, p, b, h => by
    have := boxed_all r (p ++ [g]) (U.put1 b g) (boxed_put h g)
    rw [List.append_assoc] at this
    exact this

theorem boxed_nil : Boxed [] ([], 0, ()) := ⟨by simp, fun _ => ⟨by simp, fun k g h => by simp [mfind] at h, by simp⟩, fun h => by simp at h⟩

theorem boxed_fill (l : List GD) : Boxed l (U.fillAll [l]) := boxed_all l [] _ boxed_nil

theorem clash_iff {l : List GD} : U.clash l = true ↔ ∃ a ∈ l, ∃ c ∈ l, U.key a = U.key c ∧ a ≠ c := by
  unfold U.clash
  simp only [List.any_eq_true, U.clashB, decide_eq_true_eq, U.key, Prod.mk.injEq, and_true]
  constructor
  · rintro ⟨a, ha, c, hc, e1, e2, e3⟩; exact ⟨a, ha, c, hc, ⟨e1, e2⟩, e3⟩
  · rintro ⟨a, ha, c, hc, ⟨e1, e2⟩, e3⟩; exact ⟨a, ha, c, hc, e1, e2, e3⟩

theorem fill_clash (l : List GD) : 0 < (U.fillAll [l]).2.1 ↔ U.clash l = true := by
  have h := boxed_fill l
  rw [clash_iff]
  constructor
  · exact h.bad
  · rintro ⟨a, ha, c, hc, e1, e2⟩
    have := h.nn
    by_cases h0 : (U.fillAll [l]).2.1 = 0
    · exact absurd ((h.ok h0).1 a ha c hc e1) e2
    · omega

theorem h62 : vc62 := by
  rintro ⟨⟨f, ⟨⟩⟩, l, ⟨⟩⟩ hok hl
  have hok : U.okFilms f = true := hok
  have key : (decide ((40 : Int) < (l.length : Int)) || l.any (U.apply fun x => (!U.okGloss f x.1, ()))) = !(l.all (U.okGloss f) && decide (l.length ≤ 40)) := by
    rw [Bool.eq_iff_iff]
    simp only [Bool.or_eq_true, decide_eq_true_eq, List.any_eq_true, Bool.not_eq_true', Bool.and_eq_false_iff, decide_eq_false_iff_not, List.all_eq_false, U.apply, Bool.not_eq_true']
    constructor
    · rintro (h | ⟨x, hx, h⟩)
      · right; omega
      · left; exact ⟨x, hx, by simp [h]⟩
    · rintro (⟨x, hx, h⟩ | h)
      · right; exact ⟨x, hx, by simpa using h⟩
      · left; omega
  refine ⟨fun _ g _ => ⟨hok, trivial⟩, fun h => ?_, fun h => ⟨by simp, fun x hx => ?_, fun h2 => ?_, fun h2 => ?_⟩⟩
  · have h := key.symm.trans h
    unfold U.glossErr
    rw [if_neg (by rw [L.not_true h.symm.symm]; intro e; cases e)]
  · have h := key.symm.trans h
    simp at hx; subst hx
    simp only [Bool.not_eq_false', Bool.and_eq_true, decide_eq_true_eq] at h
    omega
  · have h := key.symm.trans h
    have h2 := (fill_clash l).1 (of_decide_eq_true h2)
    unfold U.glossErr
    rw [if_pos (L.not_false h), if_pos h2]
  · have h := key.symm.trans h
    have h2 := mt (fill_clash l).2 (of_decide_eq_false h2)
    unfold U.glossErr
    rw [if_pos (L.not_false h), if_neg h2]

theorem ok62 : FnOK PR 62 sp62 := mkFn (vc62_eq.mpr h62) Try.func62 (by kernel_rfl) (by kernel_rfl) (by kernel_rfl) (by kernel_rfl) ⟨fun _ => ok83, fun _ => ok71, trivial⟩ ⟨ok59, trivial⟩

theorem h37 : vc37 := by
  rintro ⟨f, l, ⟨⟩⟩
  refine ⟨fun h => ?_, fun h => ⟨L.not_false h, ?_⟩⟩
  · have h : U.okFilms f = false := L.not_true h
    unfold U.check
    rw [if_neg (by simp [h])]
  · have h : U.okFilms f = true := L.not_false h
    unfold U.check
    rw [if_pos h]; rfl

theorem ok37 : FnOK PR 37 sp37 := mkFn (vc37_eq.mpr h37) Try.func37 (by kernel_rfl) (by kernel_rfl) (by kernel_rfl) (by kernel_rfl) ⟨fun _ => ok61, fun _ => ok62, trivial⟩ trivial

end Go.X
/-
  What the functions of the program are asked to return (3): closures, the readings of a frame.
-/
namespace Go.X
open Go.Proofs

def sp73 : Spec := ⟨[.val tG, .ref .int], [.bool], false, fun _ => [], fun d => (decide (band (U.sg d.1) d.2.1 = 0), ())⟩
def vc73 : Prop :=
  ∀ (d : (Int × Int × Int × Int × Int × Int × Unit) × Int × Unit), (decide (band d.fst.snd.snd.snd.snd.snd.fst d.snd.fst = (0 : Int)), ()) = (decide (band (U.sg d.fst) d.snd.fst = (0 : Int)), ())

theorem vc73_eq : fnVC (ctx 9 [] []) (fun _ => none) Try.f73 (bodyOf Try.f73) sp73 = vc73 := by kernel_rfl

def sp74 : Spec := ⟨[.val tG, .ref .int, .ref .int], [.bool], false, fun _ => [], fun d => (!decide (U.fi d.1 = d.2.1 ∧ U.fr d.1 ≤ d.2.2.1 ∧ d.2.2.1 < U.to d.1), ())⟩
def vc74 : Prop :=
  ∀ (d : (Int × Int × Int × Int × Int × Int × Unit) × Int × Int × Unit),
  (decide (d.fst.snd.snd.fst ≠ d.snd.fst) || decide (d.snd.snd.fst < d.fst.snd.snd.snd.fst) || decide (d.fst.snd.snd.snd.snd.fst ≤ d.snd.snd.fst), ()) =
  (!decide (U.fi d.fst = d.snd.fst ∧ U.fr d.fst ≤ d.snd.snd.fst ∧ d.snd.snd.fst < U.to d.fst), ())

theorem vc74_eq : fnVC (ctx 21 [] []) (fun _ => none) Try.f74 (bodyOf Try.f74) sp74 = vc74 := by kernel_rfl

def sp72 : Spec := ⟨[.val tG, .ref tG], [.bool], false, fun _ => [], fun d => (decide (U.au d.1 = U.au d.2.1 ∧ U.st d.2.1 < U.st d.1) && U.common d.1 d.2.1, ())⟩
def vc72 : Prop :=
  ∀ (d : (Int × Int × Int × Int × Int × Int × Unit) × (Int × Int × Int × Int × Int × Int × Unit) × Unit),
  (decide (d.fst.fst = d.snd.fst.fst) && decide (d.snd.fst.snd.fst < d.fst.snd.fst) && U.common (d.fst.fst, d.fst.snd.fst, d.fst.snd.snd.fst, d.fst.snd.snd.snd.fst, d.fst.snd.snd.snd.snd.fst, d.fst.snd.snd.snd.snd.snd.fst, ()) d.snd.fst,
  ()) =
  (decide (U.au d.fst = U.au d.snd.fst ∧ U.st d.snd.fst < U.st d.fst) && U.common d.fst d.snd.fst, ())

theorem vc72_eq : fnVC (ctx 21 [(49, sp49)] []) (fun _ => none) Try.f72 (bodyOf Try.f72) sp72 = vc72 := by kernel_rfl


def sp46 : Spec := ⟨[.val tFs, .val (.slice tG)], [.slice .int], false, fun d => [1 ≤ d.1.1.2.1 ∧ d.1.1.2.1 ≤ 10], fun d => (U.smallest d.1.1.2.1 d.2.1, ())⟩
def an46 : Ann := fun r => match r with
  | 3 => some fun σ => { X := Nat, sl := fun i => [(5, .own 5 .int), (11, .dat .int (i : Int))], ob := fun i => [(5, some (.row 3 .int false .yes ((List.range i).foldl (U.stepS (gd (.slice tG) σ 1)) [])))], inv := fun i => i ≤ 2 ^ (gd tFs σ 0).1.2.1.toNat, mu := fun i => 2 ^ (gd tFs σ 0).1.2.1.toNat - i }
  | _ => none
def vc46 : Prop :=
  ∀ (d : ((List Int × Int × Unit) × Unit) × List (Int × Int × Int × Int × Int × Int × Unit) × Unit),
  (1 : Int) ≤ d.fst.fst.snd.fst ∧ d.fst.fst.snd.fst ≤ (10 : Int) →
  (0 : Int) ≤ d.fst.fst.snd.fst ∧
  d.fst.fst.snd.fst ≤ (64 : Int) ∧
  In64 ((1 : Int) * (2 : Int) ^ d.fst.fst.snd.fst.toNat) ∧
  (∃ (x : Nat), ((True ∧ (0 : Int) = (↑x : Int) ∧ True) ∧ List.foldl (U.stepS d.snd.fst) [] (List.range x) = [] ∧ True) ∧ x ≤ (2 : Nat) ^ d.fst.fst.snd.fst.toNat) ∧
  ∀ (x : Nat),
  x ≤ (2 : Nat) ^ d.fst.fst.snd.fst.toNat →
  (decide ((↑x : Int) < (1 : Int) * (2 : Int) ^ d.fst.fst.snd.fst.toNat) = true →
  (∀ (g : Int × Int × Int × Int × Int × Int × Unit), g ∈ d.snd.fst → U.allP []) ∧
  (d.snd.fst.any (U.apply fun (x_3 : (Int × Int × Int × Int × Int × Int × Unit) × Unit) => (decide (band (U.sg x_3.fst) (↑x : Int) = (0 : Int)), ())) = true →
  In64 ((↑x : Int) + (1 : Int)) ∧
  ∃ (x' : Nat),
  ((True ∧ (↑x : Int) + (1 : Int) = (↑x' : Int) ∧ True) ∧ List.foldl (U.stepS d.snd.fst) [] (List.range x) = List.foldl (U.stepS d.snd.fst) [] (List.range x') ∧ True) ∧
  x' ≤ (2 : Nat) ^ d.fst.fst.snd.fst.toNat ∧ (2 : Nat) ^ d.fst.fst.snd.fst.toNat - x' < (2 : Nat) ^ d.fst.fst.snd.fst.toNat - x) ∧
  (d.snd.fst.any (U.apply fun (x_3 : (Int × Int × Int × Int × Int × Int × Unit) × Unit) => (decide (band (U.sg x_3.fst) (↑x : Int) = (0 : Int)), ())) = false →
  ((List.foldl (U.stepS d.snd.fst) [] (List.range x)).isEmpty = true →
  ((List.foldl (U.stepS d.snd.fst) [] (List.range x)).isEmpty = true →
  In64 ((↑x : Int) + (1 : Int)) ∧
  ∃ (x' : Nat),
  (((↑x : Int) + (1 : Int) = (↑x' : Int) ∧ True ∧ True) ∧ (List.foldl (U.stepS d.snd.fst) [] (List.range x') ≠ [] ∧ [(↑x : Int)] = List.foldl (U.stepS d.snd.fst) [] (List.range x')) ∧ True) ∧
  x' ≤ (2 : Nat) ^ d.fst.fst.snd.fst.toNat ∧ (2 : Nat) ^ d.fst.fst.snd.fst.toNat - x' < (2 : Nat) ^ d.fst.fst.snd.fst.toNat - x) ∧
  ((List.foldl (U.stepS d.snd.fst) [] (List.range x)).isEmpty = false →
  ((0 : Int) ≤ (↑x : Int) ∧ (↑x : Int) < (1024 : Int)) ∧
  (0 : Int) ≤ (0 : Int) ∧
  (0 : Int) < (↑(List.foldl (U.stepS d.snd.fst) [] (List.range x)).length : Int) ∧
  ((0 : Int) ≤ nth (List.foldl (U.stepS d.snd.fst) [] (List.range x)) (Int.toNat (0 : Int)) ∧ nth (List.foldl (U.stepS d.snd.fst) [] (List.range x)) (Int.toNat (0 : Int)) < (1024 : Int)) ∧
  (decide (U.size (↑x : Int) = U.size (nth (List.foldl (U.stepS d.snd.fst) [] (List.range x)) (Int.toNat (0 : Int)))) = true →
  ((List.foldl (U.stepS d.snd.fst) [] (List.range x)).length + [(↑x : Int)].length) * (8 : Nat) ≤ (140737488355328 : Nat) ∧
  In64 ((↑x : Int) + (1 : Int)) ∧
  ∃ (x' : Nat),
  (((↑x : Int) + (1 : Int) = (↑x' : Int) ∧ True ∧ True) ∧ List.foldl (U.stepS d.snd.fst) [] (List.range x) ++ [(↑x : Int)] = List.foldl (U.stepS d.snd.fst) [] (List.range x') ∧ True) ∧
  x' ≤ (2 : Nat) ^ d.fst.fst.snd.fst.toNat ∧ (2 : Nat) ^ d.fst.fst.snd.fst.toNat - x' < (2 : Nat) ^ d.fst.fst.snd.fst.toNat - x) ∧
  (decide (U.size (↑x : Int) = U.size (nth (List.foldl (U.stepS d.snd.fst) [] (List.range x)) (Int.toNat (0 : Int)))) = false →
  In64 ((↑x : Int) + (1 : Int)) ∧
  ∃ (x' : Nat),
  ((True ∧ (↑x : Int) + (1 : Int) = (↑x' : Int) ∧ True) ∧ List.foldl (U.stepS d.snd.fst) [] (List.range x) = List.foldl (U.stepS d.snd.fst) [] (List.range x') ∧ True) ∧
  x' ≤ (2 : Nat) ^ d.fst.fst.snd.fst.toNat ∧ (2 : Nat) ^ d.fst.fst.snd.fst.toNat - x' < (2 : Nat) ^ d.fst.fst.snd.fst.toNat - x))) ∧
  ((List.foldl (U.stepS d.snd.fst) [] (List.range x)).isEmpty = false →
  ((0 : Int) ≤ (↑x : Int) ∧ (↑x : Int) < (1024 : Int)) ∧
  (0 : Int) ≤ (0 : Int) ∧
  (0 : Int) < (↑(List.foldl (U.stepS d.snd.fst) [] (List.range x)).length : Int) ∧
  ((0 : Int) ≤ nth (List.foldl (U.stepS d.snd.fst) [] (List.range x)) (Int.toNat (0 : Int)) ∧ nth (List.foldl (U.stepS d.snd.fst) [] (List.range x)) (Int.toNat (0 : Int)) < (1024 : Int)) ∧
  (decide (U.size (↑x : Int) < U.size (nth (List.foldl (U.stepS d.snd.fst) [] (List.range x)) (Int.toNat (0 : Int)))) = true →
  In64 ((↑x : Int) + (1 : Int)) ∧
  ∃ (x' : Nat),
  (((↑x : Int) + (1 : Int) = (↑x' : Int) ∧ True ∧ True) ∧ (List.foldl (U.stepS d.snd.fst) [] (List.range x') ≠ [] ∧ [(↑x : Int)] = List.foldl (U.stepS d.snd.fst) [] (List.range x')) ∧ True) ∧
  x' ≤ (2 : Nat) ^ d.fst.fst.snd.fst.toNat ∧ (2 : Nat) ^ d.fst.fst.snd.fst.toNat - x' < (2 : Nat) ^ d.fst.fst.snd.fst.toNat - x) ∧
  (decide (U.size (↑x : Int) < U.size (nth (List.foldl (U.stepS d.snd.fst) [] (List.range x)) (Int.toNat (0 : Int)))) = false →
  ((0 : Int) ≤ (↑x : Int) ∧ (↑x : Int) < (1024 : Int)) ∧
  (0 : Int) ≤ (0 : Int) ∧
  (0 : Int) < (↑(List.foldl (U.stepS d.snd.fst) [] (List.range x)).length : Int) ∧
  ((0 : Int) ≤ nth (List.foldl (U.stepS d.snd.fst) [] (List.range x)) (Int.toNat (0 : Int)) ∧ nth (List.foldl (U.stepS d.snd.fst) [] (List.range x)) (Int.toNat (0 : Int)) < (1024 : Int)) ∧
  (decide (U.size (↑x : Int) = U.size (nth (List.foldl (U.stepS d.snd.fst) [] (List.range x)) (Int.toNat (0 : Int)))) = true →
  ((List.foldl (U.stepS d.snd.fst) [] (List.range x)).length + [(↑x : Int)].length) * (8 : Nat) ≤ (140737488355328 : Nat) ∧
  In64 ((↑x : Int) + (1 : Int)) ∧
  ∃ (x' : Nat),
  (((↑x : Int) + (1 : Int) = (↑x' : Int) ∧ True ∧ True) ∧
  List.foldl (U.stepS d.snd.fst) [] (List.range x) ++ [(↑x : Int)] = List.foldl (U.stepS d.snd.fst) [] (List.range x') ∧ True) ∧
  x' ≤ (2 : Nat) ^ d.fst.fst.snd.fst.toNat ∧ (2 : Nat) ^ d.fst.fst.snd.fst.toNat - x' < (2 : Nat) ^ d.fst.fst.snd.fst.toNat - x) ∧
  (decide (U.size (↑x : Int) = U.size (nth (List.foldl (U.stepS d.snd.fst) [] (List.range x)) (Int.toNat (0 : Int)))) = false →
  In64 ((↑x : Int) + (1 : Int)) ∧
  ∃ (x' : Nat),
  ((True ∧ (↑x : Int) + (1 : Int) = (↑x' : Int) ∧ True) ∧ List.foldl (U.stepS d.snd.fst) [] (List.range x) = List.foldl (U.stepS d.snd.fst) [] (List.range x') ∧ True) ∧
  x' ≤ (2 : Nat) ^ d.fst.fst.snd.fst.toNat ∧ (2 : Nat) ^ d.fst.fst.snd.fst.toNat - x' < (2 : Nat) ^ d.fst.fst.snd.fst.toNat - x))))) ∧
  (decide ((↑x : Int) < (1 : Int) * (2 : Int) ^ d.fst.fst.snd.fst.toNat) = false → (List.foldl (U.stepS d.snd.fst) [] (List.range x), ()) = (U.smallest d.fst.fst.snd.fst d.snd.fst, ()))

theorem vc46_eq : fnVC (ctx 43 [(73, sp73), (71, sp71), (53, sp53)] []) (an46) Try.f46 (bodyOf Try.f46) sp46 = vc46 := by kernel_rfl


end Go.X
/-
  The program's functions return what they are asked to (4): closures, the readings of a frame.
-/
namespace Go.X
open Go.Proofs

theorem h73 : vc73 := fun _ => rfl

theorem ok73 : FnOK PR 73 sp73 := mkFn (vc73_eq.mpr h73) Try.func73 (by kernel_rfl) (by kernel_rfl) (by kernel_rfl) (by kernel_rfl) trivial trivial

theorem h74 : vc74 := by
  rintro ⟨g, a, b, ⟨⟩⟩
  congr 1
  rw [Bool.eq_iff_iff]
  simp only [Bool.or_eq_true, decide_eq_true_eq, Bool.not_eq_true']
  constructor
  · intro h; refine decide_eq_false ?_; simp only [U.fi, U.fr, U.to]; omega
  · intro h; have h := of_decide_eq_false h; simp only [U.fi, U.fr, U.to] at h; omega

theorem ok74 : FnOK PR 74 sp74 := mkFn (vc74_eq.mpr h74) Try.func74 (by kernel_rfl) (by kernel_rfl) (by kernel_rfl) (by kernel_rfl) trivial trivial

theorem h72 : vc72 := by
  rintro ⟨a, b, ⟨⟩⟩
  congr 1
  rw [Bool.eq_iff_iff]
  simp only [Bool.and_eq_true, decide_eq_true_eq]
  exact Iff.rfl

theorem ok72 : FnOK PR 72 sp72 := mkFn (vc72_eq.mpr h72) Try.func72 (by kernel_rfl) (by kernel_rfl) (by kernel_rfl) (by kernel_rfl) ⟨fun _ => ok49, trivial⟩ trivial

theorem band_comm (a b : Int) : band a b = band b a := by
  unfold band; rw [BitVec.and_comm]

theorem small_range (l : List GD) (i : Nat) : ∀ x ∈ (List.range i).foldl (U.stepS l) [], 0 ≤ x ∧ x < i := by
  induction i with
  | zero => simp
  | succ i ih =>
    rw [small_succ]
    generalize (List.range i).foldl (U.stepS l) [] = o at *
    intro x hx
    have key : x ∈ o ∨ x = (i : Int) := by
      unfold U.stepS at hx
      split at hx
      · unfold U.better at hx
        split at hx
        · right; simpa using hx
        · split at hx
          · rcases List.mem_append.1 hx with h | h
            · exact .inl h
            · right; simpa using h
          · exact .inl hx
      · exact .inl hx
    rcases key with h | h
    · have := ih x h; omega
    · omega

theorem h46 : vc46 := by
  rintro ⟨⟨⟨fr, s, ⟨⟩⟩, ⟨⟩⟩, l, ⟨⟩⟩ hs
  have hs : 1 ≤ s ∧ s ≤ 10 := hs
  have hp := pow_in (by omega) hs.2
  have hpn : (((2 : Nat) ^ s.toNat : Nat) : Int) = (2 : Int) ^ s.toNat := by simp
  simp only [Int.one_mul]
  refine ⟨by omega, by omega, by unfold In64; omega, ⟨0, ⟨⟨trivial, rfl, trivial⟩, rfl, trivial⟩, Nat.zero_le _⟩, fun i hi => ⟨fun h => ?_, fun h => ?_⟩⟩
  · have h : i < 2 ^ s.toNat := by have := of_decide_eq_true h; omega
    have hlen := small_len l i
    have hsucc := small_succ l i
    have hrng := small_range l i
    have hany : l.any (U.apply fun x => (decide (band (U.sg x.1) (i : Int) = 0), ())) = !U.agrees (i : Int) l := by
      rw [Bool.eq_iff_iff]
      simp only [List.any_eq_true, U.apply, decide_eq_true_eq, Bool.not_eq_true', U.agrees, List.all_eq_false, Bool.not_eq_true']
      constructor
      · rintro ⟨x, hx, h⟩; exact ⟨x, hx, by rw [band_comm, h]; simp⟩
      · rintro ⟨x, hx, h⟩; exact ⟨x, hx, by rw [band_comm]; simpa using h⟩
    rw [hany]
    generalize hn : (2 : Nat) ^ s.toNat = n at *
    generalize List.foldl (U.stepS l) [] (List.range i) = o at *
    have hi64 : In64 ((i : Int) + 1) := by unfold In64; omega
    have hsmall : (0 : Int) ≤ (i : Int) ∧ (i : Int) < 1024 := by omega
    have head : o ≠ [] → 0 < o.length ∧ (0 ≤ nth o 0 ∧ nth o 0 < 1024) := fun hne => by
      have hpos := List.length_pos_iff.mpr hne
      have := hrng _ (L.mem_nth hpos)
      omega
    refine ⟨fun _ _ => trivial, fun hb => ⟨hi64, i + 1, ⟨⟨trivial, by simp, trivial⟩, ?_, trivial⟩, by omega, by omega⟩, fun hb => ?_⟩
    · have hb : U.agrees (i : Int) l = false := L.not_true hb
      rw [hsucc, U.stepS, if_neg (by rw [hb]; intro h; cases h)]
    have hb : U.agrees (i : Int) l = true := L.not_false hb
    have hst : U.stepS l o i = U.better o i := by rw [U.stepS, if_pos hb]
    rw [hst] at hsucc
    have one : (o = [] ∨ U.size i < U.size (nth o 0)) → U.better o i = [(i : Int)] := by
      rintro (rfl | h)
      · simp [U.better]
      · by_cases ho : o = []
        · subst ho; simp [U.better]
        · rw [U.better, if_pos ⟨ho, h⟩]
    have two : o ≠ [] → ¬ U.size i < U.size (nth o 0) → U.size i = U.size (nth o 0) → U.better o i = o ++ [(i : Int)] := fun h1 h2 h3 => by
      rw [U.better, if_neg (fun h => h2 h.2), if_pos (.inr h3)]
    have three : o ≠ [] → ¬ U.size i < U.size (nth o 0) → ¬ U.size i = U.size (nth o 0) → U.better o i = o := fun h1 h2 h3 => by
      rw [U.better, if_neg (fun h => h2 h.2), if_neg (fun h => h.elim h1 h3)]
    refine ⟨fun he => ⟨fun _ => ⟨hi64, i + 1, ⟨⟨by simp, trivial, trivial⟩, ?_, trivial⟩, by omega, by omega⟩, fun hne => absurd (he.symm.trans hne) (by simp)⟩, fun he => ?_⟩
    · rw [hsucc, one (.inl (List.isEmpty_iff.1 he))]
      exact ⟨by simp, rfl⟩
    have hne : o ≠ [] := fun e => by subst e; simp at he
    obtain ⟨k1, k2⟩ := head hne
    refine ⟨hsmall, by omega, by simpa using k1, k2, fun hc => ⟨hi64, i + 1, ⟨⟨by simp, trivial, trivial⟩, ?_, trivial⟩, by omega, by omega⟩, fun hc => ⟨hsmall, by omega, by simpa using k1, k2, fun hd => ⟨?_, hi64, i + 1, ⟨⟨by simp, trivial, trivial⟩, ?_, trivial⟩, by omega, by omega⟩, fun hd => ⟨hi64, i + 1, ⟨⟨trivial, by simp, trivial⟩, ?_, trivial⟩, by omega, by omega⟩⟩⟩
    · rw [hsucc, one (.inr (of_decide_eq_true hc))]
      exact ⟨by simp, rfl⟩
    · simp only [List.length_cons, List.length_nil]; omega
    · rw [hsucc, two hne (of_decide_eq_false hc) (of_decide_eq_true hd)]
    · rw [hsucc, three hne (of_decide_eq_false hc) (of_decide_eq_false hd)]
  · have h : 2 ^ s.toNat ≤ i := by have := of_decide_eq_false h; omega
    have : i = 2 ^ s.toNat := by omega
    subst this; rfl

theorem ok46 : FnOK PR 46 sp46 := mkFn (vc46_eq.mpr h46) Try.func46 (by kernel_rfl) (by kernel_rfl) (by kernel_rfl) (by kernel_rfl) ⟨fun _ => ok73, fun _ => ok71, fun _ => ok53, trivial⟩ trivial

end Go.X
