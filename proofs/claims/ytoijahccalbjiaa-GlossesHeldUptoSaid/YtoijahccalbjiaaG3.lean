/-
  What the functions of the program and of Go's library are asked to do (5): sorting, deleting, what holds.
-/
import Derived.Test.YtoijahccalbjiaaG2
namespace Go.X
open Go.Proofs

/-- how many bits a number below 256 has -/
def U.len8tab : ByteArray := ⟨#[0, 1, 2, 2, 3, 3, 3, 3, 4, 4, 4, 4, 4, 4, 4, 4, 5, 5, 5, 5, 5, 5, 5, 5, 5, 5, 5, 5, 5, 5, 5, 5, 6, 6, 6, 6, 6, 6, 6, 6, 6, 6, 6, 6, 6, 6, 6, 6, 6, 6, 6, 6, 6, 6, 6, 6, 6, 6, 6, 6, 6, 6, 6, 6, 7, 7, 7, 7, 7, 7, 7, 7, 7, 7, 7, 7, 7, 7, 7, 7, 7, 7, 7, 7, 7, 7, 7, 7, 7, 7, 7, 7, 7, 7, 7, 7, 7, 7, 7, 7, 7, 7, 7, 7, 7, 7, 7, 7, 7, 7, 7, 7, 7, 7, 7, 7, 7, 7, 7, 7, 7, 7, 7, 7, 7, 7, 7, 7, 8, 8, 8, 8, 8, 8, 8, 8, 8, 8, 8, 8, 8, 8, 8, 8, 8, 8, 8, 8, 8, 8, 8, 8, 8, 8, 8, 8, 8, 8, 8, 8, 8, 8, 8, 8, 8, 8, 8, 8, 8, 8, 8, 8, 8, 8, 8, 8, 8, 8, 8, 8, 8, 8, 8, 8, 8, 8, 8, 8, 8, 8, 8, 8, 8, 8, 8, 8, 8, 8, 8, 8, 8, 8, 8, 8, 8, 8, 8, 8, 8, 8, 8, 8, 8, 8, 8, 8, 8, 8, 8, 8, 8, 8, 8, 8, 8, 8, 8, 8, 8, 8, 8, 8, 8, 8, 8, 8, 8, 8, 8, 8, 8, 8, 8, 8, 8, 8, 8, 8, 8, 8, 8, 8, 8, 8, 8, 8]⟩

abbrev shL : Sh := .cl (.row 27 tG .unk)

namespace U
abbrev Cmp := GD × GD × Unit → Int × Unit
def swap (l : List GD) (j k : Nat) : List GD := (l.set j (nth l k)).set k (nth l j)
/-- an element goes down to its place -/
def sink (c : Cmp) : List GD → Nat → List GD
  | l, 0 => l
  | l, j + 1 => if (c (nth l (j + 1), nth l j, ())).1 < 0 then sink c (swap l (j + 1) j) j else l
def part (c : Cmp) (l : List GD) (i : Nat) : List GD := (List.range i).foldl (sink c) l
def isort (c : Cmp) (l : List GD) : List GD := part c l l.length
def okCmp (p : GD × GD × Unit → List Prop) (l : List GD) : Prop := ∀ x ∈ l, ∀ y ∈ l, allP (p (x, y, ()))
def bits (n : Int) : Int := if n = 0 then 0 else if n < 2 then 1 else if n < 4 then 2 else if n < 8 then 3 else 4
def keeps (F : GD × Unit → Bool × Unit) (g : GD) : Bool := !apply F g
def keptN (F : GD × Unit → Bool × Unit) (l : List GD) (j : Nat) : Nat := ((l.take j).filter (keeps F)).length
def drops (all : List GD) (g : GD) : Bool := decide (sg g = 0) || all.any (fun o => decide (au o = au g ∧ st g < st o) && common o g)
def cmpF (x : GD × GD × Unit) : Int × Unit := (cmp x.1 x.2.1, ())
def okMap (m : List (KD' × GD)) : Prop := m.length ≤ 12 ∧ (∀ e ∈ m, e.1 = key e.2 ∧ small e.2) ∧ (m.map (·.1)).Nodup
def vals (m : List (KD' × GD)) : List GD := m.map (·.2)
def msgs (l : List GD) : List GD := isort cmpF (vals (fillAll [l]).1)
def heldG (l : List GD) : List GD := (msgs l).filter (fun g => !drops (msgs l) g)
end U

def sp101 : Spec := ⟨[.val (.uint .u64)], [.int], false, fun d => [0 ≤ d.1 ∧ d.1 ≤ 12], fun d => (U.bits d.1, ())⟩
def vc101 : Prop :=
  ∀ (d : Int × Unit),
  (0 : Int) ≤ d.fst ∧ d.fst ≤ (12 : Int) →
  (decide ((4294967296 : Int) ≤ d.fst) = true →
  (0 : Int) ≤ (32 : Int) ∧
  (32 : Int) ≤ (64 : Int) ∧
  (decide ((65536 : Int) ≤ d.fst / (2 : Int) ^ Int.toNat (32 : Int)) = true →
  (0 : Int) ≤ (16 : Int) ∧
  (16 : Int) ≤ (64 : Int) ∧
  In64 ((32 : Int) + (16 : Int)) ∧
  (decide ((256 : Int) ≤ d.fst / (2 : Int) ^ Int.toNat (32 : Int) / (2 : Int) ^ Int.toNat (16 : Int)) = true →
  (0 : Int) ≤ (8 : Int) ∧
  (8 : Int) ≤ (64 : Int) ∧
  In64 ((32 : Int) + (16 : Int) + (8 : Int)) ∧
  (0 : Int) ≤ d.fst / (2 : Int) ^ Int.toNat (32 : Int) / (2 : Int) ^ Int.toNat (16 : Int) / (2 : Int) ^ Int.toNat (8 : Int) ∧
  d.fst / (2 : Int) ^ Int.toNat (32 : Int) / (2 : Int) ^ Int.toNat (16 : Int) / (2 : Int) ^ Int.toNat (8 : Int) ≤ (255 : Int) ∧
  (0 : Int) ≤ d.fst / (2 : Int) ^ Int.toNat (32 : Int) / (2 : Int) ^ Int.toNat (16 : Int) / (2 : Int) ^ Int.toNat (8 : Int) ∧
  d.fst / (2 : Int) ^ Int.toNat (32 : Int) / (2 : Int) ^ Int.toNat (16 : Int) / (2 : Int) ^ Int.toNat (8 : Int) < (↑U.len8tab.size : Int) ∧
  In64 (strAt U.len8tab (d.fst / (2 : Int) ^ Int.toNat (32 : Int) / (2 : Int) ^ Int.toNat (16 : Int) / (2 : Int) ^ Int.toNat (8 : Int)).toNat) ∧
  In64 ((32 : Int) + (16 : Int) + (8 : Int) + strAt U.len8tab (d.fst / (2 : Int) ^ Int.toNat (32 : Int) / (2 : Int) ^ Int.toNat (16 : Int) / (2 : Int) ^ Int.toNat (8 : Int)).toNat) ∧
  ((32 : Int) + (16 : Int) + (8 : Int) + strAt U.len8tab (d.fst / (2 : Int) ^ Int.toNat (32 : Int) / (2 : Int) ^ Int.toNat (16 : Int) / (2 : Int) ^ Int.toNat (8 : Int)).toNat, ()) =
  (U.bits d.fst, ())) ∧
  (decide ((256 : Int) ≤ d.fst / (2 : Int) ^ Int.toNat (32 : Int) / (2 : Int) ^ Int.toNat (16 : Int)) = false →
  (0 : Int) ≤ d.fst / (2 : Int) ^ Int.toNat (32 : Int) / (2 : Int) ^ Int.toNat (16 : Int) ∧
  d.fst / (2 : Int) ^ Int.toNat (32 : Int) / (2 : Int) ^ Int.toNat (16 : Int) ≤ (255 : Int) ∧
  (0 : Int) ≤ d.fst / (2 : Int) ^ Int.toNat (32 : Int) / (2 : Int) ^ Int.toNat (16 : Int) ∧
  d.fst / (2 : Int) ^ Int.toNat (32 : Int) / (2 : Int) ^ Int.toNat (16 : Int) < (↑U.len8tab.size : Int) ∧
  In64 (strAt U.len8tab (d.fst / (2 : Int) ^ Int.toNat (32 : Int) / (2 : Int) ^ Int.toNat (16 : Int)).toNat) ∧
  In64 ((32 : Int) + (16 : Int) + strAt U.len8tab (d.fst / (2 : Int) ^ Int.toNat (32 : Int) / (2 : Int) ^ Int.toNat (16 : Int)).toNat) ∧
  ((32 : Int) + (16 : Int) + strAt U.len8tab (d.fst / (2 : Int) ^ Int.toNat (32 : Int) / (2 : Int) ^ Int.toNat (16 : Int)).toNat, ()) = (U.bits d.fst, ()))) ∧
  (decide ((65536 : Int) ≤ d.fst / (2 : Int) ^ Int.toNat (32 : Int)) = false →
  (decide ((256 : Int) ≤ d.fst / (2 : Int) ^ Int.toNat (32 : Int)) = true →
  (0 : Int) ≤ (8 : Int) ∧
  (8 : Int) ≤ (64 : Int) ∧
  In64 ((32 : Int) + (8 : Int)) ∧
  (0 : Int) ≤ d.fst / (2 : Int) ^ Int.toNat (32 : Int) / (2 : Int) ^ Int.toNat (8 : Int) ∧
  d.fst / (2 : Int) ^ Int.toNat (32 : Int) / (2 : Int) ^ Int.toNat (8 : Int) ≤ (255 : Int) ∧
  (0 : Int) ≤ d.fst / (2 : Int) ^ Int.toNat (32 : Int) / (2 : Int) ^ Int.toNat (8 : Int) ∧
  d.fst / (2 : Int) ^ Int.toNat (32 : Int) / (2 : Int) ^ Int.toNat (8 : Int) < (↑U.len8tab.size : Int) ∧
  In64 (strAt U.len8tab (d.fst / (2 : Int) ^ Int.toNat (32 : Int) / (2 : Int) ^ Int.toNat (8 : Int)).toNat) ∧
  In64 ((32 : Int) + (8 : Int) + strAt U.len8tab (d.fst / (2 : Int) ^ Int.toNat (32 : Int) / (2 : Int) ^ Int.toNat (8 : Int)).toNat) ∧
  ((32 : Int) + (8 : Int) + strAt U.len8tab (d.fst / (2 : Int) ^ Int.toNat (32 : Int) / (2 : Int) ^ Int.toNat (8 : Int)).toNat, ()) = (U.bits d.fst, ())) ∧
  (decide ((256 : Int) ≤ d.fst / (2 : Int) ^ Int.toNat (32 : Int)) = false →
  (0 : Int) ≤ d.fst / (2 : Int) ^ Int.toNat (32 : Int) ∧
  d.fst / (2 : Int) ^ Int.toNat (32 : Int) ≤ (255 : Int) ∧
  (0 : Int) ≤ d.fst / (2 : Int) ^ Int.toNat (32 : Int) ∧
  d.fst / (2 : Int) ^ Int.toNat (32 : Int) < (↑U.len8tab.size : Int) ∧
  In64 (strAt U.len8tab (d.fst / (2 : Int) ^ Int.toNat (32 : Int)).toNat) ∧
  In64 ((32 : Int) + strAt U.len8tab (d.fst / (2 : Int) ^ Int.toNat (32 : Int)).toNat) ∧ ((32 : Int) + strAt U.len8tab (d.fst / (2 : Int) ^ Int.toNat (32 : Int)).toNat, ()) = (U.bits d.fst, ())))) ∧
  (decide ((4294967296 : Int) ≤ d.fst) = false →
  (decide ((65536 : Int) ≤ d.fst) = true →
  (0 : Int) ≤ (16 : Int) ∧
  (16 : Int) ≤ (64 : Int) ∧
  In64 ((0 : Int) + (16 : Int)) ∧
  (decide ((256 : Int) ≤ d.fst / (2 : Int) ^ Int.toNat (16 : Int)) = true →
  (0 : Int) ≤ (8 : Int) ∧
  (8 : Int) ≤ (64 : Int) ∧
  In64 ((0 : Int) + (16 : Int) + (8 : Int)) ∧
  (0 : Int) ≤ d.fst / (2 : Int) ^ Int.toNat (16 : Int) / (2 : Int) ^ Int.toNat (8 : Int) ∧
  d.fst / (2 : Int) ^ Int.toNat (16 : Int) / (2 : Int) ^ Int.toNat (8 : Int) ≤ (255 : Int) ∧
  (0 : Int) ≤ d.fst / (2 : Int) ^ Int.toNat (16 : Int) / (2 : Int) ^ Int.toNat (8 : Int) ∧
  d.fst / (2 : Int) ^ Int.toNat (16 : Int) / (2 : Int) ^ Int.toNat (8 : Int) < (↑U.len8tab.size : Int) ∧
  In64 (strAt U.len8tab (d.fst / (2 : Int) ^ Int.toNat (16 : Int) / (2 : Int) ^ Int.toNat (8 : Int)).toNat) ∧
  In64 ((0 : Int) + (16 : Int) + (8 : Int) + strAt U.len8tab (d.fst / (2 : Int) ^ Int.toNat (16 : Int) / (2 : Int) ^ Int.toNat (8 : Int)).toNat) ∧
  ((0 : Int) + (16 : Int) + (8 : Int) + strAt U.len8tab (d.fst / (2 : Int) ^ Int.toNat (16 : Int) / (2 : Int) ^ Int.toNat (8 : Int)).toNat, ()) = (U.bits d.fst, ())) ∧
  (decide ((256 : Int) ≤ d.fst / (2 : Int) ^ Int.toNat (16 : Int)) = false →
  (0 : Int) ≤ d.fst / (2 : Int) ^ Int.toNat (16 : Int) ∧
  d.fst / (2 : Int) ^ Int.toNat (16 : Int) ≤ (255 : Int) ∧
  (0 : Int) ≤ d.fst / (2 : Int) ^ Int.toNat (16 : Int) ∧
  d.fst / (2 : Int) ^ Int.toNat (16 : Int) < (↑U.len8tab.size : Int) ∧
  In64 (strAt U.len8tab (d.fst / (2 : Int) ^ Int.toNat (16 : Int)).toNat) ∧
  In64 ((0 : Int) + (16 : Int) + strAt U.len8tab (d.fst / (2 : Int) ^ Int.toNat (16 : Int)).toNat) ∧
  ((0 : Int) + (16 : Int) + strAt U.len8tab (d.fst / (2 : Int) ^ Int.toNat (16 : Int)).toNat, ()) = (U.bits d.fst, ()))) ∧
  (decide ((65536 : Int) ≤ d.fst) = false →
  (decide ((256 : Int) ≤ d.fst) = true →
  (0 : Int) ≤ (8 : Int) ∧
  (8 : Int) ≤ (64 : Int) ∧
  In64 ((0 : Int) + (8 : Int)) ∧
  (0 : Int) ≤ d.fst / (2 : Int) ^ Int.toNat (8 : Int) ∧
  d.fst / (2 : Int) ^ Int.toNat (8 : Int) ≤ (255 : Int) ∧
  (0 : Int) ≤ d.fst / (2 : Int) ^ Int.toNat (8 : Int) ∧
  d.fst / (2 : Int) ^ Int.toNat (8 : Int) < (↑U.len8tab.size : Int) ∧
  In64 (strAt U.len8tab (d.fst / (2 : Int) ^ Int.toNat (8 : Int)).toNat) ∧
  In64 ((0 : Int) + (8 : Int) + strAt U.len8tab (d.fst / (2 : Int) ^ Int.toNat (8 : Int)).toNat) ∧
  ((0 : Int) + (8 : Int) + strAt U.len8tab (d.fst / (2 : Int) ^ Int.toNat (8 : Int)).toNat, ()) = (U.bits d.fst, ())) ∧
  (decide ((256 : Int) ≤ d.fst) = false →
  (0 : Int) ≤ d.fst ∧
  d.fst ≤ (255 : Int) ∧
  (0 : Int) ≤ d.fst ∧ d.fst < (↑U.len8tab.size : Int) ∧ In64 (strAt U.len8tab d.fst.toNat) ∧ In64 ((0 : Int) + strAt U.len8tab d.fst.toNat) ∧ ((0 : Int) + strAt U.len8tab d.fst.toNat, ()) = (U.bits d.fst, ()))))

theorem vc101_eq : fnVC (ctx 25 [] []) (fun _ => none) Try.f101 (bodyOf Try.f101) sp101 = vc101 := by kernel_rfl

def sp90 : Spec := ⟨[.val (.uint .u64)], [.int], false, fun d => [0 ≤ d.1 ∧ d.1 ≤ 12], fun d => (U.bits d.1, ())⟩
def vc90 : Prop :=
  ∀ (d : Int × Unit), (0 : Int) ≤ d.fst ∧ d.fst ≤ (12 : Int) → (false = true → False) ∧ (false = false → ((0 : Int) ≤ d.fst ∧ d.fst ≤ (12 : Int)) ∧ (U.bits d.fst, ()) = (U.bits d.fst, ()))

theorem vc90_eq : fnVC (ctx 8 [(101, sp101)] []) (fun _ => none) Try.f90 (bodyOf Try.f90) sp90 = vc90 := by kernel_rfl


def so92 : OSpec := ⟨[.own shL true, .val .int, .val .int, .fn [tG, tG] [.int]], [], fun d => [d.2.1 = 0 ∧ d.2.2.1 = (d.1.length : Int) ∧ d.1.length ≤ 100000, U.okCmp d.2.2.2.1.pre d.1], fun d => ((), (U.isort d.2.2.2.1.F d.1, ()))⟩
def an92 : Ann := fun r => match r with
  | 1 => some fun σ => { X := Nat, sl := fun i => [(8, .dat .int (i : Int))], ob := fun i => [(1000000, some (.row 27 tG false .unk (U.part (gfn [tG, tG] [.int] σ 3) (gr tG σ 1000000) i)))], inv := fun i => 1 ≤ i ∧ i ≤ max (gr tG σ 1000000).length 1, mu := fun i => (gr tG σ 1000000).length - i }
  | 4 => some fun σ => { X := Nat × List GD, sl := fun x => [(9, .dat .int (x.1 : Int))], ob := fun x => [(1000000, some (.row 27 tG false .unk x.2))], inv := fun x => (x.1 : Int) ≤ gd .int σ 8 ∧ x.2.Perm (gr tG σ 1000000) ∧ U.sink (gfn [tG, tG] [.int] σ 3) x.2 x.1 = U.sink (gfn [tG, tG] [.int] σ 3) (gr tG σ 1000000) (gd .int σ 8).toNat, mu := fun x => x.1 }
  | _ => none
def vc92 : Prop :=
  ∀ (d : List (Int × Int × Int × Int × Int × Int × Unit) × Int × Int × FnD [tG, tG] [Ty.int] × Unit),
  d.snd.fst = (0 : Int) ∧ d.snd.snd.fst = (↑d.fst.length : Int) ∧ d.fst.length ≤ (100000 : Nat) →
  U.okCmp d.snd.snd.snd.fst.1 d.fst →
  In64 (d.snd.fst + (1 : Int)) ∧
  (∃ (x : Nat), ((d.snd.fst + (1 : Int) = (↑x : Int) ∧ True) ∧ d.fst = U.part d.snd.snd.snd.fst.2 d.fst x ∧ True) ∧ (1 : Nat) ≤ x ∧ x ≤ max d.fst.length (1 : Nat)) ∧
  ∀ (x : Nat),
  (1 : Nat) ≤ x ∧ x ≤ max d.fst.length (1 : Nat) →
  (decide ((↑x : Int) < d.snd.snd.fst) = true →
  (∃ (x_3 : Nat × List (Int × Int × Int × Int × Int × Int × Unit)),
  (((↑x : Int) = (↑x_3.fst : Int) ∧ True) ∧ U.part d.snd.snd.snd.fst.2 d.fst x = x_3.snd ∧ True) ∧
  (↑x_3.fst : Int) ≤ (↑x : Int) ∧ x_3.snd.Perm (U.part d.snd.snd.snd.fst.2 d.fst x) ∧ U.sink d.snd.snd.snd.fst.2 x_3.snd x_3.fst = U.sink d.snd.snd.snd.fst.2 (U.part d.snd.snd.snd.fst.2 d.fst x) (↑x : Int).toNat) ∧
  ∀ (x_3 : Nat × List (Int × Int × Int × Int × Int × Int × Unit)),
  (↑x_3.fst : Int) ≤ (↑x : Int) ∧ x_3.snd.Perm (U.part d.snd.snd.snd.fst.2 d.fst x) ∧ U.sink d.snd.snd.snd.fst.2 x_3.snd x_3.fst = U.sink d.snd.snd.snd.fst.2 (U.part d.snd.snd.snd.fst.2 d.fst x) (↑x : Int).toNat →
  (decide (d.snd.fst < (↑x_3.fst : Int)) = true → (0 : Int) ≤ (↑x_3.fst : Int)) ∧
  (decide (d.snd.fst < (↑x_3.fst : Int)) = true → (↑x_3.fst : Int) < (↑x_3.snd.length : Int)) ∧
  (decide (d.snd.fst < (↑x_3.fst : Int)) = true → In64 ((↑x_3.fst : Int) - (1 : Int))) ∧
  (decide (d.snd.fst < (↑x_3.fst : Int)) = true → (0 : Int) ≤ (↑x_3.fst : Int) - (1 : Int)) ∧
  (decide (d.snd.fst < (↑x_3.fst : Int)) = true → (↑x_3.fst : Int) - (1 : Int) < (↑x_3.snd.length : Int)) ∧
  asksG (decide (d.snd.fst < (↑x_3.fst : Int))) (d.snd.snd.snd.fst.1 (nth x_3.snd (↑x_3.fst : Int).toNat, nth x_3.snd ((↑x_3.fst : Int) - (1 : Int)).toNat, ()))
  (((decide (d.snd.fst < (↑x_3.fst : Int)) && decide ((d.snd.snd.snd.fst.2 (nth x_3.snd (↑x_3.fst : Int).toNat, nth x_3.snd ((↑x_3.fst : Int) - (1 : Int)).toNat, ())).fst < (0 : Int))) = true →
  In64 ((↑x_3.fst : Int) - (1 : Int)) ∧
  In64 ((↑x_3.fst : Int) - (1 : Int)) ∧
  (0 : Int) ≤ (↑x_3.fst : Int) - (1 : Int) ∧
  (↑x_3.fst : Int) - (1 : Int) < (↑x_3.snd.length : Int) ∧
  (0 : Int) ≤ (↑x_3.fst : Int) ∧
  (↑x_3.fst : Int) < (↑x_3.snd.length : Int) ∧
  (0 : Int) ≤ (↑x_3.fst : Int) ∧
  (↑x_3.fst : Int) < (↑x_3.snd.length : Int) ∧
  (0 : Int) ≤ (↑x_3.fst : Int) - (1 : Int) ∧
  (↑x_3.fst : Int) - (1 : Int) < (↑(x_3.snd.set (↑x_3.fst : Int).toNat (nth x_3.snd ((↑x_3.fst : Int) - (1 : Int)).toNat)).length : Int) ∧
  In64 ((↑x_3.fst : Int) - (1 : Int)) ∧
  ∃ (x' : Nat × List (Int × Int × Int × Int × Int × Int × Unit)),
  (((↑x_3.fst : Int) - (1 : Int) = (↑x'.fst : Int) ∧ True) ∧
  (x_3.snd.set (↑x_3.fst : Int).toNat (nth x_3.snd ((↑x_3.fst : Int) - (1 : Int)).toNat)).set ((↑x_3.fst : Int) - (1 : Int)).toNat (nth x_3.snd (↑x_3.fst : Int).toNat) =
  x'.snd ∧
  True) ∧
  ((↑x'.fst : Int) ≤ (↑x : Int) ∧
  x'.snd.Perm (U.part d.snd.snd.snd.fst.2 d.fst x) ∧
  U.sink d.snd.snd.snd.fst.2 x'.snd x'.fst = U.sink d.snd.snd.snd.fst.2 (U.part d.snd.snd.snd.fst.2 d.fst x) (↑x : Int).toNat) ∧
  x'.fst < x_3.fst) ∧
  ((decide (d.snd.fst < (↑x_3.fst : Int)) && decide ((d.snd.snd.snd.fst.2 (nth x_3.snd (↑x_3.fst : Int).toNat, nth x_3.snd ((↑x_3.fst : Int) - (1 : Int)).toNat, ())).fst < (0 : Int))) = false →
  In64 ((↑x : Int) + (1 : Int)) ∧
  ∃ (x' : Nat),
  (((↑x : Int) + (1 : Int) = (↑x' : Int) ∧ True) ∧ x_3.snd = U.part d.snd.snd.snd.fst.2 d.fst x' ∧ True) ∧
  ((1 : Nat) ≤ x' ∧ x' ≤ max d.fst.length (1 : Nat)) ∧ d.fst.length - x' < d.fst.length - x))) ∧
  (decide ((↑x : Int) < d.snd.snd.fst) = false → () = () ∧ (U.part d.snd.snd.snd.fst.2 d.fst x, ()) = (U.isort d.snd.snd.snd.fst.2 d.fst, ()))

theorem vc92_eq : ofnVC (ctx 53 [] []) (an92) Try.f92 (bodyOf Try.f92) so92 = vc92 := by kernel_rfl


def so89 : OSpec := ⟨[.own shL true, .val .int, .val .int, .val .int, .fn [tG, tG] [.int]], [], fun d => [d.2.1 = 0 ∧ d.2.2.1 = (d.1.length : Int) ∧ d.1.length ≤ 12, U.okCmp d.2.2.2.2.1.pre d.1], fun d => ((), (U.isort d.2.2.2.2.1.F d.1, ()))⟩
def an89 : Ann := fun r => match r with
  | 1000002 => some fun _ => { X := Unit, sl := fun _ => [], ob := fun _ => [], inv := fun _ => True, mu := fun _ => 0 }
  | _ => none
def vc89 : Prop :=
  ∀ (d : List (Int × Int × Int × Int × Int × Int × Unit) × Int × Int × Int × FnD [tG, tG] [Ty.int] × Unit),
  d.snd.fst = (0 : Int) ∧ d.snd.snd.fst = (↑d.fst.length : Int) ∧ d.fst.length ≤ (12 : Nat) →
  U.okCmp d.snd.snd.snd.snd.fst.1 d.fst →
  In64 (d.snd.snd.fst - d.snd.fst) ∧
  (decide (d.snd.snd.fst - d.snd.fst ≤ (12 : Int)) = true →
  (d.snd.fst = (0 : Int) ∧ d.snd.snd.fst = (↑d.fst.length : Int) ∧ d.fst.length ≤ (100000 : Nat)) ∧
  U.okCmp d.snd.snd.snd.snd.fst.1 d.fst ∧ () = () ∧ (U.isort d.snd.snd.snd.snd.fst.2 d.fst, ()) = (U.isort d.snd.snd.snd.snd.fst.2 d.fst, ())) ∧
  (decide (d.snd.snd.fst - d.snd.fst ≤ (12 : Int)) = false → (decide (d.snd.snd.snd.fst = (0 : Int)) = true → False) ∧ (decide (d.snd.snd.snd.fst = (0 : Int)) = false → ((!true) = true → False) ∧ ((!true) = false → False)))

theorem vc89_eq : ofnVC (ctx 148 [] [(92, so92)]) (an89) Try.f89 (bodyOf Try.f89) so89 = vc89 := by kernel_rfl


def so79 : OSpec := ⟨[.own shL true, .fn [tG, tG] [.int]], [], fun d => [d.1.length ≤ 12, U.okCmp d.2.1.pre d.1], fun d => ((), (U.isort d.2.1.F d.1, ()))⟩
def vc79 : Prop :=
  ∀ (d : List (Int × Int × Int × Int × Int × Int × Unit) × FnD [tG, tG] [Ty.int] × Unit),
  d.fst.length ≤ (12 : Nat) →
  U.okCmp d.snd.fst.1 d.fst →
  d.fst.length < (4611686018427387904 : Nat) →
  (0 : Int) ≤ (↑d.fst.length : Int) ∧
  (↑d.fst.length : Int) ≤ (18446744073709551615 : Int) ∧
  ((0 : Int) ≤ (↑d.fst.length : Int) ∧ (↑d.fst.length : Int) ≤ (12 : Int)) ∧
  ((0 : Int) = (0 : Int) ∧ (↑d.fst.length : Int) = (↑d.fst.length : Int) ∧ d.fst.length ≤ (12 : Nat)) ∧ U.okCmp d.snd.fst.1 d.fst ∧ () = () ∧ (U.isort d.snd.fst.2 d.fst, ()) = (U.isort d.snd.fst.2 d.fst, ())

theorem vc79_eq : ofnVC (ctx 14 [(90, sp90)] [(89, so89)]) (fun _ => none) Try.f79 (bodyOf Try.f79) so79 = vc79 := by kernel_rfl


def so69 : OSpec := ⟨[.val (.slice tG)], [shL], fun d => [d.1.length ≤ 100000], fun d => ((d.1, ()), ())⟩
def vc69 : Prop :=
  ∀ (d : List (Int × Int × Int × Int × Int × Int × Unit) × Unit),
  d.fst.length ≤ (100000 : Nat) →
  ∀ (β : Bool), (β = true → d.fst = []) → (β = true → ([], ()) = (d.fst, ()) ∧ () = ()) ∧ (β = false → ((0 : Nat) + d.fst.length) * (48 : Nat) ≤ (140737488355328 : Nat) ∧ ([] ++ d.fst, ()) = (d.fst, ()) ∧ () = ())

theorem vc69_eq : ofnVC (ctx 8 [] []) (fun _ => none) Try.f69 (bodyOf Try.f69) so69 = vc69 := by kernel_rfl


def so68 : OSpec := ⟨[.own shL false, .fn [tG] [.bool]], [.cl (.dat (.slice tG))], fun d => [d.1.length ≤ 100000, ∀ g ∈ d.1, U.allP (d.2.1.pre (g, ()))], fun d => ((d.1.filter (U.keeps d.2.1.F), ()), ())⟩
def an68 : Ann := fun r => match r with
  | 5 => some fun σ => { X := Nat × List GD, sl := fun x => [(5, .dat .int ((U.keptN (gfn [tG] [.bool] σ 1) (gr tG σ 1000000) x.1 : Nat) : Int)), (6, .dat .int (x.1 : Int))], ob := fun x => [(1000000, some (.row 27 tG false .unk x.2))], inv := fun x => x.1 ≤ (gr tG σ 1000000).length ∧ x.2.length = (gr tG σ 1000000).length ∧ U.keptN (gfn [tG] [.bool] σ 1) (gr tG σ 1000000) x.1 < x.1 ∧ x.2.take (U.keptN (gfn [tG] [.bool] σ 1) (gr tG σ 1000000) x.1) = ((gr tG σ 1000000).take x.1).filter (U.keeps (gfn [tG] [.bool] σ 1)) ∧ x.2.drop x.1 = (gr tG σ 1000000).drop x.1, mu := fun x => (gr tG σ 1000000).length - x.1 }
  | _ => none
def vc68 : Prop :=
  ∀ (d : List (Int × Int × Int × Int × Int × Int × Unit) × FnD [tG] [Ty.bool] × Unit),
  d.fst.length ≤ (100000 : Nat) →
  (∀ (g : Int × Int × Int × Int × Int × Int × Unit), g ∈ d.fst → U.allP (d.snd.fst.1 (g, ()))) →
  (∀ (g : Int × Int × Int × Int × Int × Int × Unit), g ∈ d.fst → U.allP (d.snd.fst.1 (g, ()))) ∧
  (decide (U.idx (U.apply d.snd.fst.2) d.fst = (-1 : Int)) = true → (d.fst, ()) = (List.filter (U.keeps d.snd.fst.2) d.fst, ()) ∧ () = ()) ∧
  (decide (U.idx (U.apply d.snd.fst.2) d.fst = (-1 : Int)) = false →
  In64 (U.idx (U.apply d.snd.fst.2) d.fst + (1 : Int)) ∧
  (∃ (x : Nat × List (Int × Int × Int × Int × Int × Int × Unit)),
  ((U.idx (U.apply d.snd.fst.2) d.fst = (↑(U.keptN d.snd.fst.2 d.fst x.fst) : Int) ∧ U.idx (U.apply d.snd.fst.2) d.fst + (1 : Int) = (↑x.fst : Int) ∧ True) ∧ d.fst = x.snd ∧ True) ∧
  x.fst ≤ d.fst.length ∧
  x.snd.length = d.fst.length ∧
  U.keptN d.snd.fst.2 d.fst x.fst < x.fst ∧ List.take (U.keptN d.snd.fst.2 d.fst x.fst) x.snd = List.filter (U.keeps d.snd.fst.2) (List.take x.fst d.fst) ∧ List.drop x.fst x.snd = List.drop x.fst d.fst) ∧
  ∀ (x : Nat × List (Int × Int × Int × Int × Int × Int × Unit)),
  x.fst ≤ d.fst.length ∧
  x.snd.length = d.fst.length ∧
  U.keptN d.snd.fst.2 d.fst x.fst < x.fst ∧ List.take (U.keptN d.snd.fst.2 d.fst x.fst) x.snd = List.filter (U.keeps d.snd.fst.2) (List.take x.fst d.fst) ∧ List.drop x.fst x.snd = List.drop x.fst d.fst →
  x.snd.length < (4611686018427387904 : Nat) →
  (decide ((↑x.fst : Int) < (↑x.snd.length : Int)) = true →
  (0 : Int) ≤ (↑x.fst : Int) ∧
  (↑x.fst : Int) < (↑x.snd.length : Int) ∧
  asks
  (d.snd.fst.1
  (((nth x.snd (↑x.fst : Int).toNat).fst, (nth x.snd (↑x.fst : Int).toNat).snd.fst, (nth x.snd (↑x.fst : Int).toNat).snd.snd.fst, (nth x.snd (↑x.fst : Int).toNat).snd.snd.snd.fst,
  (nth x.snd (↑x.fst : Int).toNat).snd.snd.snd.snd.fst, (nth x.snd (↑x.fst : Int).toNat).snd.snd.snd.snd.snd.fst, ()),
  ()))
  (((!(d.snd.fst.2
  (((nth x.snd (↑x.fst : Int).toNat).fst, (nth x.snd (↑x.fst : Int).toNat).snd.fst, (nth x.snd (↑x.fst : Int).toNat).snd.snd.fst, (nth x.snd (↑x.fst : Int).toNat).snd.snd.snd.fst,
  (nth x.snd (↑x.fst : Int).toNat).snd.snd.snd.snd.fst, (nth x.snd (↑x.fst : Int).toNat).snd.snd.snd.snd.snd.fst, ()),
  ())).fst) =
  true →
  (0 : Int) ≤ (↑(U.keptN d.snd.fst.2 d.fst x.fst) : Int) ∧
  (↑(U.keptN d.snd.fst.2 d.fst x.fst) : Int) < (↑x.snd.length : Int) ∧
  In64 ((↑(U.keptN d.snd.fst.2 d.fst x.fst) : Int) + (1 : Int)) ∧
  In64 ((↑x.fst : Int) + (1 : Int)) ∧
  ∃ (x' : Nat × List (Int × Int × Int × Int × Int × Int × Unit)),
  (((↑x.fst : Int) + (1 : Int) = (↑x'.fst : Int) ∧ (↑(U.keptN d.snd.fst.2 d.fst x.fst) : Int) + (1 : Int) = (↑(U.keptN d.snd.fst.2 d.fst x'.fst) : Int) ∧ True) ∧
  x.snd.set (↑(U.keptN d.snd.fst.2 d.fst x.fst) : Int).toNat
  ((nth x.snd (↑x.fst : Int).toNat).fst, (nth x.snd (↑x.fst : Int).toNat).snd.fst, (nth x.snd (↑x.fst : Int).toNat).snd.snd.fst, (nth x.snd (↑x.fst : Int).toNat).snd.snd.snd.fst,
  (nth x.snd (↑x.fst : Int).toNat).snd.snd.snd.snd.fst, (nth x.snd (↑x.fst : Int).toNat).snd.snd.snd.snd.snd.fst, ()) =
  x'.snd ∧
  True) ∧
  (x'.fst ≤ d.fst.length ∧
  x'.snd.length = d.fst.length ∧
  U.keptN d.snd.fst.2 d.fst x'.fst < x'.fst ∧
  List.take (U.keptN d.snd.fst.2 d.fst x'.fst) x'.snd = List.filter (U.keeps d.snd.fst.2) (List.take x'.fst d.fst) ∧ List.drop x'.fst x'.snd = List.drop x'.fst d.fst) ∧
  d.fst.length - x'.fst < d.fst.length - x.fst) ∧
  ((!(d.snd.fst.2
  (((nth x.snd (↑x.fst : Int).toNat).fst, (nth x.snd (↑x.fst : Int).toNat).snd.fst, (nth x.snd (↑x.fst : Int).toNat).snd.snd.fst, (nth x.snd (↑x.fst : Int).toNat).snd.snd.snd.fst,
  (nth x.snd (↑x.fst : Int).toNat).snd.snd.snd.snd.fst, (nth x.snd (↑x.fst : Int).toNat).snd.snd.snd.snd.snd.fst, ()),
  ())).fst) =
  false →
  In64 ((↑x.fst : Int) + (1 : Int)) ∧
  ∃ (x' : Nat × List (Int × Int × Int × Int × Int × Int × Unit)),
  (((↑(U.keptN d.snd.fst.2 d.fst x.fst) : Int) = (↑(U.keptN d.snd.fst.2 d.fst x'.fst) : Int) ∧ (↑x.fst : Int) + (1 : Int) = (↑x'.fst : Int) ∧ True) ∧ x.snd = x'.snd ∧ True) ∧
  (x'.fst ≤ d.fst.length ∧
  x'.snd.length = d.fst.length ∧
  U.keptN d.snd.fst.2 d.fst x'.fst < x'.fst ∧
  List.take (U.keptN d.snd.fst.2 d.fst x'.fst) x'.snd = List.filter (U.keeps d.snd.fst.2) (List.take x'.fst d.fst) ∧ List.drop x'.fst x'.snd = List.drop x'.fst d.fst) ∧
  d.fst.length - x'.fst < d.fst.length - x.fst))) ∧
  (decide ((↑x.fst : Int) < (↑x.snd.length : Int)) = false →
  (0 : Int) ≤ (↑(U.keptN d.snd.fst.2 d.fst x.fst) : Int) ∧
  (↑(U.keptN d.snd.fst.2 d.fst x.fst) : Int) ≤ (↑x.snd.length : Int) ∧
  (↑x.snd.length : Int) ≤ (↑x.snd.length : Int) ∧
  (↑(U.keptN d.snd.fst.2 d.fst x.fst) : Int).toNat + ((↑x.snd.length : Int).toNat - (↑(U.keptN d.snd.fst.2 d.fst x.fst) : Int).toNat) = x.snd.length ∧
  (0 : Int) ≤ (0 : Int) ∧
  (0 : Int) ≤ (↑(U.keptN d.snd.fst.2 d.fst x.fst) : Int) ∧
  (↑(U.keptN d.snd.fst.2 d.fst x.fst) : Int) ≤
  (↑(List.take (↑(U.keptN d.snd.fst.2 d.fst x.fst) : Int).toNat x.snd ++
  List.replicate ((↑x.snd.length : Int).toNat - (↑(U.keptN d.snd.fst.2 d.fst x.fst) : Int).toNat) ((0 : Int), (0 : Int), (0 : Int), (0 : Int), (0 : Int), (0 : Int), ())).length :
  Int) ∧
  (List.take ((↑(U.keptN d.snd.fst.2 d.fst x.fst) : Int).toNat - Int.toNat (0 : Int))
  (List.drop (Int.toNat (0 : Int))
  (List.take (↑(U.keptN d.snd.fst.2 d.fst x.fst) : Int).toNat x.snd ++
  List.replicate ((↑x.snd.length : Int).toNat - (↑(U.keptN d.snd.fst.2 d.fst x.fst) : Int).toNat) ((0 : Int), (0 : Int), (0 : Int), (0 : Int), (0 : Int), (0 : Int), ()))),
  ()) =
  (List.filter (U.keeps d.snd.fst.2) d.fst, ()) ∧
  () = ()))

theorem vc68_eq : ofnVC (ctx 42 [(86, sp86)] []) (an68) Try.f68 (bodyOf Try.f68) so68 = vc68 := by kernel_rfl


def sp70 : Spec := ⟨[.val tG, .ref (.slice tG)], [.bool], false, fun _ => [], fun d => (U.drops d.2.1 d.1, ())⟩
def vc70 : Prop :=
  ∀ (d : (Int × Int × Int × Int × Int × Int × Unit) × List (Int × Int × Int × Int × Int × Int × Unit) × Unit),
  ((!decide (d.fst.snd.snd.snd.snd.snd.fst = (0 : Int))) = true → ∀ (g : Int × Int × Int × Int × Int × Int × Unit), g ∈ d.snd.fst → U.allP []) ∧
  (decide (d.fst.snd.snd.snd.snd.snd.fst = (0 : Int)) ||
  d.snd.fst.any
  (U.apply fun (x : (Int × Int × Int × Int × Int × Int × Unit) × Unit) =>
  (decide
  (U.au x.fst = U.au (d.fst.fst, d.fst.snd.fst, d.fst.snd.snd.fst, d.fst.snd.snd.snd.fst, d.fst.snd.snd.snd.snd.fst, d.fst.snd.snd.snd.snd.snd.fst, ()) ∧
  U.st (d.fst.fst, d.fst.snd.fst, d.fst.snd.snd.fst, d.fst.snd.snd.snd.fst, d.fst.snd.snd.snd.snd.fst, d.fst.snd.snd.snd.snd.snd.fst, ()) < U.st x.fst) &&
  U.common x.fst (d.fst.fst, d.fst.snd.fst, d.fst.snd.snd.fst, d.fst.snd.snd.snd.fst, d.fst.snd.snd.snd.snd.fst, d.fst.snd.snd.snd.snd.snd.fst, ()),
  ())),
  ()) =
  (U.drops d.snd.fst d.fst, ())

theorem vc70_eq : fnVC (ctx 12 [(71, sp71), (72, sp72)] []) (fun _ => none) Try.f70 (bodyOf Try.f70) sp70 = vc70 := by kernel_rfl


def so60 : OSpec := ⟨[.own shB false], [.cl (.dat (.slice tG))], fun d => [U.okMap d.1.1], fun d => ((U.isort U.cmpF (U.vals d.1.1), ()), ())⟩
def an60 : Ann := fun r => match r with
  | 3 => some fun σ => { X := List (KD' × GD) × List GD, sl := fun _ => [(3, .own 3 tG)], ob := fun x => [(3, some (.row 27 tG false .yes x.2)), (10, some (.iter tK tG x.1 none))], inv := fun x => (U.vals x.1 ++ x.2).Perm (U.vals (gmap σ 1000000000)), mu := fun x => x.1.length }
  | _ => none
def vc60 : Prop :=
  ∀ (d : (List ((Int × Int × Unit) × Int × Int × Int × Int × Int × Int × Unit) × Int × Unit) × Unit),
  U.okMap d.fst.fst →
  (∃ (x : List ((Int × Int × Unit) × Int × Int × Int × Int × Int × Int × Unit) × List (Int × Int × Int × Int × Int × Int × Unit)),
  ((True ∧ True) ∧ x.snd = [] ∧ d.fst.fst = x.fst ∧ True) ∧ (U.vals x.fst ++ x.snd).Perm (U.vals d.fst.1)) ∧
  ∀ (x : List ((Int × Int × Unit) × Int × Int × Int × Int × Int × Int × Unit) × List (Int × Int × Int × Int × Int × Int × Unit)),
  (U.vals x.fst ++ x.snd).Perm (U.vals d.fst.1) →
  (x.fst = [] →
  (false = true → False) ∧
  (false = false →
  x.snd.length ≤ (12 : Nat) ∧
  U.okCmp (fun (x : (Int × Int × Int × Int × Int × Int × Unit) × (Int × Int × Int × Int × Int × Int × Unit) × Unit) => [U.small x.fst ∧ U.small x.snd.fst]) x.snd ∧
  (U.isort (fun (x : (Int × Int × Int × Int × Int × Int × Unit) × (Int × Int × Int × Int × Int × Int × Unit) × Unit) => (U.cmp x.fst x.snd.fst, ())) x.snd, ()) = (U.isort U.cmpF (U.vals d.fst.fst), ()) ∧ () = ())) ∧
  ∀ (pre : List ((Int × Int × Unit) × Int × Int × Int × Int × Int × Int × Unit)) (x_2 : (Int × Int × Unit) × Int × Int × Int × Int × Int × Int × Unit)
  (post : List ((Int × Int × Unit) × Int × Int × Int × Int × Int × Int × Unit)),
  x.fst = pre ++ x_2 :: post →
  (true = true →
  (x.snd.length + [(x_2.snd.fst, x_2.snd.snd.fst, x_2.snd.snd.snd.fst, x_2.snd.snd.snd.snd.fst, x_2.snd.snd.snd.snd.snd.fst, x_2.snd.snd.snd.snd.snd.snd.fst, ())].length) * (48 : Nat) ≤ (140737488355328 : Nat) ∧
  ∃ (x' : List ((Int × Int × Unit) × Int × Int × Int × Int × Int × Int × Unit) × List (Int × Int × Int × Int × Int × Int × Unit)),
  ((True ∧ True) ∧ x.snd ++ [(x_2.snd.fst, x_2.snd.snd.fst, x_2.snd.snd.snd.fst, x_2.snd.snd.snd.snd.fst, x_2.snd.snd.snd.snd.snd.fst, x_2.snd.snd.snd.snd.snd.snd.fst, ())] = x'.snd ∧ pre ++ post = x'.fst ∧ True) ∧
  (U.vals x'.fst ++ x'.snd).Perm (U.vals d.fst.1) ∧ x'.fst.length < x.fst.length) ∧
  (true = false →
  x.snd.length ≤ (12 : Nat) ∧
  U.okCmp (fun (x : (Int × Int × Int × Int × Int × Int × Unit) × (Int × Int × Int × Int × Int × Int × Unit) × Unit) => [U.small x.fst ∧ U.small x.snd.fst]) x.snd ∧
  (U.isort (fun (x : (Int × Int × Int × Int × Int × Int × Unit) × (Int × Int × Int × Int × Int × Int × Unit) × Unit) => (U.cmp x.fst x.snd.fst, ())) x.snd, ()) = (U.isort U.cmpF (U.vals d.fst.fst), ()) ∧ () = ())

theorem vc60_eq : ofnVC (ctx 22 [(80, sp80)] [(79, so79)]) (an60) Try.f60 (bodyOf Try.f60) so60 = vc60 := by kernel_rfl


def sp45 : Spec := ⟨[.val (.slice tG)], [.slice tG], false, fun d => [d.1.length ≤ 12, ∀ g ∈ d.1, U.small g], fun d => (U.heldG d.1, ())⟩
def vc45 : Prop :=
  ∀ (d : List (Int × Int × Int × Int × Int × Int × Unit) × Unit),
  d.fst.length ≤ (12 : Nat) →
  (∀ (g : Int × Int × Int × Int × Int × Int × Unit), g ∈ d.fst → U.small g) →
  [d.fst].length ≤ (2 : Nat) ∧
  (∀ (l : List (Int × Int × Int × Int × Int × Int × Unit)), l ∈ [d.fst] → l.length ≤ (40000 : Nat)) ∧
  U.okMap (U.fillAll [d.fst]).fst ∧
  (U.isort U.cmpF (U.vals (U.fillAll [d.fst]).fst)).length ≤ (100000 : Nat) ∧
  (U.isort U.cmpF (U.vals (U.fillAll [d.fst]).fst)).length ≤ (100000 : Nat) ∧
  (∀ (g : Int × Int × Int × Int × Int × Int × Unit), g ∈ U.isort U.cmpF (U.vals (U.fillAll [d.fst]).fst) → U.allP []) ∧
  (List.filter (U.keeps fun (x : (Int × Int × Int × Int × Int × Int × Unit) × Unit) => (U.drops (U.isort U.cmpF (U.vals (U.fillAll [d.fst]).fst)) x.fst, ())) (U.isort U.cmpF (U.vals (U.fillAll [d.fst]).fst)), ()) =
  (U.heldG d.fst, ())

theorem vc45_eq : fnVC (ctx 12 [(70, sp70)] [(59, so59), (60, so60), (69, so69), (68, so68)]) (fun _ => none) Try.f45 (bodyOf Try.f45) sp45 = vc45 := by kernel_rfl


def sp47 : Spec := ⟨[.val (.slice tG), .val .int, .val .int], [.slice tG], false, fun d => [d.1.length ≤ 100000], fun d => (d.1.filter (U.inFrame d.2.1 d.2.2.1), ())⟩
def vc47 : Prop :=
  ∀ (d : List (Int × Int × Int × Int × Int × Int × Unit) × Int × Int × Unit),
  d.fst.length ≤ (100000 : Nat) →
  d.fst.length ≤ (100000 : Nat) ∧
  d.fst.length ≤ (100000 : Nat) ∧
  (∀ (g : Int × Int × Int × Int × Int × Int × Unit), g ∈ d.fst → U.allP []) ∧
  (List.filter (U.keeps fun (x : (Int × Int × Int × Int × Int × Int × Unit) × Unit) => (!decide (U.fi x.fst = d.snd.fst ∧ U.fr x.fst ≤ d.snd.snd.fst ∧ d.snd.snd.fst < U.to x.fst), ())) d.fst, ()) =
  (List.filter (U.inFrame d.snd.fst d.snd.snd.fst) d.fst, ())

theorem vc47_eq : fnVC (ctx 11 [(74, sp74)] [(69, so69), (68, so68)]) (fun _ => none) Try.f47 (bodyOf Try.f47) sp47 = vc47 := by kernel_rfl


end Go.X
/-
  The program's functions and Go's library do what they are asked to (5): sorting, deleting, what holds.
-/
namespace Go.X
open Go.Proofs

/-! ### Swapping, sinking -/

theorem swap_perm {l : List GD} {j k : Nat} (hj : j < l.length) (hk : k < l.length) : (U.swap l j k).Perm l := by
  unfold U.swap
  rw [L.nth_lt hj, L.nth_lt hk]
  exact List.set_set_perm hj hk

theorem sink_perm {c : U.Cmp} : ∀ (j : Nat) (l : List GD), j < l.length → (U.sink c l j).Perm l
  | 0, l, _ => List.Perm.refl _
  | j + 1, l, h => by
    unfold U.sink
    have hs := swap_perm (l := l) (j := j + 1) (k := j) h (by omega)
    split
    · exact (sink_perm j _ (by rw [hs.length_eq]; omega)).trans hs
    · exact List.Perm.refl _

theorem part_succ (c : U.Cmp) (l : List GD) (i : Nat) : U.part c l (i + 1) = U.sink c (U.part c l i) i := by
  simp [U.part, List.range_succ]

theorem part_perm {c : U.Cmp} {l : List GD} : ∀ (i : Nat), i ≤ l.length → (U.part c l i).Perm l
  | 0, _ => List.Perm.refl _
  | i + 1, h => by
    rw [part_succ]
    have ih := part_perm (c := c) (l := l) i (by omega)
    exact (sink_perm i _ (by rw [ih.length_eq]; omega)).trans ih

theorem isort_perm (c : U.Cmp) (l : List GD) : (U.isort c l).Perm l := part_perm _ (Nat.le_refl _)

theorem allP_asksG {γ : Bool} {l : List Prop} {k : Prop} (h : γ = true → U.allP l) (hk : k) : asksG γ l k := by
  induction l with
  | nil => exact hk
  | cons p l ih => exact ⟨fun hg => (h hg).1, ih (fun hg => (h hg).2)⟩

/-! ### Bits -/

theorem tab8 : ∀ n : Nat, n < 13 → strAt U.len8tab n = U.bits (n : Int) := by decide +kernel

theorem bits_in (n : Int) : 0 ≤ U.bits n ∧ U.bits n ≤ 4 := by
  unfold U.bits
  split
  · omega
  split
  · omega
  split
  · omega
  split <;> omega

theorem h101 : vc101 := by
  rintro ⟨n, ⟨⟩⟩ ⟨h0, h1⟩
  have h0 : 0 ≤ n := h0
  have h1 : n ≤ 12 := h1
  refine ⟨fun h => absurd (of_decide_eq_true h) (by simp only; omega), fun _ => ⟨fun h => absurd (of_decide_eq_true h) (by simp only; omega), fun _ => ⟨fun h => absurd (of_decide_eq_true h) (by simp only; omega), fun _ => ?_⟩⟩⟩
  have ht := tab8 n.toNat (by omega)
  rw [Int.toNat_of_nonneg h0] at ht
  have hb := bits_in n
  simp only
  rw [ht]
  refine ⟨by omega, by omega, by omega, ?_, by unfold In64; omega, by unfold In64; omega, by rw [Int.zero_add]⟩
  have : U.len8tab.size = 256 := by decide +kernel
  omega

theorem ok101 : FnOK PR 101 sp101 := mkFn (vc101_eq.mpr h101) Try.func101 (by kernel_rfl) (by kernel_rfl) (by kernel_rfl) (by kernel_rfl) trivial trivial

theorem h90 : vc90 := by
  rintro ⟨n, ⟨⟩⟩ h
  exact ⟨fun e => (by cases e), fun _ => ⟨h, rfl⟩⟩

theorem ok90 : FnOK PR 90 sp90 := mkFn (vc90_eq.mpr h90) Try.func90 (by kernel_rfl) (by kernel_rfl) (by kernel_rfl) (by kernel_rfl) ⟨fun _ => ok101, trivial⟩ trivial

/-! ### Sorting -/

theorem part_one (c : U.Cmp) (l : List GD) : U.part c l 1 = l := rfl

theorem part_isort {c : U.Cmp} {l : List GD} {i : Nat} (h1 : 1 ≤ i) (h2 : i ≤ max l.length 1) (h3 : l.length ≤ i) : U.part c l i = U.isort c l := by
  unfold U.isort
  by_cases h : l.length = 0
  · have : i = 1 := by omega
    subst this
    rw [h]; rfl
  · have : i = l.length := by omega
    rw [this]

theorem h92 : vc92 := by
  rintro ⟨l, a, b, ⟨pre, c⟩, ⟨⟩⟩ h0 h1
  obtain ⟨ha, hb, hl⟩ : a = 0 ∧ b = (l.length : Int) ∧ l.length ≤ 100000 := h0
  have hok : U.okCmp pre l := h1
  subst ha hb
  simp only
  refine ⟨by unfold In64; omega, ⟨1, ⟨⟨rfl, trivial⟩, rfl, trivial⟩, Nat.le_refl _, by omega⟩, fun i hi => ⟨fun h => ?_, fun h => ?_⟩⟩
  · have h : i < l.length := by have := of_decide_eq_true h; omega
    have hp := part_perm (c := c) (l := l) i (by omega)
    refine ⟨⟨(i, U.part c l i), ⟨⟨rfl, trivial⟩, rfl, trivial⟩, Int.le_refl _, List.Perm.refl _, rfl⟩, ?_⟩
    rintro ⟨j, m⟩ ⟨k1, k2, k3⟩
    have k1 : (j : Int) ≤ i := k1
    have k2 : m.Perm (U.part c l i) := k2
    have k3 : U.sink c m j = U.sink c (U.part c l i) i := k3
    have hml : m.length = l.length := (k2.trans hp).length_eq
    have hmem : ∀ {k : Nat}, k < m.length → nth m k ∈ l := fun hk => (k2.trans hp).mem_iff.1 (L.mem_nth hk)
    simp only [Int.toNat_natCast]
    refine ⟨fun _ => by omega, fun hj => by have := of_decide_eq_true hj; omega, fun hj => by have := of_decide_eq_true hj; unfold In64; omega, fun hj => by have := of_decide_eq_true hj; omega, fun hj => by have := of_decide_eq_true hj; omega, allP_asksG (fun hj => ?_) ⟨fun hb => ?_, fun hb => ?_⟩⟩
    · have hj := of_decide_eq_true hj
      exact hok _ (hmem (by omega)) _ (hmem (by omega))
    · simp only [Bool.and_eq_true, decide_eq_true_eq] at hb
      obtain ⟨b1, b2⟩ := hb
      obtain ⟨j', rfl⟩ : ∃ j', j = j' + 1 := ⟨j - 1, by omega⟩
      have e1 : ((j' + 1 : Nat) : Int) - 1 = (j' : Int) := by omega
      rw [e1] at b2 ⊢
      simp only [Int.toNat_natCast] at b2 ⊢
      have hsw := swap_perm (l := m) (j := j' + 1) (k := j') (by omega) (by omega)
      have hi64 : In64 (j' : Int) := by unfold In64; omega
      refine ⟨hi64, hi64, by omega, by omega, by omega, by omega, by omega, by omega, by omega, by simp; omega, hi64, ⟨(j', U.swap m (j' + 1) j'), ⟨⟨rfl, trivial⟩, rfl, trivial⟩, ⟨by simp only; omega, hsw.trans k2, ?_⟩, by simp⟩⟩
      rw [← k3]
      show _ = (if (c (nth m (j' + 1), nth m j', ())).1 < 0 then U.sink c (U.swap m (j' + 1) j') j' else m)
      rw [if_pos b2]
    · have hm : m = U.part c l (i + 1) := by
        rw [part_succ, ← k3]
        cases j with
        | zero => rfl
        | succ j' =>
          unfold U.sink
          rw [if_neg]
          intro hc
          refine absurd hb (by
            rw [Bool.and_eq_false_iff]
            rintro (h | h)
            · exact absurd (of_decide_eq_false h) (by simp)
              
            · refine of_decide_eq_false h ?_
              have e1 : ((j' + 1 : Nat) : Int) - 1 = (j' : Int) := by omega
              rw [e1]
              simpa using hc)
      exact ⟨by unfold In64; omega, i + 1, ⟨⟨by simp, trivial⟩, hm, trivial⟩, by omega, by omega⟩
  · have h : l.length ≤ i := by have := of_decide_eq_false h; omega
    exact ⟨trivial, by rw [part_isort hi.1 hi.2 h]⟩

theorem ok92 : OFnOK PR 92 so92 := mkFnO (vc92_eq.mpr h92) Try.func92 (by kernel_rfl) (by kernel_rfl) (by kernel_rfl) (by kernel_rfl) (by kernel_rfl) trivial trivial

theorem h89 : vc89 := by
  rintro ⟨l, a, b, lim, ⟨pre, c⟩, ⟨⟩⟩ h0 hok
  obtain ⟨ha, hb, hl⟩ : a = 0 ∧ b = (l.length : Int) ∧ l.length ≤ 12 := h0
  subst ha hb
  refine ⟨by unfold In64; simp only; omega, fun _ => ⟨⟨rfl, rfl, by simp only; omega⟩, hok, rfl, rfl⟩, fun h => absurd (of_decide_eq_false h) (by simp only; omega)⟩

theorem ok89 : OFnOK PR 89 so89 := mkFnO (vc89_eq.mpr h89) Try.func89 (by kernel_rfl) (by kernel_rfl) (by kernel_rfl) (by kernel_rfl) (by kernel_rfl) trivial ⟨ok92, trivial⟩

theorem h79 : vc79 := by
  rintro ⟨l, ⟨pre, c⟩, ⟨⟩⟩ hl hok _
  have hl : l.length ≤ 12 := hl
  exact ⟨by simp only; omega, by simp only; omega, ⟨by simp only; omega, by simp only; omega⟩, ⟨rfl, rfl, hl⟩, hok, rfl, rfl⟩

theorem ok79 : OFnOK PR 79 so79 := mkFnO (vc79_eq.mpr h79) Try.func79 (by kernel_rfl) (by kernel_rfl) (by kernel_rfl) (by kernel_rfl) (by kernel_rfl) ⟨fun _ => ok90, trivial⟩ ⟨ok89, trivial⟩

end Go.X
/-
  What the functions of the program are asked to do (6): Readings, Agree; what the statements call.
-/
namespace Go.X
open Go.Proofs

abbrev tR : Ty := .st [.int, .int, .int]
abbrev RD1 : Type := Int × Int × Int × Unit

namespace U
def setAt (s : Int) (l : List GD) (film : Int) (k : Nat) : Int := nth (smallest s (l.filter (inFrame film k))) 0
def lastR (out : List RD1) : RD1 := nth out (out.length - 1)
def joins (f : Nat → Int) (out : List RD1) (k : Nat) : Prop := 0 < out.length ∧ (lastR out).2.1 = (k : Int) ∧ (lastR out).2.2.1 = f k
def stepR (f : Nat → Int) (out : List RD1) (k : Nat) : List RD1 :=
  if f k = 0 then out
  else if 0 < out.length ∧ (lastR out).2.1 = (k : Int) ∧ (lastR out).2.2.1 = f k then out.set (out.length - 1) ((lastR out).1, (lastR out).2.1 + 1, (lastR out).2.2.1, ())
  else out ++ [((k : Int), (k : Int) + 1, f k, ())]
def readsTo (f : Nat → Int) (n : Nat) : List RD1 := (List.range n).foldl (stepR f) []
def filmErr (f : FD) (l : List GD) (film : Int) : Int := if check f l ≠ 0 then check f l else if 0 ≤ film ∧ film < f.1.length then 0 else 1
def readings (f : FD) (l : List GD) (film : Int) : List RD1 := if filmErr f l film = 0 then readsTo (setAt f.2.1 (heldG l) film) (nth f.1 film.toNat).toNat else []
def sumTo (f : GD → Int) (l : List GD) : Int := l.foldl (fun s g => s + f g) 0
def pairN (a b : Int) (g o : GD) : Int := if au g = a ∧ au o = b ∧ common g o = true then min (to g) (to o) - max (fr g) (fr o) else 0
def pairS (a b : Int) (g o : GD) : Int := if band (sg g) (sg o) ≠ 0 then pairN a b g o else 0
def authErr (f : FD) (l : List GD) (a b : Int) : Int := if check f l ≠ 0 then check f l else if 0 ≤ a ∧ a < 8 ∧ 0 ≤ b ∧ b < 8 ∧ a ≠ b then 0 else 1
def both (l : List GD) (a b : Int) : Int := sumTo (fun g => sumTo (pairN a b g) l) l
def same (l : List GD) (a b : Int) : Int := sumTo (fun g => sumTo (pairS a b g) l) l
def hit (k : Int) (r : RD1) : Bool := decide (r.1 ≤ k ∧ k < r.2.1)
def readS (k : Int) (l : List RD1) : Int := l.foldl (fun s r => if hit k r = true then r.2.2.1 else s) 0
def readN (k : Int) (l : List RD1) : Int := l.foldl (fun s r => if hit k r = true then s + 1 else s) 0
def far (f : FD) (l : List GD) : Bool := decide (20 < f.1.length ∨ 60 < l.length ∨ 12 < l.length ∧ l.length ≤ 40) || (decide (check f [] = 0) && (f.1.any (fun n => decide (12 < n)) || decide (6 < f.2.1)))
def valid (f : FD) (l : List GD) : Bool := !far f l && decide (check f l = 0)
def exF : FD := ([10, 4], 5, ())
def exL : List GD := [(0, 1, 0, 0, 6, 3, ()), (1, 1, 0, 2, 8, 4, ()), (2, 5, 0, 4, 10, 6, ()), (0, 2, 0, 5, 7, 1, ()), (1, 7, 1, 0, 4, 16, ())]
end U

def sp17 : Spec := ⟨[.val tF, .val (.slice tG), .val .int], [.slice tR, .int], false, fun d => [U.check d.1 d.2.1 = 0 → d.2.1.length ≤ 12], fun d => (U.readings d.1 d.2.1 d.2.2.1, U.filmErr d.1 d.2.1 d.2.2.1, ())⟩
def an17 : Ann := fun r => match r with
  | 10 => some fun σ => { X := Nat, sl := fun k => [(34, .dat .int (k : Int)), (10, .own 10 tR)], ob := fun k => [(10, some (.row 70 tR false .yes (U.readsTo (U.setAt (gd tF σ 0).2.1 (U.heldG (gd (.slice tG) σ 1)) (gd .int σ 2)) k)))], inv := fun k => k ≤ (nth (gd tF σ 0).1 (gd .int σ 2).toNat).toNat, mu := fun k => (nth (gd tF σ 0).1 (gd .int σ 2).toNat).toNat - k }
  | _ => none
def vc17 : Prop :=
  ∀ (d : (List Int × Int × Unit) × List (Int × Int × Int × Int × Int × Int × Unit) × Int × Unit),
  (U.check d.fst d.snd.fst = (0 : Int) → d.snd.fst.length ≤ (12 : Nat)) →
  (decide (U.check (d.fst.fst, d.fst.snd.fst, ()) d.snd.fst ≠ (0 : Int)) = true → ([], U.check (d.fst.fst, d.fst.snd.fst, ()) d.snd.fst, ()) = (U.readings d.fst d.snd.fst d.snd.snd.fst, U.filmErr d.fst d.snd.fst d.snd.snd.fst, ())) ∧
  (decide (U.check (d.fst.fst, d.fst.snd.fst, ()) d.snd.fst ≠ (0 : Int)) = false →
  ((!decide ((0 : Int) ≤ d.snd.snd.fst ∧ d.snd.snd.fst < (↑d.fst.fst.length : Int))) = true → ([], (1 : Int), ()) = (U.readings d.fst d.snd.fst d.snd.snd.fst, U.filmErr d.fst d.snd.fst d.snd.snd.fst, ())) ∧
  ((!decide ((0 : Int) ≤ d.snd.snd.fst ∧ d.snd.snd.fst < (↑d.fst.fst.length : Int))) = false →
  d.snd.fst.length ≤ (12 : Nat) ∧
  (∀ (g : Int × Int × Int × Int × Int × Int × Unit), g ∈ d.snd.fst → U.small g) ∧
  (0 : Int) ≤ d.snd.snd.fst ∧
  d.snd.snd.fst < (↑d.fst.fst.length : Int) ∧
  (∃ (x : Nat), (((0 : Int) = (↑x : Int) ∧ True ∧ True) ∧ U.readsTo (U.setAt d.fst.snd.fst (U.heldG d.snd.fst) d.snd.snd.fst) x = [] ∧ True) ∧ x ≤ (nth d.fst.fst d.snd.snd.fst.toNat).toNat) ∧
  ∀ (x : Nat),
  x ≤ (nth d.fst.fst d.snd.snd.fst.toNat).toNat →
  (decide ((↑x : Int) < nth d.fst.fst d.snd.snd.fst.toNat) = true →
  (U.heldG d.snd.fst).length ≤ (100000 : Nat) ∧
  ((1 : Int) ≤ d.fst.snd.fst ∧ d.fst.snd.fst ≤ (10 : Int)) ∧
  (0 : Int) ≤ (0 : Int) ∧
  (0 : Int) < (↑(U.smallest d.fst.snd.fst (List.filter (U.inFrame d.snd.snd.fst (↑x : Int)) (U.heldG d.snd.fst))).length : Int) ∧
  (decide (nth (U.smallest d.fst.snd.fst (List.filter (U.inFrame d.snd.snd.fst (↑x : Int)) (U.heldG d.snd.fst))) (Int.toNat (0 : Int)) = (0 : Int)) = true →
  In64 ((↑x : Int) + (1 : Int)) ∧
  ∃ (x' : Nat),
  ((True ∧ (↑x : Int) + (1 : Int) = (↑x' : Int) ∧ True) ∧
  U.readsTo (U.setAt d.fst.snd.fst (U.heldG d.snd.fst) d.snd.snd.fst) x = U.readsTo (U.setAt d.fst.snd.fst (U.heldG d.snd.fst) d.snd.snd.fst) x' ∧ True) ∧
  x' ≤ (nth d.fst.fst d.snd.snd.fst.toNat).toNat ∧ (nth d.fst.fst d.snd.snd.fst.toNat).toNat - x' < (nth d.fst.fst d.snd.snd.fst.toNat).toNat - x) ∧
  (decide (nth (U.smallest d.fst.snd.fst (List.filter (U.inFrame d.snd.snd.fst (↑x : Int)) (U.heldG d.snd.fst))) (Int.toNat (0 : Int)) = (0 : Int)) = false →
  (U.readsTo (U.setAt d.fst.snd.fst (U.heldG d.snd.fst) d.snd.snd.fst) x).length < (4611686018427387904 : Nat) →
  In64 ((↑(U.readsTo (U.setAt d.fst.snd.fst (U.heldG d.snd.fst) d.snd.snd.fst) x).length : Int) - (1 : Int)) ∧
  (decide ((0 : Int) ≤ (↑(U.readsTo (U.setAt d.fst.snd.fst (U.heldG d.snd.fst) d.snd.snd.fst) x).length : Int) - (1 : Int)) = true →
  (0 : Int) ≤ (↑(U.readsTo (U.setAt d.fst.snd.fst (U.heldG d.snd.fst) d.snd.snd.fst) x).length : Int) - (1 : Int)) ∧
  (decide ((0 : Int) ≤ (↑(U.readsTo (U.setAt d.fst.snd.fst (U.heldG d.snd.fst) d.snd.snd.fst) x).length : Int) - (1 : Int)) = true →
  (↑(U.readsTo (U.setAt d.fst.snd.fst (U.heldG d.snd.fst) d.snd.snd.fst) x).length : Int) - (1 : Int) <
  (↑(U.readsTo (U.setAt d.fst.snd.fst (U.heldG d.snd.fst) d.snd.snd.fst) x).length : Int)) ∧
  ((decide ((0 : Int) ≤ (↑(U.readsTo (U.setAt d.fst.snd.fst (U.heldG d.snd.fst) d.snd.snd.fst) x).length : Int) - (1 : Int)) &&
  decide
  ((nth (U.readsTo (U.setAt d.fst.snd.fst (U.heldG d.snd.fst) d.snd.snd.fst) x)
  ((↑(U.readsTo (U.setAt d.fst.snd.fst (U.heldG d.snd.fst) d.snd.snd.fst) x).length : Int) - (1 : Int)).toNat).snd.fst =
  (↑x : Int))) =
  true →
  (0 : Int) ≤ (↑(U.readsTo (U.setAt d.fst.snd.fst (U.heldG d.snd.fst) d.snd.snd.fst) x).length : Int) - (1 : Int)) ∧
  ((decide ((0 : Int) ≤ (↑(U.readsTo (U.setAt d.fst.snd.fst (U.heldG d.snd.fst) d.snd.snd.fst) x).length : Int) - (1 : Int)) &&
  decide
  ((nth (U.readsTo (U.setAt d.fst.snd.fst (U.heldG d.snd.fst) d.snd.snd.fst) x)
  ((↑(U.readsTo (U.setAt d.fst.snd.fst (U.heldG d.snd.fst) d.snd.snd.fst) x).length : Int) - (1 : Int)).toNat).snd.fst =
  (↑x : Int))) =
  true →
  (↑(U.readsTo (U.setAt d.fst.snd.fst (U.heldG d.snd.fst) d.snd.snd.fst) x).length : Int) - (1 : Int) <
  (↑(U.readsTo (U.setAt d.fst.snd.fst (U.heldG d.snd.fst) d.snd.snd.fst) x).length : Int)) ∧
  ((decide ((0 : Int) ≤ (↑(U.readsTo (U.setAt d.fst.snd.fst (U.heldG d.snd.fst) d.snd.snd.fst) x).length : Int) - (1 : Int)) &&
  decide
  ((nth (U.readsTo (U.setAt d.fst.snd.fst (U.heldG d.snd.fst) d.snd.snd.fst) x)
  ((↑(U.readsTo (U.setAt d.fst.snd.fst (U.heldG d.snd.fst) d.snd.snd.fst) x).length : Int) - (1 : Int)).toNat).snd.fst =
  (↑x : Int)) &&
  decide
  ((nth (U.readsTo (U.setAt d.fst.snd.fst (U.heldG d.snd.fst) d.snd.snd.fst) x)
  ((↑(U.readsTo (U.setAt d.fst.snd.fst (U.heldG d.snd.fst) d.snd.snd.fst) x).length : Int) - (1 : Int)).toNat).snd.snd.fst =
  nth (U.smallest d.fst.snd.fst (List.filter (U.inFrame d.snd.snd.fst (↑x : Int)) (U.heldG d.snd.fst))) (Int.toNat (0 : Int)))) =
  true →
  (0 : Int) ≤ (↑(U.readsTo (U.setAt d.fst.snd.fst (U.heldG d.snd.fst) d.snd.snd.fst) x).length : Int) - (1 : Int) ∧
  (↑(U.readsTo (U.setAt d.fst.snd.fst (U.heldG d.snd.fst) d.snd.snd.fst) x).length : Int) - (1 : Int) <
  (↑(U.readsTo (U.setAt d.fst.snd.fst (U.heldG d.snd.fst) d.snd.snd.fst) x).length : Int) ∧
  In64
  ((nth (U.readsTo (U.setAt d.fst.snd.fst (U.heldG d.snd.fst) d.snd.snd.fst) x)
  ((↑(U.readsTo (U.setAt d.fst.snd.fst (U.heldG d.snd.fst) d.snd.snd.fst) x).length : Int) - (1 : Int)).toNat).snd.fst +
  (1 : Int)) ∧
  (0 : Int) ≤ (↑(U.readsTo (U.setAt d.fst.snd.fst (U.heldG d.snd.fst) d.snd.snd.fst) x).length : Int) - (1 : Int) ∧
  (↑(U.readsTo (U.setAt d.fst.snd.fst (U.heldG d.snd.fst) d.snd.snd.fst) x).length : Int) - (1 : Int) <
  (↑(U.readsTo (U.setAt d.fst.snd.fst (U.heldG d.snd.fst) d.snd.snd.fst) x).length : Int) ∧
  In64 ((↑x : Int) + (1 : Int)) ∧
  ∃ (x' : Nat),
  ((True ∧ (↑x : Int) + (1 : Int) = (↑x' : Int) ∧ True) ∧
  (U.readsTo (U.setAt d.fst.snd.fst (U.heldG d.snd.fst) d.snd.snd.fst) x).set
  ((↑(U.readsTo (U.setAt d.fst.snd.fst (U.heldG d.snd.fst) d.snd.snd.fst) x).length : Int) - (1 : Int)).toNat
  ((nth (U.readsTo (U.setAt d.fst.snd.fst (U.heldG d.snd.fst) d.snd.snd.fst) x)
  ((↑(U.readsTo (U.setAt d.fst.snd.fst (U.heldG d.snd.fst) d.snd.snd.fst) x).length : Int) - (1 : Int)).toNat).fst,
  (nth (U.readsTo (U.setAt d.fst.snd.fst (U.heldG d.snd.fst) d.snd.snd.fst) x)
  ((↑(U.readsTo (U.setAt d.fst.snd.fst (U.heldG d.snd.fst) d.snd.snd.fst) x).length : Int) - (1 : Int)).toNat).snd.fst +
  (1 : Int),
  (nth (U.readsTo (U.setAt d.fst.snd.fst (U.heldG d.snd.fst) d.snd.snd.fst) x)
  ((↑(U.readsTo (U.setAt d.fst.snd.fst (U.heldG d.snd.fst) d.snd.snd.fst) x).length : Int) - (1 : Int)).toNat).snd.snd) =
  U.readsTo (U.setAt d.fst.snd.fst (U.heldG d.snd.fst) d.snd.snd.fst) x' ∧
  True) ∧
  x' ≤ (nth d.fst.fst d.snd.snd.fst.toNat).toNat ∧ (nth d.fst.fst d.snd.snd.fst.toNat).toNat - x' < (nth d.fst.fst d.snd.snd.fst.toNat).toNat - x) ∧
  ((decide ((0 : Int) ≤ (↑(U.readsTo (U.setAt d.fst.snd.fst (U.heldG d.snd.fst) d.snd.snd.fst) x).length : Int) - (1 : Int)) &&
  decide
  ((nth (U.readsTo (U.setAt d.fst.snd.fst (U.heldG d.snd.fst) d.snd.snd.fst) x)
  ((↑(U.readsTo (U.setAt d.fst.snd.fst (U.heldG d.snd.fst) d.snd.snd.fst) x).length : Int) - (1 : Int)).toNat).snd.fst =
  (↑x : Int)) &&
  decide
  ((nth (U.readsTo (U.setAt d.fst.snd.fst (U.heldG d.snd.fst) d.snd.snd.fst) x)
  ((↑(U.readsTo (U.setAt d.fst.snd.fst (U.heldG d.snd.fst) d.snd.snd.fst) x).length : Int) - (1 : Int)).toNat).snd.snd.fst =
  nth (U.smallest d.fst.snd.fst (List.filter (U.inFrame d.snd.snd.fst (↑x : Int)) (U.heldG d.snd.fst))) (Int.toNat (0 : Int)))) =
  false →
  In64 ((↑x : Int) + (1 : Int)) ∧
  ((U.readsTo (U.setAt d.fst.snd.fst (U.heldG d.snd.fst) d.snd.snd.fst) x).length +
  [((↑x : Int), (↑x : Int) + (1 : Int), nth (U.smallest d.fst.snd.fst (List.filter (U.inFrame d.snd.snd.fst (↑x : Int)) (U.heldG d.snd.fst))) (Int.toNat (0 : Int)),
  ())].length) *
  (24 : Nat) ≤
  (140737488355328 : Nat) ∧
  In64 ((↑x : Int) + (1 : Int)) ∧
  ∃ (x' : Nat),
  (((↑x : Int) + (1 : Int) = (↑x' : Int) ∧ True ∧ True) ∧
  U.readsTo (U.setAt d.fst.snd.fst (U.heldG d.snd.fst) d.snd.snd.fst) x ++
  [((↑x : Int), (↑x : Int) + (1 : Int), nth (U.smallest d.fst.snd.fst (List.filter (U.inFrame d.snd.snd.fst (↑x : Int)) (U.heldG d.snd.fst))) (Int.toNat (0 : Int)),
  ())] =
  U.readsTo (U.setAt d.fst.snd.fst (U.heldG d.snd.fst) d.snd.snd.fst) x' ∧
  True) ∧
  x' ≤ (nth d.fst.fst d.snd.snd.fst.toNat).toNat ∧ (nth d.fst.fst d.snd.snd.fst.toNat).toNat - x' < (nth d.fst.fst d.snd.snd.fst.toNat).toNat - x))) ∧
  (decide ((↑x : Int) < nth d.fst.fst d.snd.snd.fst.toNat) = false →
  (U.readsTo (U.setAt d.fst.snd.fst (U.heldG d.snd.fst) d.snd.snd.fst) x, (0 : Int), ()) = (U.readings d.fst d.snd.fst d.snd.snd.fst, U.filmErr d.fst d.snd.fst d.snd.snd.fst, ()))))

theorem vc17_eq : fnVC (ctx 88 [(37, sp37), (44, sp44), (45, sp45), (47, sp47), (46, sp46)] []) (an17) Try.f17 (bodyOf Try.f17) sp17 = vc17 := by kernel_rfl


def sp21 : Spec := ⟨[.val tF, .val (.slice tG), .val .int, .val .int], [.int, .int, .int], false, fun d => [U.check d.1 d.2.1 = 0 → d.2.1.length ≤ 12], fun d => (if U.authErr d.1 d.2.1 d.2.2.1 d.2.2.2.1 = 0 then U.both (U.heldG d.2.1) d.2.2.1 d.2.2.2.1 else 0, if U.authErr d.1 d.2.1 d.2.2.1 d.2.2.2.1 = 0 then U.same (U.heldG d.2.1) d.2.2.1 d.2.2.2.1 else 0, U.authErr d.1 d.2.1 d.2.2.1 d.2.2.2.1, ())⟩
def an21 : Ann := fun r => match r with
  | 8 => some fun σ => { X := Nat, sl := fun i => [(41, .dat .int (i : Int)), (8, .dat .int (U.sumTo (fun g => U.sumTo (U.pairN (gd .int σ 2) (gd .int σ 3) g) (gd (.slice tG) σ 12)) ((gd (.slice tG) σ 12).take i))), (9, .dat .int (U.sumTo (fun g => U.sumTo (U.pairS (gd .int σ 2) (gd .int σ 3) g) (gd (.slice tG) σ 12)) ((gd (.slice tG) σ 12).take i)))], ob := fun _ => [], inv := fun i => i ≤ (gd (.slice tG) σ 12).length, mu := fun i => (gd (.slice tG) σ 12).length - i }
  | 11 => some fun σ => { X := Nat, sl := fun j => [(47, .dat .int (j : Int)), (8, .dat .int (gd .int σ 8 + U.sumTo (U.pairN (gd .int σ 2) (gd .int σ 3) (nth (gd (.slice tG) σ 12) (gd .int σ 41).toNat)) ((gd (.slice tG) σ 12).take j))), (9, .dat .int (gd .int σ 9 + U.sumTo (U.pairS (gd .int σ 2) (gd .int σ 3) (nth (gd (.slice tG) σ 12) (gd .int σ 41).toNat)) ((gd (.slice tG) σ 12).take j)))], ob := fun _ => [], inv := fun j => j ≤ (gd (.slice tG) σ 12).length, mu := fun j => (gd (.slice tG) σ 12).length - j }
  | _ => none
def vc21 : Prop :=
  ∀ (d : (List Int × Int × Unit) × List (Int × Int × Int × Int × Int × Int × Unit) × Int × Int × Unit),
  (U.check d.fst d.snd.fst = (0 : Int) → d.snd.fst.length ≤ (12 : Nat)) →
  (decide (U.check (d.fst.fst, d.fst.snd.fst, ()) d.snd.fst ≠ (0 : Int)) = true →
  ((0 : Int), (0 : Int), U.check (d.fst.fst, d.fst.snd.fst, ()) d.snd.fst, ()) =
  (if U.authErr d.fst d.snd.fst d.snd.snd.fst d.snd.snd.snd.fst = (0 : Int) then U.both (U.heldG d.snd.fst) d.snd.snd.fst d.snd.snd.snd.fst else (0 : Int),
  if U.authErr d.fst d.snd.fst d.snd.snd.fst d.snd.snd.snd.fst = (0 : Int) then U.same (U.heldG d.snd.fst) d.snd.snd.fst d.snd.snd.snd.fst else (0 : Int), U.authErr d.fst d.snd.fst d.snd.snd.fst d.snd.snd.snd.fst, ())) ∧
  (decide (U.check (d.fst.fst, d.fst.snd.fst, ()) d.snd.fst ≠ (0 : Int)) = false →
  ((!decide ((0 : Int) ≤ d.snd.snd.fst ∧ d.snd.snd.fst < (8 : Int)) || !decide ((0 : Int) ≤ d.snd.snd.snd.fst ∧ d.snd.snd.snd.fst < (8 : Int)) || decide (d.snd.snd.fst = d.snd.snd.snd.fst)) = true →
  ((0 : Int), (0 : Int), (1 : Int), ()) =
  (if U.authErr d.fst d.snd.fst d.snd.snd.fst d.snd.snd.snd.fst = (0 : Int) then U.both (U.heldG d.snd.fst) d.snd.snd.fst d.snd.snd.snd.fst else (0 : Int),
  if U.authErr d.fst d.snd.fst d.snd.snd.fst d.snd.snd.snd.fst = (0 : Int) then U.same (U.heldG d.snd.fst) d.snd.snd.fst d.snd.snd.snd.fst else (0 : Int), U.authErr d.fst d.snd.fst d.snd.snd.fst d.snd.snd.snd.fst, ())) ∧
  ((!decide ((0 : Int) ≤ d.snd.snd.fst ∧ d.snd.snd.fst < (8 : Int)) || !decide ((0 : Int) ≤ d.snd.snd.snd.fst ∧ d.snd.snd.snd.fst < (8 : Int)) || decide (d.snd.snd.fst = d.snd.snd.snd.fst)) = false →
  d.snd.fst.length ≤ (12 : Nat) ∧
  (∀ (g : Int × Int × Int × Int × Int × Int × Unit), g ∈ d.snd.fst → U.small g) ∧
  ((U.heldG d.snd.fst).length < (4611686018427387904 : Nat) →
  (∃ (x : Nat),
  (((0 : Int) = (↑x : Int) ∧
  (0 : Int) = U.sumTo (fun (g : Int × Int × Int × Int × Int × Int × Unit) => U.sumTo (U.pairN d.snd.snd.fst d.snd.snd.snd.fst g) (U.heldG d.snd.fst)) (List.take x (U.heldG d.snd.fst)) ∧
  (0 : Int) = U.sumTo (fun (g : Int × Int × Int × Int × Int × Int × Unit) => U.sumTo (U.pairS d.snd.snd.fst d.snd.snd.snd.fst g) (U.heldG d.snd.fst)) (List.take x (U.heldG d.snd.fst)) ∧ True) ∧
  True) ∧
  x ≤ (U.heldG d.snd.fst).length) ∧
  ∀ (x : Nat),
  x ≤ (U.heldG d.snd.fst).length →
  (decide ((↑x : Int) < (↑(U.heldG d.snd.fst).length : Int)) = true →
  (0 : Int) ≤ (↑x : Int) ∧
  (↑x : Int) < (↑(U.heldG d.snd.fst).length : Int) ∧
  ((U.heldG d.snd.fst).length < (4611686018427387904 : Nat) →
  (∃ (x_4 : Nat),
  (((0 : Int) = (↑x_4 : Int) ∧
  U.sumTo (fun (g : Int × Int × Int × Int × Int × Int × Unit) => U.sumTo (U.pairN d.snd.snd.fst d.snd.snd.snd.fst g) (U.heldG d.snd.fst)) (List.take x (U.heldG d.snd.fst)) =
  U.sumTo (fun (g : Int × Int × Int × Int × Int × Int × Unit) => U.sumTo (U.pairN d.snd.snd.fst d.snd.snd.snd.fst g) (U.heldG d.snd.fst)) (List.take x (U.heldG d.snd.fst)) +
  U.sumTo (U.pairN d.snd.snd.fst d.snd.snd.snd.fst (nth (U.heldG d.snd.fst) (↑x : Int).toNat)) (List.take x_4 (U.heldG d.snd.fst)) ∧
  U.sumTo (fun (g : Int × Int × Int × Int × Int × Int × Unit) => U.sumTo (U.pairS d.snd.snd.fst d.snd.snd.snd.fst g) (U.heldG d.snd.fst)) (List.take x (U.heldG d.snd.fst)) =
  U.sumTo (fun (g : Int × Int × Int × Int × Int × Int × Unit) => U.sumTo (U.pairS d.snd.snd.fst d.snd.snd.snd.fst g) (U.heldG d.snd.fst)) (List.take x (U.heldG d.snd.fst)) +
  U.sumTo (U.pairS d.snd.snd.fst d.snd.snd.snd.fst (nth (U.heldG d.snd.fst) (↑x : Int).toNat)) (List.take x_4 (U.heldG d.snd.fst)) ∧
  True) ∧
  True) ∧
  x_4 ≤ (U.heldG d.snd.fst).length) ∧
  ∀ (x_4 : Nat),
  x_4 ≤ (U.heldG d.snd.fst).length →
  (decide ((↑x_4 : Int) < (↑(U.heldG d.snd.fst).length : Int)) = true →
  (0 : Int) ≤ (↑x_4 : Int) ∧
  (↑x_4 : Int) < (↑(U.heldG d.snd.fst).length : Int) ∧
  ((decide ((nth (U.heldG d.snd.fst) (↑x : Int).toNat).fst ≠ d.snd.snd.fst) || decide ((nth (U.heldG d.snd.fst) (↑x_4 : Int).toNat).fst ≠ d.snd.snd.snd.fst) ||
  !U.common
  ((nth (U.heldG d.snd.fst) (↑x : Int).toNat).fst, (nth (U.heldG d.snd.fst) (↑x : Int).toNat).snd.fst, (nth (U.heldG d.snd.fst) (↑x : Int).toNat).snd.snd.fst,
  (nth (U.heldG d.snd.fst) (↑x : Int).toNat).snd.snd.snd.fst, (nth (U.heldG d.snd.fst) (↑x : Int).toNat).snd.snd.snd.snd.fst,
  (nth (U.heldG d.snd.fst) (↑x : Int).toNat).snd.snd.snd.snd.snd.fst, ())
  ((nth (U.heldG d.snd.fst) (↑x_4 : Int).toNat).fst, (nth (U.heldG d.snd.fst) (↑x_4 : Int).toNat).snd.fst, (nth (U.heldG d.snd.fst) (↑x_4 : Int).toNat).snd.snd.fst,
  (nth (U.heldG d.snd.fst) (↑x_4 : Int).toNat).snd.snd.snd.fst, (nth (U.heldG d.snd.fst) (↑x_4 : Int).toNat).snd.snd.snd.snd.fst,
  (nth (U.heldG d.snd.fst) (↑x_4 : Int).toNat).snd.snd.snd.snd.snd.fst, ())) =
  true →
  In64 ((↑x_4 : Int) + (1 : Int)) ∧
  ∃ (x' : Nat),
  ((U.sumTo (fun (g : Int × Int × Int × Int × Int × Int × Unit) => U.sumTo (U.pairS d.snd.snd.fst d.snd.snd.snd.fst g) (U.heldG d.snd.fst)) (List.take x (U.heldG d.snd.fst)) +
  U.sumTo (U.pairS d.snd.snd.fst d.snd.snd.snd.fst (nth (U.heldG d.snd.fst) (↑x : Int).toNat)) (List.take x_4 (U.heldG d.snd.fst)) =
  U.sumTo (fun (g : Int × Int × Int × Int × Int × Int × Unit) => U.sumTo (U.pairS d.snd.snd.fst d.snd.snd.snd.fst g) (U.heldG d.snd.fst)) (List.take x (U.heldG d.snd.fst)) +
  U.sumTo (U.pairS d.snd.snd.fst d.snd.snd.snd.fst (nth (U.heldG d.snd.fst) (↑x : Int).toNat)) (List.take x' (U.heldG d.snd.fst)) ∧
  U.sumTo (fun (g : Int × Int × Int × Int × Int × Int × Unit) => U.sumTo (U.pairN d.snd.snd.fst d.snd.snd.snd.fst g) (U.heldG d.snd.fst)) (List.take x (U.heldG d.snd.fst)) +
  U.sumTo (U.pairN d.snd.snd.fst d.snd.snd.snd.fst (nth (U.heldG d.snd.fst) (↑x : Int).toNat)) (List.take x_4 (U.heldG d.snd.fst)) =
  U.sumTo (fun (g : Int × Int × Int × Int × Int × Int × Unit) => U.sumTo (U.pairN d.snd.snd.fst d.snd.snd.snd.fst g) (U.heldG d.snd.fst)) (List.take x (U.heldG d.snd.fst)) +
  U.sumTo (U.pairN d.snd.snd.fst d.snd.snd.snd.fst (nth (U.heldG d.snd.fst) (↑x : Int).toNat)) (List.take x' (U.heldG d.snd.fst)) ∧
  (↑x_4 : Int) + (1 : Int) = (↑x' : Int) ∧ True) ∧
  True) ∧
  x' ≤ (U.heldG d.snd.fst).length ∧ (U.heldG d.snd.fst).length - x' < (U.heldG d.snd.fst).length - x_4) ∧
  ((decide ((nth (U.heldG d.snd.fst) (↑x : Int).toNat).fst ≠ d.snd.snd.fst) || decide ((nth (U.heldG d.snd.fst) (↑x_4 : Int).toNat).fst ≠ d.snd.snd.snd.fst) ||
  !U.common
  ((nth (U.heldG d.snd.fst) (↑x : Int).toNat).fst, (nth (U.heldG d.snd.fst) (↑x : Int).toNat).snd.fst, (nth (U.heldG d.snd.fst) (↑x : Int).toNat).snd.snd.fst,
  (nth (U.heldG d.snd.fst) (↑x : Int).toNat).snd.snd.snd.fst, (nth (U.heldG d.snd.fst) (↑x : Int).toNat).snd.snd.snd.snd.fst,
  (nth (U.heldG d.snd.fst) (↑x : Int).toNat).snd.snd.snd.snd.snd.fst, ())
  ((nth (U.heldG d.snd.fst) (↑x_4 : Int).toNat).fst, (nth (U.heldG d.snd.fst) (↑x_4 : Int).toNat).snd.fst, (nth (U.heldG d.snd.fst) (↑x_4 : Int).toNat).snd.snd.fst,
  (nth (U.heldG d.snd.fst) (↑x_4 : Int).toNat).snd.snd.snd.fst, (nth (U.heldG d.snd.fst) (↑x_4 : Int).toNat).snd.snd.snd.snd.fst,
  (nth (U.heldG d.snd.fst) (↑x_4 : Int).toNat).snd.snd.snd.snd.snd.fst, ())) =
  false →
  In64
  (min (nth (U.heldG d.snd.fst) (↑x : Int).toNat).snd.snd.snd.snd.fst (nth (U.heldG d.snd.fst) (↑x_4 : Int).toNat).snd.snd.snd.snd.fst -
  max (nth (U.heldG d.snd.fst) (↑x : Int).toNat).snd.snd.snd.fst (nth (U.heldG d.snd.fst) (↑x_4 : Int).toNat).snd.snd.snd.fst) ∧
  In64
  (U.sumTo (fun (g : Int × Int × Int × Int × Int × Int × Unit) => U.sumTo (U.pairN d.snd.snd.fst d.snd.snd.snd.fst g) (U.heldG d.snd.fst)) (List.take x (U.heldG d.snd.fst)) +
  U.sumTo (U.pairN d.snd.snd.fst d.snd.snd.snd.fst (nth (U.heldG d.snd.fst) (↑x : Int).toNat)) (List.take x_4 (U.heldG d.snd.fst)) +
  (min (nth (U.heldG d.snd.fst) (↑x : Int).toNat).snd.snd.snd.snd.fst (nth (U.heldG d.snd.fst) (↑x_4 : Int).toNat).snd.snd.snd.snd.fst -
  max (nth (U.heldG d.snd.fst) (↑x : Int).toNat).snd.snd.snd.fst (nth (U.heldG d.snd.fst) (↑x_4 : Int).toNat).snd.snd.snd.fst)) ∧
  (decide (band (nth (U.heldG d.snd.fst) (↑x : Int).toNat).snd.snd.snd.snd.snd.fst (nth (U.heldG d.snd.fst) (↑x_4 : Int).toNat).snd.snd.snd.snd.snd.fst ≠ (0 : Int)) = true →
  In64
  (U.sumTo (fun (g : Int × Int × Int × Int × Int × Int × Unit) => U.sumTo (U.pairS d.snd.snd.fst d.snd.snd.snd.fst g) (U.heldG d.snd.fst)) (List.take x (U.heldG d.snd.fst)) +
  U.sumTo (U.pairS d.snd.snd.fst d.snd.snd.snd.fst (nth (U.heldG d.snd.fst) (↑x : Int).toNat)) (List.take x_4 (U.heldG d.snd.fst)) +
  (min (nth (U.heldG d.snd.fst) (↑x : Int).toNat).snd.snd.snd.snd.fst (nth (U.heldG d.snd.fst) (↑x_4 : Int).toNat).snd.snd.snd.snd.fst -
  max (nth (U.heldG d.snd.fst) (↑x : Int).toNat).snd.snd.snd.fst (nth (U.heldG d.snd.fst) (↑x_4 : Int).toNat).snd.snd.snd.fst)) ∧
  In64 ((↑x_4 : Int) + (1 : Int)) ∧
  ∃ (x' : Nat),
  (((↑x_4 : Int) + (1 : Int) = (↑x' : Int) ∧
  U.sumTo (fun (g : Int × Int × Int × Int × Int × Int × Unit) => U.sumTo (U.pairS d.snd.snd.fst d.snd.snd.snd.fst g) (U.heldG d.snd.fst))
  (List.take x (U.heldG d.snd.fst)) +
  U.sumTo (U.pairS d.snd.snd.fst d.snd.snd.snd.fst (nth (U.heldG d.snd.fst) (↑x : Int).toNat)) (List.take x_4 (U.heldG d.snd.fst)) +
  (min (nth (U.heldG d.snd.fst) (↑x : Int).toNat).snd.snd.snd.snd.fst (nth (U.heldG d.snd.fst) (↑x_4 : Int).toNat).snd.snd.snd.snd.fst -
  max (nth (U.heldG d.snd.fst) (↑x : Int).toNat).snd.snd.snd.fst (nth (U.heldG d.snd.fst) (↑x_4 : Int).toNat).snd.snd.snd.fst) =
  U.sumTo (fun (g : Int × Int × Int × Int × Int × Int × Unit) => U.sumTo (U.pairS d.snd.snd.fst d.snd.snd.snd.fst g) (U.heldG d.snd.fst))
  (List.take x (U.heldG d.snd.fst)) +
  U.sumTo (U.pairS d.snd.snd.fst d.snd.snd.snd.fst (nth (U.heldG d.snd.fst) (↑x : Int).toNat)) (List.take x' (U.heldG d.snd.fst)) ∧
  U.sumTo (fun (g : Int × Int × Int × Int × Int × Int × Unit) => U.sumTo (U.pairN d.snd.snd.fst d.snd.snd.snd.fst g) (U.heldG d.snd.fst))
  (List.take x (U.heldG d.snd.fst)) +
  U.sumTo (U.pairN d.snd.snd.fst d.snd.snd.snd.fst (nth (U.heldG d.snd.fst) (↑x : Int).toNat)) (List.take x_4 (U.heldG d.snd.fst)) +
  (min (nth (U.heldG d.snd.fst) (↑x : Int).toNat).snd.snd.snd.snd.fst (nth (U.heldG d.snd.fst) (↑x_4 : Int).toNat).snd.snd.snd.snd.fst -
  max (nth (U.heldG d.snd.fst) (↑x : Int).toNat).snd.snd.snd.fst (nth (U.heldG d.snd.fst) (↑x_4 : Int).toNat).snd.snd.snd.fst) =
  U.sumTo (fun (g : Int × Int × Int × Int × Int × Int × Unit) => U.sumTo (U.pairN d.snd.snd.fst d.snd.snd.snd.fst g) (U.heldG d.snd.fst))
  (List.take x (U.heldG d.snd.fst)) +
  U.sumTo (U.pairN d.snd.snd.fst d.snd.snd.snd.fst (nth (U.heldG d.snd.fst) (↑x : Int).toNat)) (List.take x' (U.heldG d.snd.fst)) ∧
  True) ∧
  True) ∧
  x' ≤ (U.heldG d.snd.fst).length ∧ (U.heldG d.snd.fst).length - x' < (U.heldG d.snd.fst).length - x_4) ∧
  (decide (band (nth (U.heldG d.snd.fst) (↑x : Int).toNat).snd.snd.snd.snd.snd.fst (nth (U.heldG d.snd.fst) (↑x_4 : Int).toNat).snd.snd.snd.snd.snd.fst ≠ (0 : Int)) = false →
  In64 ((↑x_4 : Int) + (1 : Int)) ∧
  ∃ (x' : Nat),
  ((U.sumTo (fun (g : Int × Int × Int × Int × Int × Int × Unit) => U.sumTo (U.pairS d.snd.snd.fst d.snd.snd.snd.fst g) (U.heldG d.snd.fst)) (List.take x (U.heldG d.snd.fst)) +
  U.sumTo (U.pairS d.snd.snd.fst d.snd.snd.snd.fst (nth (U.heldG d.snd.fst) (↑x : Int).toNat)) (List.take x_4 (U.heldG d.snd.fst)) =
  U.sumTo (fun (g : Int × Int × Int × Int × Int × Int × Unit) => U.sumTo (U.pairS d.snd.snd.fst d.snd.snd.snd.fst g) (U.heldG d.snd.fst))
  (List.take x (U.heldG d.snd.fst)) +
  U.sumTo (U.pairS d.snd.snd.fst d.snd.snd.snd.fst (nth (U.heldG d.snd.fst) (↑x : Int).toNat)) (List.take x' (U.heldG d.snd.fst)) ∧
  (↑x_4 : Int) + (1 : Int) = (↑x' : Int) ∧
  U.sumTo (fun (g : Int × Int × Int × Int × Int × Int × Unit) => U.sumTo (U.pairN d.snd.snd.fst d.snd.snd.snd.fst g) (U.heldG d.snd.fst))
  (List.take x (U.heldG d.snd.fst)) +
  U.sumTo (U.pairN d.snd.snd.fst d.snd.snd.snd.fst (nth (U.heldG d.snd.fst) (↑x : Int).toNat)) (List.take x_4 (U.heldG d.snd.fst)) +
  (min (nth (U.heldG d.snd.fst) (↑x : Int).toNat).snd.snd.snd.snd.fst (nth (U.heldG d.snd.fst) (↑x_4 : Int).toNat).snd.snd.snd.snd.fst -
  max (nth (U.heldG d.snd.fst) (↑x : Int).toNat).snd.snd.snd.fst (nth (U.heldG d.snd.fst) (↑x_4 : Int).toNat).snd.snd.snd.fst) =
  U.sumTo (fun (g : Int × Int × Int × Int × Int × Int × Unit) => U.sumTo (U.pairN d.snd.snd.fst d.snd.snd.snd.fst g) (U.heldG d.snd.fst))
  (List.take x (U.heldG d.snd.fst)) +
  U.sumTo (U.pairN d.snd.snd.fst d.snd.snd.snd.fst (nth (U.heldG d.snd.fst) (↑x : Int).toNat)) (List.take x' (U.heldG d.snd.fst)) ∧
  True) ∧
  True) ∧
  x' ≤ (U.heldG d.snd.fst).length ∧ (U.heldG d.snd.fst).length - x' < (U.heldG d.snd.fst).length - x_4))) ∧
  (decide ((↑x_4 : Int) < (↑(U.heldG d.snd.fst).length : Int)) = false →
  In64 ((↑x : Int) + (1 : Int)) ∧
  ∃ (x' : Nat),
  (((↑x : Int) + (1 : Int) = (↑x' : Int) ∧
  U.sumTo (fun (g : Int × Int × Int × Int × Int × Int × Unit) => U.sumTo (U.pairN d.snd.snd.fst d.snd.snd.snd.fst g) (U.heldG d.snd.fst)) (List.take x (U.heldG d.snd.fst)) +
  U.sumTo (U.pairN d.snd.snd.fst d.snd.snd.snd.fst (nth (U.heldG d.snd.fst) (↑x : Int).toNat)) (List.take x_4 (U.heldG d.snd.fst)) =
  U.sumTo (fun (g : Int × Int × Int × Int × Int × Int × Unit) => U.sumTo (U.pairN d.snd.snd.fst d.snd.snd.snd.fst g) (U.heldG d.snd.fst)) (List.take x' (U.heldG d.snd.fst)) ∧
  U.sumTo (fun (g : Int × Int × Int × Int × Int × Int × Unit) => U.sumTo (U.pairS d.snd.snd.fst d.snd.snd.snd.fst g) (U.heldG d.snd.fst)) (List.take x (U.heldG d.snd.fst)) +
  U.sumTo (U.pairS d.snd.snd.fst d.snd.snd.snd.fst (nth (U.heldG d.snd.fst) (↑x : Int).toNat)) (List.take x_4 (U.heldG d.snd.fst)) =
  U.sumTo (fun (g : Int × Int × Int × Int × Int × Int × Unit) => U.sumTo (U.pairS d.snd.snd.fst d.snd.snd.snd.fst g) (U.heldG d.snd.fst)) (List.take x' (U.heldG d.snd.fst)) ∧
  True) ∧
  True) ∧
  x' ≤ (U.heldG d.snd.fst).length ∧ (U.heldG d.snd.fst).length - x' < (U.heldG d.snd.fst).length - x))) ∧
  (decide ((↑x : Int) < (↑(U.heldG d.snd.fst).length : Int)) = false →
  (U.sumTo (fun (g : Int × Int × Int × Int × Int × Int × Unit) => U.sumTo (U.pairN d.snd.snd.fst d.snd.snd.snd.fst g) (U.heldG d.snd.fst)) (List.take x (U.heldG d.snd.fst)),
  U.sumTo (fun (g : Int × Int × Int × Int × Int × Int × Unit) => U.sumTo (U.pairS d.snd.snd.fst d.snd.snd.snd.fst g) (U.heldG d.snd.fst)) (List.take x (U.heldG d.snd.fst)), (0 : Int), ()) =
  (if U.authErr d.fst d.snd.fst d.snd.snd.fst d.snd.snd.snd.fst = (0 : Int) then U.both (U.heldG d.snd.fst) d.snd.snd.fst d.snd.snd.snd.fst else (0 : Int),
  if U.authErr d.fst d.snd.fst d.snd.snd.fst d.snd.snd.snd.fst = (0 : Int) then U.same (U.heldG d.snd.fst) d.snd.snd.fst d.snd.snd.snd.fst else (0 : Int),
  U.authErr d.fst d.snd.fst d.snd.snd.fst d.snd.snd.snd.fst, ())))))

theorem vc21_eq : fnVC (ctx 94 [(37, sp37), (48, sp48), (45, sp45), (49, sp49)] []) (an21) Try.f21 (bodyOf Try.f21) sp21 = vc21 := by kernel_rfl


def so12 : OSpec := ⟨[.val (.slice tG)], [.cl (.row 27 tG .no)], fun d => [d.1.length ≤ 2000000], fun d => ((d.1, ()), ())⟩
def vc12 : Prop :=
  ∀ (d : List (Int × Int × Int × Int × Int × Int × Unit) × Unit), d.fst.length ≤ (2000000 : Nat) → ((0 : Nat) + d.fst.length) * (48 : Nat) ≤ (140737488355328 : Nat) ∧ ([] ++ d.fst, ()) = (d.fst, ()) ∧ () = ()

theorem vc12_eq : ofnVC (ctx 6 [] []) (fun _ => none) Try.f12 (bodyOf Try.f12) so12 = vc12 := by kernel_rfl

def sp25 : Spec := ⟨[.val tF], [tF], false, fun d => [d.1.1.length ≤ 2000000], fun d => (d.1, ())⟩
def vc25 : Prop :=
  ∀ (d : (List Int × Int × Unit) × Unit), d.fst.fst.length ≤ (2000000 : Nat) → ((0 : Nat) + d.fst.fst.length) * (8 : Nat) ≤ (140737488355328 : Nat) ∧ (([] ++ d.fst.fst, d.fst.snd.fst, ()), ()) = (d.fst, ())

theorem vc25_eq : fnVC (ctx 10 [] []) (fun _ => none) Try.f25 (bodyOf Try.f25) sp25 = vc25 := by kernel_rfl

def sp27 : Spec := ⟨[.val (.slice tR), .val (.slice tR)], [.bool], false, fun d => [d.1.length ≤ 100000], fun d => (decide (d.1 = d.2.1), ())⟩
def an27 : Ann := fun r => match r with
  | 4 => some fun σ => { X := Nat, sl := fun i => [(5, .dat .int (i : Int))], ob := fun _ => [], inv := fun i => i ≤ (gd (.slice tR) σ 0).length ∧ (gd (.slice tR) σ 0).take i = (gd (.slice tR) σ 1).take i, mu := fun i => (gd (.slice tR) σ 0).length - i }
  | _ => none
def vc27 : Prop :=
  ∀ (d : List (Int × Int × Int × Unit) × List (Int × Int × Int × Unit) × Unit),
  d.fst.length ≤ (100000 : Nat) →
  d.fst.length < (4611686018427387904 : Nat) →
  d.snd.fst.length < (4611686018427387904 : Nat) →
  (decide ((↑d.fst.length : Int) ≠ (↑d.snd.fst.length : Int)) = true → (false, ()) = (decide (d.fst = d.snd.fst), ())) ∧
  (decide ((↑d.fst.length : Int) ≠ (↑d.snd.fst.length : Int)) = false →
  (∃ (x : Nat), (((0 : Int) = (↑x : Int) ∧ True) ∧ True) ∧ x ≤ d.fst.length ∧ List.take x d.fst = List.take x d.snd.fst) ∧
  ∀ (x : Nat),
  x ≤ d.fst.length ∧ List.take x d.fst = List.take x d.snd.fst →
  d.fst.length < (4611686018427387904 : Nat) →
  (decide ((↑x : Int) < (↑d.fst.length : Int)) = true →
  (0 : Int) ≤ (↑x : Int) ∧
  (↑x : Int) < (↑d.fst.length : Int) ∧
  (0 : Int) ≤ (↑x : Int) ∧
  (↑x : Int) < (↑d.snd.fst.length : Int) ∧
  ((!decide (nth d.fst (↑x : Int).toNat = nth d.snd.fst (↑x : Int).toNat)) = true → (false, ()) = (decide (d.fst = d.snd.fst), ())) ∧
  ((!decide (nth d.fst (↑x : Int).toNat = nth d.snd.fst (↑x : Int).toNat)) = false →
  In64 ((↑x : Int) + (1 : Int)) ∧
  ∃ (x' : Nat), (((↑x : Int) + (1 : Int) = (↑x' : Int) ∧ True) ∧ True) ∧ (x' ≤ d.fst.length ∧ List.take x' d.fst = List.take x' d.snd.fst) ∧ d.fst.length - x' < d.fst.length - x)) ∧
  (decide ((↑x : Int) < (↑d.fst.length : Int)) = false → (true, ()) = (decide (d.fst = d.snd.fst), ())))

theorem vc27_eq : fnVC (ctx 26 [] []) (an27) Try.f27 (bodyOf Try.f27) sp27 = vc27 := by kernel_rfl

def sp18 : Spec := ⟨[.val (.slice tR), .val .int], [.int, .bool], false, fun d => [d.1.length ≤ 100000], fun d => (U.readS d.2.1 d.1, decide (U.readN d.2.1 d.1 ≤ 1), ())⟩
def an18 : Ann := fun r => match r with
  | 3 => some fun σ => { X := Nat, sl := fun i => [(8, .dat .int (i : Int)), (6, .dat .int (U.readS (gd .int σ 1) ((gd (.slice tR) σ 0).take i))), (7, .dat .int (U.readN (gd .int σ 1) ((gd (.slice tR) σ 0).take i)))], ob := fun _ => [], inv := fun i => i ≤ (gd (.slice tR) σ 0).length, mu := fun i => (gd (.slice tR) σ 0).length - i }
  | _ => none
def vc18 : Prop :=
  ∀ (d : List (Int × Int × Int × Unit) × Int × Unit),
  d.fst.length ≤ (100000 : Nat) →
  (∃ (x : Nat), (((0 : Int) = (↑x : Int) ∧ (0 : Int) = U.readS d.snd.fst (List.take x d.fst) ∧ (0 : Int) = U.readN d.snd.fst (List.take x d.fst) ∧ True) ∧ True) ∧ x ≤ d.fst.length) ∧
  ∀ (x : Nat),
  x ≤ d.fst.length →
  d.fst.length < (4611686018427387904 : Nat) →
  (decide ((↑x : Int) < (↑d.fst.length : Int)) = true →
  (0 : Int) ≤ (↑x : Int) ∧
  (↑x : Int) < (↑d.fst.length : Int) ∧
  (decide ((nth d.fst (↑x : Int).toNat).fst ≤ d.snd.fst) = true → (0 : Int) ≤ (↑x : Int)) ∧
  (decide ((nth d.fst (↑x : Int).toNat).fst ≤ d.snd.fst) = true → (↑x : Int) < (↑d.fst.length : Int)) ∧
  ((decide ((nth d.fst (↑x : Int).toNat).fst ≤ d.snd.fst) && decide (d.snd.fst < (nth d.fst (↑x : Int).toNat).snd.fst)) = true →
  (0 : Int) ≤ (↑x : Int) ∧
  (↑x : Int) < (↑d.fst.length : Int) ∧
  In64 (U.readN d.snd.fst (List.take x d.fst) + (1 : Int)) ∧
  In64 ((↑x : Int) + (1 : Int)) ∧
  ∃ (x' : Nat),
  (((↑x : Int) + (1 : Int) = (↑x' : Int) ∧
  U.readN d.snd.fst (List.take x d.fst) + (1 : Int) = U.readN d.snd.fst (List.take x' d.fst) ∧ (nth d.fst (↑x : Int).toNat).snd.snd.fst = U.readS d.snd.fst (List.take x' d.fst) ∧ True) ∧
  True) ∧
  x' ≤ d.fst.length ∧ d.fst.length - x' < d.fst.length - x) ∧
  ((decide ((nth d.fst (↑x : Int).toNat).fst ≤ d.snd.fst) && decide (d.snd.fst < (nth d.fst (↑x : Int).toNat).snd.fst)) = false →
  In64 ((↑x : Int) + (1 : Int)) ∧
  ∃ (x' : Nat),
  ((U.readN d.snd.fst (List.take x d.fst) = U.readN d.snd.fst (List.take x' d.fst) ∧
  U.readS d.snd.fst (List.take x d.fst) = U.readS d.snd.fst (List.take x' d.fst) ∧ (↑x : Int) + (1 : Int) = (↑x' : Int) ∧ True) ∧
  True) ∧
  x' ≤ d.fst.length ∧ d.fst.length - x' < d.fst.length - x)) ∧
  (decide ((↑x : Int) < (↑d.fst.length : Int)) = false →
  (U.readS d.snd.fst (List.take x d.fst), decide (U.readN d.snd.fst (List.take x d.fst) ≤ (1 : Int)), ()) = (U.readS d.snd.fst d.fst, decide (U.readN d.snd.fst d.fst ≤ (1 : Int)), ()))

theorem vc18_eq : fnVC (ctx 41 [] []) (an18) Try.f18 (bodyOf Try.f18) sp18 = vc18 := by kernel_rfl

def sp24 : Spec := ⟨[.val tF, .val (.slice tG)], [.bool], false, fun _ => [], fun d => (U.far d.1 d.2.1, ())⟩
def an24 : Ann := fun r => match r with
  | 6 => some fun σ => { X := Nat, sl := fun i => [(5, .dat .int (i : Int))], ob := fun _ => [], inv := fun i => i ≤ (gd tF σ 0).1.length ∧ ∀ n ∈ (gd tF σ 0).1.take i, n ≤ 12, mu := fun i => (gd tF σ 0).1.length - i }
  | _ => none
def vc24 : Prop :=
  ∀ (d : (List Int × Int × Unit) × List (Int × Int × Int × Int × Int × Int × Unit) × Unit),
  d.fst.fst.length < (4611686018427387904 : Nat) →
  ((!decide ((20 : Int) < (↑d.fst.fst.length : Int))) = true → d.snd.fst.length < (4611686018427387904 : Nat)) →
  ((!(decide ((20 : Int) < (↑d.fst.fst.length : Int)) || decide ((60 : Int) < (↑d.snd.fst.length : Int)))) = true → d.snd.fst.length < (4611686018427387904 : Nat)) →
  ((!(decide ((20 : Int) < (↑d.fst.fst.length : Int)) || decide ((60 : Int) < (↑d.snd.fst.length : Int))) && decide ((12 : Int) < (↑d.snd.fst.length : Int))) = true → d.snd.fst.length < (4611686018427387904 : Nat)) →
  ((decide ((20 : Int) < (↑d.fst.fst.length : Int)) || decide ((60 : Int) < (↑d.snd.fst.length : Int)) || decide ((12 : Int) < (↑d.snd.fst.length : Int)) && decide ((↑d.snd.fst.length : Int) ≤ (40 : Int))) = true →
  (true, ()) = (U.far d.fst d.snd.fst, ())) ∧
  ((decide ((20 : Int) < (↑d.fst.fst.length : Int)) || decide ((60 : Int) < (↑d.snd.fst.length : Int)) || decide ((12 : Int) < (↑d.snd.fst.length : Int)) && decide ((↑d.snd.fst.length : Int) ≤ (40 : Int))) = false →
  (decide (U.check (d.fst.fst, d.fst.snd.fst, ()) [] ≠ (0 : Int)) = true → (false, ()) = (U.far d.fst d.snd.fst, ())) ∧
  (decide (U.check (d.fst.fst, d.fst.snd.fst, ()) [] ≠ (0 : Int)) = false →
  (∃ (x : Nat), (((0 : Int) = (↑x : Int) ∧ True) ∧ True) ∧ x ≤ d.fst.fst.length ∧ ∀ (n : Int), n ∈ List.take x d.fst.fst → n ≤ (12 : Int)) ∧
  ∀ (x : Nat),
  (x ≤ d.fst.fst.length ∧ ∀ (n : Int), n ∈ List.take x d.fst.fst → n ≤ (12 : Int)) →
  d.fst.fst.length < (4611686018427387904 : Nat) →
  (decide ((↑x : Int) < (↑d.fst.fst.length : Int)) = true →
  (0 : Int) ≤ (↑x : Int) ∧
  (↑x : Int) < (↑d.fst.fst.length : Int) ∧
  (decide ((12 : Int) < nth d.fst.fst (↑x : Int).toNat) = true → (true, ()) = (U.far d.fst d.snd.fst, ())) ∧
  (decide ((12 : Int) < nth d.fst.fst (↑x : Int).toNat) = false →
  In64 ((↑x : Int) + (1 : Int)) ∧
  ∃ (x' : Nat),
  (((↑x : Int) + (1 : Int) = (↑x' : Int) ∧ True) ∧ True) ∧ (x' ≤ d.fst.fst.length ∧ ∀ (n : Int), n ∈ List.take x' d.fst.fst → n ≤ (12 : Int)) ∧ d.fst.fst.length - x' < d.fst.fst.length - x)) ∧
  (decide ((↑x : Int) < (↑d.fst.fst.length : Int)) = false → (decide ((6 : Int) < d.fst.snd.fst), ()) = (U.far d.fst d.snd.fst, ()))))

theorem vc24_eq : fnVC (ctx 44 [(38, sp38)] []) (an24) Try.f24 (bodyOf Try.f24) sp24 = vc24 := by kernel_rfl

def sp13 : Spec := ⟨[.val tF, .val (.slice tG)], [.bool], false, fun _ => [], fun d => (U.valid d.1 d.2.1, ())⟩
def vc13 : Prop :=
  ∀ (d : (List Int × Int × Unit) × List (Int × Int × Int × Int × Int × Int × Unit) × Unit),
  (!U.far (d.fst.fst, d.fst.snd.fst, ()) d.snd.fst && decide (U.check (d.fst.fst, d.fst.snd.fst, ()) d.snd.fst = (0 : Int)), ()) = (U.valid d.fst d.snd.fst, ())

theorem vc13_eq : fnVC (ctx 15 [(24, sp24), (38, sp38)] []) (fun _ => none) Try.f13 (bodyOf Try.f13) sp13 = vc13 := by kernel_rfl

def sp42 : Spec := ⟨[], [tF, .slice tG], false, fun _ => [], fun _ => (U.exF, U.exL, ())⟩
def vc42 : Prop :=
  ∀ (d : Unit),
  (([(10 : Int), (4 : Int)], (5 : Int), ()),
  [((0 : Int), (1 : Int), (0 : Int), (0 : Int), (6 : Int), (3 : Int), ()), ((1 : Int), (1 : Int), (0 : Int), (2 : Int), (8 : Int), (4 : Int), ()), ((2 : Int), (5 : Int), (0 : Int), (4 : Int), (10 : Int), (6 : Int), ()),
  ((0 : Int), (2 : Int), (0 : Int), (5 : Int), (7 : Int), (1 : Int), ()), ((1 : Int), (7 : Int), (1 : Int), (0 : Int), (4 : Int), (16 : Int), ())],
  ()) =
  (U.exF, U.exL, ())

theorem vc42_eq : fnVC (ctx 10 [] []) (fun _ => none) Try.f42 (bodyOf Try.f42) sp42 = vc42 := by kernel_rfl

def sp15 : Spec := ⟨[], [.bool], false, fun _ => [], fun _ => (true, ())⟩
def vc15 : Prop :=
  ∀ (d : Unit),
  (U.check (U.exF.fst, U.exF.snd.fst, ()) U.exL = (0 : Int) → U.exL.length ≤ (12 : Nat)) ∧
  (U.check (U.exF.fst, U.exF.snd.fst, ()) U.exL = (0 : Int) → U.exL.length ≤ (12 : Nat)) ∧
  ((decide (U.filmErr (U.exF.fst, U.exF.snd.fst, ()) U.exL (0 : Int) = (0 : Int)) && decide (U.authErr (U.exF.fst, U.exF.snd.fst, ()) U.exL (1 : Int) (2 : Int) = (0 : Int)) &&
  decide ((if U.authErr (U.exF.fst, U.exF.snd.fst, ()) U.exL (1 : Int) (2 : Int) = (0 : Int) then U.both (U.heldG U.exL) (1 : Int) (2 : Int) else (0 : Int)) = (4 : Int)) &&
  decide ((if U.authErr (U.exF.fst, U.exF.snd.fst, ()) U.exL (1 : Int) (2 : Int) = (0 : Int) then U.same (U.heldG U.exL) (1 : Int) (2 : Int) else (0 : Int)) = (4 : Int))) =
  true →
  (U.readings (U.exF.fst, U.exF.snd.fst, ()) U.exL (0 : Int)).length ≤ (100000 : Nat)) ∧
  (decide (U.filmErr (U.exF.fst, U.exF.snd.fst, ()) U.exL (0 : Int) = (0 : Int)) && decide (U.authErr (U.exF.fst, U.exF.snd.fst, ()) U.exL (1 : Int) (2 : Int) = (0 : Int)) &&
  decide ((if U.authErr (U.exF.fst, U.exF.snd.fst, ()) U.exL (1 : Int) (2 : Int) = (0 : Int) then U.both (U.heldG U.exL) (1 : Int) (2 : Int) else (0 : Int)) = (4 : Int)) &&
  decide ((if U.authErr (U.exF.fst, U.exF.snd.fst, ()) U.exL (1 : Int) (2 : Int) = (0 : Int) then U.same (U.heldG U.exL) (1 : Int) (2 : Int) else (0 : Int)) = (4 : Int)) &&
  decide
  (U.readings (U.exF.fst, U.exF.snd.fst, ()) U.exL (0 : Int) = [((2 : Int), (5 : Int), (4 : Int), ()), ((5 : Int), (7 : Int), (5 : Int), ()), ((7 : Int), (8 : Int), (4 : Int), ()), ((8 : Int), (10 : Int), (2 : Int), ())]),
  ()) =
  (true, ())

theorem vc15_eq : fnVC (ctx 48 [(42, sp42), (17, sp17), (21, sp21), (27, sp27)] []) (fun _ => none) Try.f15 (bodyOf Try.f15) sp15 = vc15 := by kernel_rfl


end Go.X
/-
  The program's functions do what they are asked to (6): deleting, what holds, what lies in a frame.
-/
namespace Go.X
open Go.Proofs

/-! ### Clone, DeleteFunc -/

theorem h69 : vc69 := by
  rintro ⟨l, ⟨⟩⟩ hl
  have hl : l.length ≤ 100000 := hl
  intro β hβ
  refine ⟨fun h => ?_, fun _ => ?_⟩
  · have : l = [] := hβ h
    subst this
    exact ⟨rfl, rfl⟩
  · exact ⟨by simp only; omega, rfl, rfl⟩

theorem ok69 : OFnOK PR 69 so69 := mkFnO (vc69_eq.mpr h69) Try.func69 (by kernel_rfl) (by kernel_rfl) (by kernel_rfl) (by kernel_rfl) (by kernel_rfl) trivial trivial

theorem asks_all' {l : List Prop} {k : Prop} (h : U.allP l) (hk : k) : asks l k := by
  induction l with
  | nil => exact hk
  | cons p l ih => exact ⟨h.1, ih h.2⟩

theorem kept_succ {F : GD × Unit → Bool × Unit} {l : List GD} {j : Nat} (h : j < l.length) : (l.take (j + 1)).filter (U.keeps F) = (l.take j).filter (U.keeps F) ++ (if U.keeps F (nth l j) = true then [nth l j] else []) := by
  rw [L.take_succ h, List.filter_append]
  congr 1
  by_cases hk : U.keeps F (nth l j) = true
  · rw [if_pos hk]; simp [hk]
  · rw [if_neg hk]; simp [hk]

theorem nth_of_drop {l m : List GD} {j : Nat} (h : m.drop j = l.drop j) (hj : j < l.length) (hm : j < m.length) : nth m j = nth l j := by
  rw [L.nth_lt hj, L.nth_lt hm]
  have := congrArg (fun q => q[0]?) h
  simp only [List.getElem?_drop, Nat.add_zero] at this
  rw [List.getElem?_eq_getElem hm, List.getElem?_eq_getElem hj] at this
  simpa using this

theorem h68 : vc68 := by
  rintro ⟨l, ⟨pre, F⟩, ⟨⟩⟩ hl hpre
  have hl : l.length ≤ 100000 := hl
  have hpre : ∀ g ∈ l, U.allP (pre (g, ())) := hpre
  refine ⟨hpre, fun h => ?_, fun h => ?_⟩
  · have h : U.idx (U.apply F) l = -1 := of_decide_eq_true h
    refine ⟨?_, rfl⟩
    have : l.filter (U.keeps F) = l := by
      rw [List.filter_eq_self]
      intro a ha
      unfold U.idx at h
      split at h
      · rename_i i _; omega
      · rename_i e
        rw [List.findIdx?_eq_none_iff] at e
        unfold U.keeps
        rw [e a ha]; rfl
    exact congrArg (·, ()) this.symm
  · have h : ¬ U.idx (U.apply F) l = -1 := of_decide_eq_false h
    obtain ⟨i, hi⟩ : ∃ i, l.findIdx? (U.apply F) = some i := by
      cases e : l.findIdx? (U.apply F) with
      | none => exact absurd (by unfold U.idx; rw [e]) h
      | some i => exact ⟨i, rfl⟩
    have hidx : U.idx (U.apply F) l = (i : Int) := by unfold U.idx; rw [hi]
    rw [List.findIdx?_eq_some_iff_getElem] at hi
    obtain ⟨hlt, hp, hbef⟩ := hi
    have hself : (l.take i).filter (U.keeps F) = l.take i := by
      rw [List.filter_eq_self]
      intro a ha
      obtain ⟨k, hk, rfl⟩ := List.mem_iff_getElem.1 ha
      have hk' : k < i := by simp at hk; omega
      have := hbef k hk'
      rw [List.getElem_take]
      unfold U.keeps
      simpa using this
    have hk1 : (l.take (i + 1)).filter (U.keeps F) = l.take i := by
      rw [kept_succ hlt, hself, if_neg, List.append_nil]
      rw [L.nth_lt hlt]
      unfold U.keeps
      rw [hp]; simp
    have hkn : U.keptN F l (i + 1) = i := by
      unfold U.keptN; rw [hk1, List.length_take]; omega
    simp only
    rw [hidx]
    refine ⟨by unfold In64; omega, ⟨(i + 1, l), ⟨⟨by rw [hkn], by simp, trivial⟩, rfl, trivial⟩, by simp only; omega, rfl, by rw [hkn]; simp, by rw [hkn, hk1], rfl⟩, ?_⟩
    rintro ⟨j, m⟩ ⟨k1, k2, k3, k4, k5⟩ _
    have k1 : j ≤ l.length := k1
    have k2 : m.length = l.length := k2
    have k3 : U.keptN F l j < j := k3
    have k4 : m.take (U.keptN F l j) = (l.take j).filter (U.keeps F) := k4
    have k5 : m.drop j = l.drop j := k5
    simp only [Int.toNat_natCast]
    refine ⟨fun hj => ?_, fun hj => ?_⟩
    · have hj : j < m.length := by have := of_decide_eq_true hj; omega
      have hjl : j < l.length := by omega
      have hn := nth_of_drop k5 hjl hj
      rw [hn]
      refine ⟨by omega, by omega, asks_all' (hpre _ (L.mem_nth hjl)) ⟨fun hb => ?_, fun hb => ?_⟩⟩
      · have hb : U.keeps F (nth l j) = true := hb
        have hs := kept_succ (F := F) hjl
        rw [if_pos hb] at hs
        have hkn' : U.keptN F l (j + 1) = U.keptN F l j + 1 := by unfold U.keptN; rw [hs]; simp
        refine ⟨by omega, by omega, by unfold In64; omega, by unfold In64; omega, ⟨(j + 1, m.set (U.keptN F l j) (nth l j)), ⟨⟨by simp, by rw [hkn']; simp, trivial⟩, rfl, trivial⟩, ⟨by simp only; omega, by simp [k2], by rw [hkn']; simp only; omega, ?_, ?_⟩, by simp only; omega⟩⟩
        · simp only
          rw [hkn', hs, ← k4]
          have hlt2 : U.keptN F l j < (m.set (U.keptN F l j) (nth l j)).length := by simp; omega
          rw [List.take_succ_eq_append_getElem hlt2, List.getElem_set_self, List.take_set]
          congr 1
          rw [List.set_eq_of_length_le (by simp; omega)]
        · simp only
          rw [List.drop_set_of_lt (by omega)]
          have := congrArg (List.drop 1) k5
          simpa [List.drop_drop] using this
      · have hb : U.keeps F (nth l j) = false := hb
        have hs := kept_succ (F := F) hjl
        rw [if_neg (by rw [hb]; simp), List.append_nil] at hs
        have hkn' : U.keptN F l (j + 1) = U.keptN F l j := by unfold U.keptN; rw [hs]
        refine ⟨by unfold In64; omega, ⟨(j + 1, m), ⟨⟨by rw [hkn'], by simp, trivial⟩, rfl, trivial⟩, ⟨by simp only; omega, k2, by rw [hkn']; simp only; omega, ?_, ?_⟩, by simp only; omega⟩⟩
        · simp only
          rw [hkn', hs, k4]
        · have := congrArg (List.drop 1) k5
          simpa [List.drop_drop] using this
    · have hj : m.length ≤ j := by have := of_decide_eq_false hj; omega
      have hjl : j = l.length := by omega
      have ht : (l.take j).filter (U.keeps F) = l.filter (U.keeps F) := by rw [List.take_of_length_le (by omega)]
      refine ⟨by omega, by omega, by omega, by omega, by omega, by omega, ?_, ?_, trivial⟩
      · simp only [List.length_append, List.length_take, List.length_replicate]; omega
      · congr 1
        simp only [Nat.sub_zero, List.drop_zero, Int.toNat_zero]
        rw [List.take_append_of_le_length (by simp; omega), List.take_take, Nat.min_self, k4, ht]

theorem ok68 : OFnOK PR 68 so68 := mkFnO (vc68_eq.mpr h68) Try.func68 (by kernel_rfl) (by kernel_rfl) (by kernel_rfl) (by kernel_rfl) (by kernel_rfl) ⟨fun _ => ok86, trivial⟩ trivial

theorem h70 : vc70 := by
  rintro ⟨g, l, ⟨⟩⟩
  exact ⟨fun _ _ _ => trivial, rfl⟩

theorem ok70 : FnOK PR 70 sp70 := mkFn (vc70_eq.mpr h70) Try.func70 (by kernel_rfl) (by kernel_rfl) (by kernel_rfl) (by kernel_rfl) ⟨fun _ => ok71, fun _ => ok72, trivial⟩ trivial

theorem h47 : vc47 := by
  rintro ⟨l, a, b, ⟨⟩⟩ hl
  have hl : l.length ≤ 100000 := hl
  refine ⟨hl, hl, fun _ _ => trivial, ?_⟩
  congr 2
  funext g
  unfold U.keeps U.apply U.inFrame
  rw [Bool.eq_iff_iff]
  simp only [Bool.not_eq_true', decide_eq_true_eq]
  constructor
  · intro h
    have h := L.not_false h
    simp only [decide_eq_true_eq] at h
    omega
  · intro h
    have : decide (U.fi g = a ∧ U.fr g ≤ b ∧ b < U.to g) = true := decide_eq_true (by omega)
    rw [this]; rfl

theorem ok47 : FnOK PR 47 sp47 := mkFn (vc47_eq.mpr h47) Try.func47 (by kernel_rfl) (by kernel_rfl) (by kernel_rfl) (by kernel_rfl) ⟨fun _ => ok74, trivial⟩ ⟨ok69, ok68, trivial⟩

/-! ### In order -/

def insR (c : U.Cmp) (x : GD) : List GD → List GD
  | [] => [x]
  | y :: r => if (c (x, y, ())).1 < 0 then y :: insR c x r else x :: y :: r

theorem insR_len (c : U.Cmp) (x : GD) : ∀ (q : List GD), (insR c x q).length = q.length + 1
  | [] => rfl
  | y :: r => by
    unfold insR
    split
    · simp [insR_len c x r]
    · simp

theorem nth_mid (a : List GD) (x : GD) (s : List GD) : nth (a ++ x :: s) a.length = x := by
  rw [L.nth_lt (by simp)]; simp

theorem sink_app (c : U.Cmp) : ∀ (q : List GD) (x : GD) (s : List GD), U.sink c (q.reverse ++ x :: s) q.length = (insR c x q).reverse ++ s
  | [], x, s => rfl
  | y :: r, x, s => by
    have e : (y :: r).reverse ++ x :: s = r.reverse ++ y :: x :: s := by simp
    rw [e]
    have n1 : nth (r.reverse ++ y :: x :: s) (r.length + 1) = x := by
      have := nth_mid (r.reverse ++ [y]) x s
      simpa using this
    have n2 : nth (r.reverse ++ y :: x :: s) r.length = y := by
      have := nth_mid r.reverse y (x :: s)
      simpa using this
    show (if (c (nth _ (r.length + 1), nth _ r.length, ())).1 < 0 then U.sink c (U.swap _ (r.length + 1) r.length) r.length else _) = _
    rw [n1, n2]
    unfold insR
    split
    · have hsw : U.swap (r.reverse ++ y :: x :: s) (r.length + 1) r.length = r.reverse ++ x :: (y :: s) := by
        unfold U.swap
        rw [n1, n2]
        apply List.ext_getElem?
        intro k
        simp only [List.getElem?_set, List.length_set]
        by_cases h1 : r.length = k
        · subst h1
          rw [if_pos rfl, if_pos (by simp)]
          rw [List.getElem?_append_right (by simp)]; simp
        · rw [if_neg h1]
          by_cases h2 : r.length + 1 = k
          · subst h2
            rw [if_pos rfl, if_pos (by simp)]
            rw [List.getElem?_append_right (by simp)]; simp
          · rw [if_neg h2]
            by_cases h3 : k < r.length
            · rw [List.getElem?_append_left (by simpa using h3), List.getElem?_append_left (by simpa using h3)]
            · rw [List.getElem?_append_right (by simp; omega), List.getElem?_append_right (by simp; omega)]
              obtain ⟨d, hd⟩ : ∃ d, k - r.reverse.length = d + 2 := ⟨k - r.length - 2, by simp; omega⟩
              rw [hd]; simp
      rw [hsw, sink_app c r x (y :: s)]
      simp
    · simp

theorem fold_len (c : U.Cmp) : ∀ (l q : List GD), (l.foldl (fun q x => insR c x q) q).length = q.length + l.length
  | [], q => rfl
  | x :: l, q => by
    simp only [List.foldl_cons, List.length_cons]
    rw [fold_len c l, insR_len]; omega

theorem part_eq (c : U.Cmp) (l : List GD) : ∀ i, i ≤ l.length → U.part c l i = ((l.take i).foldl (fun q x => insR c x q) []).reverse ++ l.drop i
  | 0, _ => by simp [U.part]
  | i + 1, h => by
    rw [part_succ, part_eq c l i (by omega)]
    have hd : l.drop i = nth l i :: l.drop (i + 1) := by
      rw [L.nth_lt (by omega)]
      exact List.drop_eq_getElem_cons (by omega)
    rw [hd]
    have hlen : ((l.take i).foldl (fun q x => insR c x q) []).length = i := by rw [fold_len]; simp; omega
    have := sink_app c ((l.take i).foldl (fun q x => insR c x q) []) (nth l i) (l.drop (i + 1))
    rw [hlen] at this
    rw [this, L.take_succ (by omega), List.foldl_append]
    rfl

theorem isort_eq (c : U.Cmp) (l : List GD) : U.isort c l = (l.foldl (fun q x => insR c x q) []).reverse := by
  unfold U.isort
  rw [part_eq c l _ (Nat.le_refl _)]
  simp

theorem cmp_lt {a b : GD} : U.cmp a b < 0 ↔ U.ltk a b = true := by
  unfold U.cmp U.ltk
  rw [decide_eq_true_eq]
  split <;> omega

theorem ltk_trans {a b c : GD} (h1 : U.ltk a b = true) (h2 : U.ltk b c = true) : U.ltk a c = true := by
  unfold U.ltk at *
  rw [decide_eq_true_eq] at *
  omega

theorem ltk_total {a b : GD} (h : U.key a ≠ U.key b) : U.ltk a b = true ∨ U.ltk b a = true := by
  unfold U.ltk
  rw [decide_eq_true_eq, decide_eq_true_eq]
  unfold U.key at h
  by_cases h1 : U.au a = U.au b
  · have h2 : U.st a ≠ U.st b := fun e => h (by rw [h1, e])
    omega
  · omega

theorem insR_mem {c : U.Cmp} {x z : GD} : ∀ {q : List GD}, z ∈ insR c x q ↔ z = x ∨ z ∈ q
  | [] => by simp [insR]
  | y :: r => by
    unfold insR
    split
    · simp only [List.mem_cons, insR_mem (q := r)]
      constructor
      · rintro (h | h | h) <;> simp [h]
      · rintro (h | h | h) <;> simp [h]
    · simp

theorem insR_desc {x : GD} : ∀ {q : List GD}, q.Pairwise (fun a b => U.ltk b a = true) → (∀ y ∈ q, U.key x ≠ U.key y) → (insR U.cmpF x q).Pairwise (fun a b => U.ltk b a = true)
  | [], _, _ => by simp [insR]
  | y :: r, h, hk => by
    rw [List.pairwise_cons] at h
    unfold insR
    split
    · rename_i hc
      have hc : U.ltk x y = true := cmp_lt.1 hc
      rw [List.pairwise_cons]
      refine ⟨fun z hz => ?_, insR_desc h.2 (fun z hz => hk z (by simp [hz]))⟩
      rcases insR_mem.1 hz with rfl | hz
      · exact hc
      · exact h.1 z hz
    · rename_i hc
      have hc : ¬ U.ltk x y = true := fun e => hc (cmp_lt.2 e)
      have hyx : U.ltk y x = true := (ltk_total (hk y (by simp))).resolve_left hc
      rw [List.pairwise_cons]
      refine ⟨fun z hz => ?_, List.pairwise_cons.2 h⟩
      rcases List.mem_cons.1 hz with rfl | hz
      · exact hyx
      · exact ltk_trans (h.1 z hz) hyx

theorem fold_desc : ∀ (l q : List GD), q.Pairwise (fun a b => U.ltk b a = true) → (l.map U.key).Nodup → (∀ x ∈ l, ∀ y ∈ q, U.key x ≠ U.key y) → (l.foldl (fun q x => insR U.cmpF x q) q).Pairwise (fun a b => U.ltk b a = true)
  | [], q, h, _, _ => h
  | x :: l, q, h, hn, hk => by
    rw [List.map_cons, List.nodup_cons] at hn
    refine fold_desc l _ (insR_desc h (fun y hy => hk x (by simp) y hy)) hn.2 (fun z hz y hy => ?_)
    rcases insR_mem.1 hy with rfl | hy
    · intro e
      exact hn.1 (by rw [← e]; exact List.mem_map_of_mem hz)
    · exact hk z (by simp [hz]) y hy

abbrev Asc (l : List GD) : Prop := l.Pairwise (fun a b => U.ltk a b = true)

theorem isort_asc {l : List GD} (h : (l.map U.key).Nodup) : Asc (U.isort U.cmpF l) := by
  rw [isort_eq]
  unfold Asc
  rw [List.pairwise_reverse]
  exact fold_desc l [] (by simp) h (fun _ _ _ hy => by simp at hy)

theorem asc_unique {a b : List GD} (ha : Asc a) (hb : Asc b) (hp : a.Perm b) : a = b := by
  refine List.Perm.eq_of_pairwise (le := fun a b => U.ltk a b = true) ?_ ha hb hp
  intro x y _ _ h1 h2
  have := ltk_trans h1 h2
  rw [ltk_irrefl] at this; cases this

theorem isort_congr {l m : List GD} (hp : l.Perm m) (h : (m.map U.key).Nodup) : U.isort U.cmpF l = U.isort U.cmpF m := by
  have h' : (l.map U.key).Nodup := (hp.map U.key).nodup_iff.2 h
  exact asc_unique (isort_asc h') (isort_asc h) ((isort_perm _ _).trans (hp.trans (isort_perm _ _).symm))

/-! ### The messages of a box -/

theorem vals_key {m : List (KD' × GD)} (h : ∀ e ∈ m, e.1 = U.key e.2 ∧ U.small e.2) : (U.vals m).map U.key = m.map (·.1) := by
  unfold U.vals
  rw [List.map_map]
  exact List.map_congr_left (fun e he => (h e he).1.symm)

theorem h60 : vc60 := by
  rintro ⟨⟨m, wr, ⟨⟩⟩, ⟨⟩⟩ hm
  have hm : U.okMap m := hm
  unfold U.okMap at hm
  obtain ⟨hm1, hm2, hm3⟩ := hm
  have hk : ((U.vals m).map U.key).Nodup := by rw [vals_key hm2]; exact hm3
  have hvl : (U.vals m).length = m.length := by simp [U.vals]
  simp only
  refine ⟨⟨(m, []), ⟨⟨trivial, trivial⟩, rfl, rfl, trivial⟩, by simp⟩, ?_⟩
  rintro ⟨left, acc⟩ hp
  have hp : (U.vals left ++ acc).Perm (U.vals m) := hp
  refine ⟨fun h0 => ⟨fun e => (by cases e), fun _ => ?_⟩, ?_⟩
  · have h0 : left = [] := h0
    subst h0
    have hp : acc.Perm (U.vals m) := hp
    refine ⟨?_, ?_, ?_, trivial⟩
    · show acc.length ≤ 12
      rw [hp.length_eq, hvl]; exact hm1
    · intro x hx y hy
      have sm : ∀ z ∈ acc, U.small z := fun z hz => by
        have := hp.mem_iff.1 hz
        unfold U.vals at this
        obtain ⟨e, he, rfl⟩ := List.mem_map.1 this
        exact (hm2 e he).2
      exact ⟨⟨sm x hx, sm y hy⟩, trivial⟩
    · exact congrArg (·, ()) (isort_congr hp hk)
  · rintro pre x post hl
    have hl : left = pre ++ x :: post := hl
    subst hl
    refine ⟨fun _ => ⟨?_, ⟨(pre ++ post, acc ++ [x.2]), ⟨⟨trivial, trivial⟩, rfl, rfl, trivial⟩, ?_, ?_⟩⟩, fun e => (by cases e)⟩
    · have := hp.length_eq
      rw [hvl] at this
      simp only [List.length_append, List.length_cons, List.length_nil] at this ⊢
      omega
    · refine List.Perm.trans ?_ hp
      simp only [U.vals, List.map_append, List.map_cons]
      have e1 : (pre.map (·.2) ++ post.map (·.2) ++ (acc ++ [x.2])) = pre.map (·.2) ++ ((post.map (·.2) ++ acc) ++ [x.2]) := by simp
      have e2 : (pre.map (·.2) ++ x.2 :: post.map (·.2)) ++ acc = pre.map (·.2) ++ (x.2 :: (post.map (·.2) ++ acc)) := by simp
      rw [e1, e2]
      refine List.Perm.append_left _ ?_
      exact List.perm_append_singleton x.2 _
    · simp only [List.length_append, List.length_cons]; omega

theorem ok60 : OFnOK PR 60 so60 := mkFnO (vc60_eq.mpr h60) Try.func60 (by kernel_rfl) (by kernel_rfl) (by kernel_rfl) (by kernel_rfl) (by kernel_rfl) ⟨fun _ => ok80, trivial⟩ ⟨ok79, trivial⟩

theorem mput_keys {k : KD'} {v : GD} : ∀ {m : List (KD' × GD)}, (∀ e, e ∈ mput tK k v m → e = (k, v) ∨ e ∈ m) ∧ ((m.map (·.1)).Nodup → ((mput tK k v m).map (·.1)).Nodup) ∧ (∀ z, z ∈ (mput tK k v m).map (·.1) → z = k ∨ z ∈ m.map (·.1)) ∧ (mput tK k v m).length ≤ m.length + 1
  | [] => by simp [mput]
  | e :: r => by
    obtain ⟨i1, i2, i3, i4⟩ := mput_keys (k := k) (v := v) (m := r)
    unfold mput
    split
    · rename_i hd
      have hd : k = e.1 := of_decide_eq_true hd
      refine ⟨fun z hz => ?_, fun h => ?_, fun z hz => ?_, by simp⟩
      · rcases List.mem_cons.1 hz with h | h
        · exact .inl h
        · exact .inr (by simp [h])
      · simpa [hd] using h
      · rcases List.mem_cons.1 hz with h | h
        · exact .inl h
        · exact .inr (by simp only [List.map_cons]; exact List.mem_cons_of_mem _ h)
    · rename_i hd
      have hd : k ≠ e.1 := fun h => hd (decide_eq_true h)
      refine ⟨fun z hz => ?_, fun h => ?_, fun z hz => ?_, by simp; omega⟩
      · rcases List.mem_cons.1 hz with h | h
        · exact .inr (by simp [h])
        · rcases i1 z h with h | h
          · exact .inl h
          · exact .inr (by simp [h])
      · rw [List.map_cons, List.nodup_cons] at h ⊢
        refine ⟨fun hm => ?_, i2 h.2⟩
        rcases i3 _ hm with h' | h'
        · exact hd h'.symm
        · exact h.1 h'
      · rcases List.mem_cons.1 hz with h | h
        · exact .inr (by simp [h])
        · rcases i3 z h with h | h
          · exact .inl h
          · exact .inr (by simp only [List.map_cons]; exact List.mem_cons_of_mem _ h)

/-- what a box of messages is -/
structure MapOf (p : List GD) (m : List (KD' × GD)) : Prop where
  mem : ∀ e ∈ m, e.1 = U.key e.2 ∧ e.2 ∈ p
  nod : (m.map (·.1)).Nodup
  len : m.length ≤ p.length

theorem mapOf_all : ∀ (l p : List GD) (b : BD), MapOf p b.1 → MapOf (p ++ l) (U.putAll b l).1
  | [], p, b, h => by simpa [U.putAll] using h
  | g :: l, p, b, h => by
    have := mapOf_all l (p ++ [g]) (U.put1 b g) (by
      obtain ⟨i1, i2, _, i4⟩ := mput_keys (k := U.key g) (v := g) (m := b.1)
      refine ⟨fun e he => ?_, i2 h.nod, ?_⟩
      · rcases i1 e he with rfl | he
        · exact ⟨rfl, by simp⟩
        · exact ⟨(h.mem e he).1, by simp [(h.mem e he).2]⟩
      · have := h.len
        simp only [List.length_append, List.length_cons, List.length_nil]
        show (mput tK (U.key g) g b.1).length ≤ _
        omega)
    simpa [U.putAll] using this

theorem mapOf_fill (l : List GD) : MapOf l (U.fillAll [l]).1 := mapOf_all l [] ([], 0, ()) ⟨by simp, by simp, by simp⟩

theorem h45 : vc45 := by
  rintro ⟨l, ⟨⟩⟩ hl hs
  have hl : l.length ≤ 12 := hl
  have hs : ∀ g ∈ l, U.small g := hs
  have hm := mapOf_fill l
  have h1 : (U.isort U.cmpF (U.vals (U.fillAll [l]).1)).length ≤ 100000 := by
    rw [(isort_perm _ _).length_eq]
    have := hm.len
    simp only [U.vals, List.length_map]; omega
  refine ⟨by simp, fun x hx => ?_, ⟨?_, fun e he => ⟨(hm.mem e he).1, hs _ (hm.mem e he).2⟩, hm.nod⟩, h1, h1, fun _ _ => trivial, rfl⟩
  · have : x = l := by simpa using hx
    subst this; omega
  · have := hm.len; simp only; omega

theorem ok45 : FnOK PR 45 sp45 := mkFn (vc45_eq.mpr h45) Try.func45 (by kernel_rfl) (by kernel_rfl) (by kernel_rfl) (by kernel_rfl) ⟨fun _ => ok70, trivial⟩ ⟨ok59, ok60, ok69, ok68, trivial⟩

end Go.X
