/-
  Signs, the specification: books, Merge, Order: what is asked.
-/
import Derived.Test.YtafidkjlgchbbaaGreatG3
namespace Go.X
open Go.Proofs

namespace U
def isB (l : List ED) : Bool := decide (l.length ≤ 40) && l.all okE
def alikeR (a b : ED) : Bool := decide (id' a = id' b ∧ sg a = sg b ∧ rg a = rg b ∧ ag a = ag b ∧ order (canR (fm a)) (canR (fm b)) = 0)
def clsh (a b : ED) : Bool := decide (id' a = id' b) && !alikeR a b
def clashAt (l : List ED) (i : Nat) : Bool := (l.take i).any (clsh (nth l i))
def clashTo (l : List ED) (n : Nat) : Bool := (List.range n).any (clashAt l)
def clash (l : List ED) : Bool := clashTo l l.length
def chk (l : List ED) : Int := if isB l = false then 11 else if clash l = true then 12 else 0
def canRE (x : ED) : ED := (id' x, sg x, rg x, canR (fm x), ag x, ())
def firstOf (l : List ED) (n : Nat) : List ED := match l.find? (fun x => decide (id' x = (n : Int))) with
  | some x => [canRE x]
  | none => []
def distTo (l : List ED) (n : Nat) : List ED := (List.range n).flatMap (firstOf l)
def dist (l : List ED) : List ED := distTo l 100
def mrgR (l more : List ED) : List ED × Int × Unit := if chk l ≠ 0 then ([], chk l, ()) else if chk more ≠ 0 then ([], chk more, ()) else if 40 < (dist (l ++ more)).length then ([], 2, ()) else if clash (l ++ more) = true then ([], 12, ()) else (dist (l ++ more), 0, ())
def before (a b : ED) : Bool := decide (cmpE a b < 0)
def ordR (l : List ED) : List Int × Int × Unit := if chk l ≠ 0 then ([], chk l, ()) else ((srtE (dist l)).map id', 0, ())
def inv33 (l d : List ED) (out : List Int) : Prop := out ++ (srtE d).map id' = (srtE (dist l)).map id' ∧ (d.map id').Nodup ∧ (∀ x ∈ d, okForm (fm x) = true) ∧ d.length ≤ 100 ∧ out.length ≤ 100
def inv33i (d : List ED) (i first : Nat) : Prop := i ≤ d.length ∧ first < d.length ∧ ∀ b : Nat, b < i → before (nth d b) (nth d first) = false
end U

def sp81 : Spec := ⟨[.val tE], [.bool], false, fun _ => [], fun d => (U.okE d.1, ())⟩
def vc81 : Prop :=
  ∀ (d : ED × Unit),
  (U.within d.1.1 (0 : Int) (99 : Int) && U.within d.1.2.1 (0 : Int) (999 : Int) && U.okForm d.1.2.2.2.1 && U.within d.1.2.2.1 (1 : Int) (255 : Int) && decide ((0 : Int) ≤ d.1.2.2.2.2.1.1) &&
  decide (d.1.2.2.2.2.1.1 ≤ d.1.2.2.2.2.1.2.1) &&
  decide (d.1.2.2.2.2.1.2.1 ≤ (120 : Int)),
  ()) =
  (U.okE d.1, ())

theorem vc81_eq : fnVC (ctx 42 [(43, sp43), (55, sp55)] []) (fun _ => none) Tryz.f81 (bodyOf Tryz.f81) sp81 = vc81 := by kernel_rfl

def sp48 : Spec := ⟨[.val (.slice tE)], [.bool], false, fun _ => [], fun d => (U.isB d.1, ())⟩
def an48 : Ann := fun r => match r with
  | 2 => some fun σ => { X := Nat, sl := fun i => [(3, .dat .int (i : Int))], ob := fun _ => [], inv := fun i => i ≤ (gd (.slice tE) σ 0).length ∧ ((gd (.slice tE) σ 0).take i).all U.okE = true, mu := fun i => (gd (.slice tE) σ 0).length - i }
  | _ => none
def vc48 : Prop :=
  ∀ (d : List ED × Unit),
  (∃ (x : Nat), (((0 : Int) = (↑x : Int) ∧ True) ∧ True) ∧ x ≤ d.1.length ∧ (List.take x d.1).all U.okE = true) ∧
  ∀ (x : Nat),
  x ≤ d.1.length ∧ (List.take x d.1).all U.okE = true →
  d.1.length < (4611686018427387904 : Nat) →
  (decide ((↑x : Int) < (↑d.1.length : Int)) = true →
  (0 : Int) ≤ (↑x : Int) ∧
  (↑x : Int) < (↑d.1.length : Int) ∧
  ((!U.okE (nth d.1 (↑x : Int).toNat)) = true → (false, ()) = (U.isB d.1, ())) ∧
  ((!U.okE (nth d.1 (↑x : Int).toNat)) = false →
  In64 ((↑x : Int) + (1 : Int)) ∧ ∃ (x' : Nat), (((↑x : Int) + (1 : Int) = (↑x' : Int) ∧ True) ∧ True) ∧ (x' ≤ d.1.length ∧ (List.take x' d.1).all U.okE = true) ∧ d.1.length - x' < d.1.length - x)) ∧
  (decide ((↑x : Int) < (↑d.1.length : Int)) = false → d.1.length < (4611686018427387904 : Nat) → (decide ((↑d.1.length : Int) ≤ (40 : Int)), ()) = (U.isB d.1, ()))

theorem vc48_eq : fnVC (ctx 19 [(81, sp81)] []) (an48) Tryz.f48 (bodyOf Tryz.f48) sp48 = vc48 := by kernel_rfl

def sp95 : Spec := ⟨[.val tE, .val tE], [.bool], false, fun d => [U.okForm (U.fm d.1) = true, U.okForm (U.fm d.2.1) = true], fun d => (U.alikeR d.1 d.2.1, ())⟩
def vc95 : Prop :=
  ∀ (d : ED × ED × Unit),
  U.okForm (U.fm d.1) = true →
  U.okForm (U.fm d.2.1) = true →
  ((decide (d.1.1 = d.2.1.1) && decide (d.1.2.1 = d.2.1.2.1) && decide (d.1.2.2.1 = d.2.1.2.2.1) && decide (d.1.2.2.2.2.1 = d.2.1.2.2.2.2.1)) = true →
  U.okForm d.1.2.2.2.1 = true) ∧
  ((decide (d.1.1 = d.2.1.1) && decide (d.1.2.1 = d.2.1.2.1) && decide (d.1.2.2.1 = d.2.1.2.2.1) && decide (d.1.2.2.2.2.1 = d.2.1.2.2.2.2.1)) = true →
  U.okForm d.2.1.2.2.2.1 = true) ∧
  ((decide (d.1.1 = d.2.1.1) && decide (d.1.2.1 = d.2.1.2.1) && decide (d.1.2.2.1 = d.2.1.2.2.1) && decide (d.1.2.2.2.2.1 = d.2.1.2.2.2.2.1)) = true →
  U.okForm (U.canR d.1.2.2.2.1) = true) ∧
  ((decide (d.1.1 = d.2.1.1) && decide (d.1.2.1 = d.2.1.2.1) && decide (d.1.2.2.1 = d.2.1.2.2.1) && decide (d.1.2.2.2.2.1 = d.2.1.2.2.2.2.1)) = true →
  U.okForm (U.canR d.2.1.2.2.2.1) = true) ∧
  (decide (d.1.1 = d.2.1.1) && decide (d.1.2.1 = d.2.1.2.1) && decide (d.1.2.2.1 = d.2.1.2.2.1) && decide (d.1.2.2.2.2.1 = d.2.1.2.2.2.2.1) &&
  decide (U.order (U.canR d.1.2.2.2.1) (U.canR d.2.1.2.2.2.1) = (0 : Int)),
  ()) =
  (U.alikeR d.1 d.2.1, ())

theorem vc95_eq : fnVC (ctx 41 [(78, sp78), (79, sp79)] []) (fun _ => none) Tryz.f95 (bodyOf Tryz.f95) sp95 = vc95 := by kernel_rfl

def sp57 : Spec := ⟨[.val (.slice tE)], [.bool], false, fun d => [∀ x ∈ d.1, U.okForm (U.fm x) = true], fun d => (U.clash d.1, ())⟩
def an57 : Ann := fun r => match r with
  | 2 => some fun σ => { X := Nat, sl := fun i => [(3, .dat .int (i : Int))], ob := fun _ => [], inv := fun i => i ≤ (gd (.slice tE) σ 0).length ∧ U.clashTo (gd (.slice tE) σ 0) i = false, mu := fun i => (gd (.slice tE) σ 0).length - i }
  | 5 => some fun σ => { X := Nat, sl := fun k => [(4, .dat .int (k : Int))], ob := fun _ => [], inv := fun k => k ≤ (gd .int σ 3).toNat ∧ ((gd (.slice tE) σ 0).take k).any (U.clsh (nth (gd (.slice tE) σ 0) (gd .int σ 3).toNat)) = false, mu := fun k => (gd .int σ 3).toNat - k }
  | _ => none
def vc57 : Prop :=
  ∀ (d : List ED × Unit),
  (∀ (x : ED), x ∈ d.1 → U.okForm (U.fm x) = true) →
  (∃ (x : Nat), (((0 : Int) = (↑x : Int) ∧ True) ∧ True) ∧ x ≤ d.1.length ∧ U.clashTo d.1 x = false) ∧
  ∀ (x : Nat),
  x ≤ d.1.length ∧ U.clashTo d.1 x = false →
  d.1.length < (4611686018427387904 : Nat) →
  (decide ((↑x : Int) < (↑d.1.length : Int)) = true →
  (∃ (x_4 : Nat), (((0 : Int) = (↑x_4 : Int) ∧ True) ∧ True) ∧ x_4 ≤ (↑x : Int).toNat ∧ (List.take x_4 d.1).any (U.clsh (nth d.1 (↑x : Int).toNat)) = false) ∧
  ∀ (x_4 : Nat),
  x_4 ≤ (↑x : Int).toNat ∧ (List.take x_4 d.1).any (U.clsh (nth d.1 (↑x : Int).toNat)) = false →
  (decide ((↑x_4 : Int) < (↑x : Int)) = true →
  (0 : Int) ≤ (↑x : Int) ∧
  (↑x : Int) < (↑d.1.length : Int) ∧
  (0 : Int) ≤ (↑x_4 : Int) ∧
  (↑x_4 : Int) < (↑d.1.length : Int) ∧
  (decide ((nth d.1 (↑x : Int).toNat).1 = (nth d.1 (↑x_4 : Int).toNat).1) = true → (0 : Int) ≤ (↑x : Int)) ∧
  (decide ((nth d.1 (↑x : Int).toNat).1 = (nth d.1 (↑x_4 : Int).toNat).1) = true → (↑x : Int) < (↑d.1.length : Int)) ∧
  (decide ((nth d.1 (↑x : Int).toNat).1 = (nth d.1 (↑x_4 : Int).toNat).1) = true → (0 : Int) ≤ (↑x_4 : Int)) ∧
  (decide ((nth d.1 (↑x : Int).toNat).1 = (nth d.1 (↑x_4 : Int).toNat).1) = true → (↑x_4 : Int) < (↑d.1.length : Int)) ∧
  (decide ((nth d.1 (↑x : Int).toNat).1 = (nth d.1 (↑x_4 : Int).toNat).1) = true → U.okForm (U.fm (nth d.1 (↑x : Int).toNat)) = true) ∧
  (decide ((nth d.1 (↑x : Int).toNat).1 = (nth d.1 (↑x_4 : Int).toNat).1) = true → U.okForm (U.fm (nth d.1 (↑x_4 : Int).toNat)) = true) ∧
  ((decide ((nth d.1 (↑x : Int).toNat).1 = (nth d.1 (↑x_4 : Int).toNat).1) && !U.alikeR (nth d.1 (↑x : Int).toNat) (nth d.1 (↑x_4 : Int).toNat)) = true →
  (true, ()) = (U.clash d.1, ())) ∧
  ((decide ((nth d.1 (↑x : Int).toNat).1 = (nth d.1 (↑x_4 : Int).toNat).1) && !U.alikeR (nth d.1 (↑x : Int).toNat) (nth d.1 (↑x_4 : Int).toNat)) = false →
  In64 ((↑x_4 : Int) + (1 : Int)) ∧
  ∃ (x' : Nat),
  (((↑x_4 : Int) + (1 : Int) = (↑x' : Int) ∧ True) ∧ True) ∧
  (x' ≤ (↑x : Int).toNat ∧ (List.take x' d.1).any (U.clsh (nth d.1 (↑x : Int).toNat)) = false) ∧ (↑x : Int).toNat - x' < (↑x : Int).toNat - x_4)) ∧
  (decide ((↑x_4 : Int) < (↑x : Int)) = false →
  In64 ((↑x : Int) + (1 : Int)) ∧ ∃ (x' : Nat), (((↑x : Int) + (1 : Int) = (↑x' : Int) ∧ True) ∧ True) ∧ (x' ≤ d.1.length ∧ U.clashTo d.1 x' = false) ∧ d.1.length - x' < d.1.length - x)) ∧
  (decide ((↑x : Int) < (↑d.1.length : Int)) = false → (false, ()) = (U.clash d.1, ()))

theorem vc57_eq : fnVC (ctx 39 [(95, sp95)] []) (an57) Tryz.f57 (bodyOf Tryz.f57) sp57 = vc57 := by kernel_rfl

def sp28 : Spec := ⟨[.val (.slice tE)], [.int], false, fun _ => [], fun d => (U.chk d.1, ())⟩
def vc28 : Prop :=
  ∀ (d : List ED × Unit),
  ((!U.isB d.1) = true → ((11 : Int), ()) = (U.chk d.1, ())) ∧
  ((!U.isB d.1) = false →
  (∀ (x : ED), x ∈ d.1 → U.okForm (U.fm x) = true) ∧
  (U.clash d.1 = true → ((12 : Int), ()) = (U.chk d.1, ())) ∧ (U.clash d.1 = false → ((0 : Int), ()) = (U.chk d.1, ())))

theorem vc28_eq : fnVC (ctx 8 [(48, sp48), (57, sp57)] []) (fun _ => none) Tryz.f28 (bodyOf Tryz.f28) sp28 = vc28 := by kernel_rfl

def so66 : OSpec := ⟨[.val (.slice tE)], [.cl (.row 44 tE .unk)], fun d => [∀ x ∈ d.1, U.okForm (U.fm x) = true], fun d => ((U.dist d.1, ()), ())⟩
def an66 : Ann := fun r => match r with
  | 3 => some fun σ => { X := Nat, sl := fun n => [(4, .dat .int (n : Int)), (3, .own 3 tE)], ob := fun n => [(3, some (.row 44 tE false .yes (U.distTo (gd (.slice tE) σ 0) n)))], inv := fun n => n ≤ 100, mu := fun n => 100 - n }
  | 6 => some fun σ => { X := Nat, sl := fun i => [(5, .dat .int (i : Int)), (3, .own 3 tE)], ob := fun _ => [(3, some (.row 44 tE false .yes (gr tE σ 3)))], inv := fun i => i ≤ (gd (.slice tE) σ 0).length ∧ ∀ b : Nat, b < i → U.id' (nth (gd (.slice tE) σ 0) b) ≠ gd .int σ 4, mu := fun i => (gd (.slice tE) σ 0).length - i }
  | _ => none
def vc66 : Prop :=
  ∀ (d : List ED × Unit),
  (∀ (x : ED), x ∈ d.1 → U.okForm (U.fm x) = true) →
  (∃ (x : Nat), (((0 : Int) = (↑x : Int) ∧ True ∧ True) ∧ U.distTo d.1 x = [] ∧ True) ∧ x ≤ (100 : Nat)) ∧
  ∀ (x : Nat),
  x ≤ (100 : Nat) →
  (decide ((↑x : Int) ≤ (99 : Int)) = true →
  (∃ (x_3 : Nat), (((0 : Int) = (↑x_3 : Int) ∧ True ∧ True) ∧ U.distTo d.1 x = U.distTo d.1 x ∧ True) ∧ x_3 ≤ d.1.length ∧ ∀ (b : Nat), b < x_3 → U.id' (nth d.1 b) ≠ (↑x : Int)) ∧
  ∀ (x_3 : Nat),
  (x_3 ≤ d.1.length ∧ ∀ (b : Nat), b < x_3 → U.id' (nth d.1 b) ≠ (↑x : Int)) →
  d.1.length < (4611686018427387904 : Nat) →
  (decide ((↑x_3 : Int) < (↑d.1.length : Int)) = true →
  (0 : Int) ≤ (↑x_3 : Int) ∧
  (↑x_3 : Int) < (↑d.1.length : Int) ∧
  (decide ((nth d.1 (↑x_3 : Int).toNat).1 = (↑x : Int)) = true →
  (0 : Int) ≤ (↑x_3 : Int) ∧
  (↑x_3 : Int) < (↑d.1.length : Int) ∧
  U.okForm (nth d.1 (↑x_3 : Int).toNat).2.2.2.1 = true ∧
  ((U.distTo d.1 x).length +
  [((nth d.1 (↑x_3 : Int).toNat).1, (nth d.1 (↑x_3 : Int).toNat).2.1, (nth d.1 (↑x_3 : Int).toNat).2.2.1, U.canR (nth d.1 (↑x_3 : Int).toNat).2.2.2.1,
  (nth d.1 (↑x_3 : Int).toNat).2.2.2.2)].length) *
  (104 : Nat) ≤
  (140737488355328 : Nat) ∧
  In64 ((↑x : Int) + (1 : Int)) ∧
  ∃ (x' : Nat),
  (((↑x : Int) + (1 : Int) = (↑x' : Int) ∧ True ∧ True) ∧
  U.distTo d.1 x ++
  [((nth d.1 (↑x_3 : Int).toNat).1, (nth d.1 (↑x_3 : Int).toNat).2.1, (nth d.1 (↑x_3 : Int).toNat).2.2.1, U.canR (nth d.1 (↑x_3 : Int).toNat).2.2.2.1,
  (nth d.1 (↑x_3 : Int).toNat).2.2.2.2)] =
  U.distTo d.1 x' ∧
  True) ∧
  x' ≤ (100 : Nat) ∧ (100 : Nat) - x' < (100 : Nat) - x) ∧
  (decide ((nth d.1 (↑x_3 : Int).toNat).1 = (↑x : Int)) = false →
  In64 ((↑x_3 : Int) + (1 : Int)) ∧
  ∃ (x' : Nat),
  ((True ∧ (↑x_3 : Int) + (1 : Int) = (↑x' : Int) ∧ True) ∧ U.distTo d.1 x = U.distTo d.1 x ∧ True) ∧
  (x' ≤ d.1.length ∧ ∀ (b : Nat), b < x' → U.id' (nth d.1 b) ≠ (↑x : Int)) ∧ d.1.length - x' < d.1.length - x_3)) ∧
  (decide ((↑x_3 : Int) < (↑d.1.length : Int)) = false →
  In64 ((↑x : Int) + (1 : Int)) ∧ ∃ (x' : Nat), (((↑x : Int) + (1 : Int) = (↑x' : Int) ∧ True ∧ True) ∧ U.distTo d.1 x = U.distTo d.1 x' ∧ True) ∧ x' ≤ (100 : Nat) ∧ (100 : Nat) - x' < (100 : Nat) - x)) ∧
  (decide ((↑x : Int) ≤ (99 : Int)) = false → (U.distTo d.1 x, ()) = (U.dist d.1, ()) ∧ () = ())

theorem vc66_eq : ofnVC (ctx 37 [(78, sp78)] []) (an66) Tryz.f66 (bodyOf Tryz.f66) so66 = vc66 := by kernel_rfl

def sp46 : Spec := ⟨[.val (.slice tE), .val (.slice tE)], [.slice tE, .int], false, fun _ => [], fun d => U.mrgR d.1 d.2.1⟩
def vc46 : Prop :=
  ∀ (d : List ED × List ED × Unit),
  (decide (U.chk d.1 ≠ (0 : Int)) = true → ([], U.chk d.1, ()) = U.mrgR d.1 d.2.1) ∧
  (decide (U.chk d.1 ≠ (0 : Int)) = false →
  (decide (U.chk d.2.1 ≠ (0 : Int)) = true → ([], U.chk d.2.1, ()) = U.mrgR d.1 d.2.1) ∧
  (decide (U.chk d.2.1 ≠ (0 : Int)) = false →
  ((0 : Nat) + d.1.length) * (104 : Nat) ≤ (140737488355328 : Nat) ∧
  (([] ++ d.1).length + d.2.1.length) * (104 : Nat) ≤ (140737488355328 : Nat) ∧
  (∀ (x : ED), x ∈ [] ++ d.1 ++ d.2.1 → U.okForm (U.fm x) = true) ∧
  ((U.dist ([] ++ d.1 ++ d.2.1)).length < (4611686018427387904 : Nat) →
  (decide ((40 : Int) < (↑(U.dist ([] ++ d.1 ++ d.2.1)).length : Int)) = true → ([], (2 : Int), ()) = U.mrgR d.1 d.2.1) ∧
  (decide ((40 : Int) < (↑(U.dist ([] ++ d.1 ++ d.2.1)).length : Int)) = false →
  (∀ (x : ED), x ∈ [] ++ d.1 ++ d.2.1 → U.okForm (U.fm x) = true) ∧
  (U.clash ([] ++ d.1 ++ d.2.1) = true → ([], (12 : Int), ()) = U.mrgR d.1 d.2.1) ∧
  (U.clash ([] ++ d.1 ++ d.2.1) = false →
  (∀ (x : ED), x ∈ [] ++ d.1 ++ d.2.1 → U.okForm (U.fm x) = true) ∧
  (U.dist ([] ++ d.1 ++ d.2.1), (0 : Int), ()) = U.mrgR d.1 d.2.1)))))

theorem vc46_eq : fnVC (ctx 32 [(28, sp28), (57, sp57)] [(66, so66)]) (fun _ => none) Tryz.f46 (bodyOf Tryz.f46) sp46 = vc46 := by kernel_rfl

def sp67 : Spec := ⟨[.val tE, .val tE], [.bool], false, fun d => [U.okForm (U.fm d.1) = true, U.okForm (U.fm d.2.1) = true], fun d => (U.before d.1 d.2.1, ())⟩
def vc67 : Prop :=
  ∀ (d : ED × ED × Unit),
  U.okForm (U.fm d.1) = true →
  U.okForm (U.fm d.2.1) = true →
  U.okForm d.1.2.2.2.1 = true ∧
  U.okForm d.2.1.2.2.2.1 = true ∧
  (decide (U.order d.1.2.2.2.1 d.2.1.2.2.2.1 ≠ (0 : Int)) = true → (decide (U.order d.1.2.2.2.1 d.2.1.2.2.2.1 < (0 : Int)), ()) = (U.before d.1 d.2.1, ())) ∧
  (decide (U.order d.1.2.2.2.1 d.2.1.2.2.2.1 ≠ (0 : Int)) = false →
  (decide (d.1.2.1 ≠ d.2.1.2.1) = true → (decide (d.1.2.1 < d.2.1.2.1), ()) = (U.before d.1 d.2.1, ())) ∧
  (decide (d.1.2.1 ≠ d.2.1.2.1) = false → (decide (d.1.1 < d.2.1.1), ()) = (U.before d.1 d.2.1, ())))

theorem vc67_eq : fnVC (ctx 30 [(79, sp79)] []) (fun _ => none) Tryz.f67 (bodyOf Tryz.f67) sp67 = vc67 := by kernel_rfl

def sp33 : Spec := ⟨[.val (.slice tE)], [.slice .int, .int], false, fun _ => [], fun d => U.ordR d.1⟩
def an33 : Ann := fun r => match r with
  | 6 => some fun σ => { X := List ED × List Int, sl := fun _ => [(5, .own 5 tE), (6, .own 6 .int)], ob := fun x => [(5, some (.row 44 tE false .unk x.1)), (6, some (.row 3 .int false .yes x.2))], inv := fun x => U.inv33 (gd (.slice tE) σ 0) x.1 x.2, mu := fun x => x.1.length }
  | 9 => some fun σ => { X := Nat × Nat, sl := fun x => [(8, .dat .int (x.1 : Int)), (7, .dat .int (x.2 : Int))], ob := fun _ => [], inv := fun x => U.inv33i (gr tE σ 5) x.1 x.2, mu := fun x => (gr tE σ 5).length - x.1 }
  | _ => none
def vc33 : Prop :=
  ∀ (d : List ED × Unit),
  (decide (U.chk d.1 ≠ (0 : Int)) = true → ([], U.chk d.1, ()) = U.ordR d.1) ∧
  (decide (U.chk d.1 ≠ (0 : Int)) = false →
  (∀ (x : ED), x ∈ d.1 → U.okForm (U.fm x) = true) ∧
  (∃ (x : List ED × List Int), ((True ∧ True ∧ True) ∧ U.dist d.1 = x.1 ∧ x.2 = [] ∧ True) ∧ U.inv33 d.1 x.1 x.2) ∧
  ∀ (x : List ED × List Int),
  U.inv33 d.1 x.1 x.2 →
  x.1.length < (4611686018427387904 : Nat) →
  (decide ((0 : Int) < (↑x.1.length : Int)) = true →
  (∃ (x_4 : Nat × Nat), (((0 : Int) = (↑x_4.1 : Int) ∧ (0 : Int) = (↑x_4.2 : Int) ∧ True) ∧ True) ∧ U.inv33i x.1 x_4.1 x_4.2) ∧
  ∀ (x_4 : Nat × Nat),
  U.inv33i x.1 x_4.1 x_4.2 →
  x.1.length < (4611686018427387904 : Nat) →
  (decide ((↑x_4.1 : Int) < (↑x.1.length : Int)) = true →
  (0 : Int) ≤ (↑x_4.1 : Int) ∧
  (↑x_4.1 : Int) < (↑x.1.length : Int) ∧
  (0 : Int) ≤ (↑x_4.2 : Int) ∧
  (↑x_4.2 : Int) < (↑x.1.length : Int) ∧
  U.okForm (U.fm (nth x.1 (↑x_4.1 : Int).toNat)) = true ∧
  U.okForm (U.fm (nth x.1 (↑x_4.2 : Int).toNat)) = true ∧
  (U.before (nth x.1 (↑x_4.1 : Int).toNat) (nth x.1 (↑x_4.2 : Int).toNat) = true →
  In64 ((↑x_4.1 : Int) + (1 : Int)) ∧
  ∃ (x' : Nat × Nat),
  (((↑x_4.1 : Int) + (1 : Int) = (↑x'.1 : Int) ∧ (↑x_4.1 : Int) = (↑x'.2 : Int) ∧ True) ∧ True) ∧ U.inv33i x.1 x'.1 x'.2 ∧ x.1.length - x'.1 < x.1.length - x_4.1) ∧
  (U.before (nth x.1 (↑x_4.1 : Int).toNat) (nth x.1 (↑x_4.2 : Int).toNat) = false →
  In64 ((↑x_4.1 : Int) + (1 : Int)) ∧
  ∃ (x' : Nat × Nat),
  (((↑x_4.2 : Int) = (↑x'.2 : Int) ∧ (↑x_4.1 : Int) + (1 : Int) = (↑x'.1 : Int) ∧ True) ∧ True) ∧ U.inv33i x.1 x'.1 x'.2 ∧ x.1.length - x'.1 < x.1.length - x_4.1)) ∧
  (decide ((↑x_4.1 : Int) < (↑x.1.length : Int)) = false →
  (0 : Int) ≤ (↑x_4.2 : Int) ∧
  (↑x_4.2 : Int) < (↑x.1.length : Int) ∧
  (x.2.length + [(nth x.1 (↑x_4.2 : Int).toNat).1].length) * (8 : Nat) ≤ (140737488355328 : Nat) ∧
  (0 : Int) ≤ (0 : Int) ∧
  (0 : Int) ≤ (↑x_4.2 : Int) ∧
  (↑x_4.2 : Int) ≤ (↑x.1.length : Int) ∧
  ((0 : Nat) + (List.take ((↑x_4.2 : Int).toNat - Int.toNat (0 : Int)) (List.drop (Int.toNat (0 : Int)) x.1)).length) * (104 : Nat) ≤ (140737488355328 : Nat) ∧
  In64 ((↑x_4.2 : Int) + (1 : Int)) ∧
  (0 : Int) ≤ (↑x_4.2 : Int) + (1 : Int) ∧
  (↑x_4.2 : Int) + (1 : Int) ≤ (↑x.1.length : Int) ∧
  (↑x.1.length : Int) ≤ (↑x.1.length : Int) ∧
  (([] ++ List.take ((↑x_4.2 : Int).toNat - Int.toNat (0 : Int)) (List.drop (Int.toNat (0 : Int)) x.1)).length +
  (List.take ((↑x.1.length : Int).toNat - ((↑x_4.2 : Int) + (1 : Int)).toNat) (List.drop ((↑x_4.2 : Int) + (1 : Int)).toNat x.1)).length) *
  (104 : Nat) ≤
  (140737488355328 : Nat) ∧
  ∃ (x' : List ED × List Int),
  ((True ∧ True ∧ True) ∧
  [] ++ List.take ((↑x_4.2 : Int).toNat - Int.toNat (0 : Int)) (List.drop (Int.toNat (0 : Int)) x.1) ++
  List.take ((↑x.1.length : Int).toNat - ((↑x_4.2 : Int) + (1 : Int)).toNat) (List.drop ((↑x_4.2 : Int) + (1 : Int)).toNat x.1) =
  x'.1 ∧
  x.2 ++ [(nth x.1 (↑x_4.2 : Int).toNat).1] = x'.2 ∧ True) ∧
  U.inv33 d.1 x'.1 x'.2 ∧ x'.1.length < x.1.length)) ∧
  (decide ((0 : Int) < (↑x.1.length : Int)) = false → (x.2, (0 : Int), ()) = U.ordR d.1))

theorem vc33_eq : fnVC (ctx 54 [(28, sp28), (67, sp67)] [(66, so66)]) (an33) Tryz.f33 (bodyOf Tryz.f33) sp33 = vc33 := by kernel_rfl


end Go.X
/-
  Signs, the specification: books, Merge, Order.
-/
namespace Go.X
open Go.Proofs

theorem h81 : vc81 := by
  intro d
  congr 1
  unfold U.okE U.within U.id' U.sg U.rg U.lo U.hi U.ag U.fm
  rw [Bool.eq_iff_iff]
  simp only [Bool.and_eq_true, decide_eq_true_eq]
  constructor
  · rintro ⟨⟨⟨⟨⟨⟨h1, h2⟩, h3⟩, h4⟩, h5⟩, h6⟩, h7⟩; exact ⟨⟨h1.1, h1.2, h2.1, h2.2, h4.1, h4.2, h5, h6, h7⟩, h3⟩
  · rintro ⟨⟨h1, h2, h3, h4, h5, h6, h7, h8, h9⟩, h10⟩; exact ⟨⟨⟨⟨⟨⟨⟨h1, h2⟩, h3, h4⟩, h10⟩, h5, h6⟩, h7⟩, h8⟩, h9⟩
theorem ok81 : FnOK PR 81 sp81 := mkFn (vc81_eq.mpr h81) Tryz.func81 (by kernel_rfl) (by kernel_rfl) (by kernel_rfl) (by kernel_rfl) ⟨fun _ => ok43, fun _ => ok55, trivial⟩ trivial
theorem h48 : vc48 := by
  rintro ⟨l, ⟨⟩⟩
  refine ⟨⟨0, ⟨⟨rfl, trivial⟩, trivial⟩, Nat.zero_le _, by simp⟩, fun i hi hl => ⟨fun h => ?_, fun h _ => ?_⟩⟩
  · have h : i < l.length := by simpa using h
    simp only [Int.toNat_natCast]
    refine ⟨by omega, by omega, fun hb => ?_, fun hb => ⟨L.in64 (by omega) (by omega), i + 1, ⟨⟨by simp, trivial⟩, trivial⟩, ⟨by omega, L.all_take h hi.2 (by simpa using hb)⟩, by omega⟩⟩
    have hb : U.okE (nth l i) = false := by simpa using hb
    congr 1
    unfold U.isB
    rw [L.all_false h hb, Bool.and_false]
  · have h : l.length ≤ i := by simpa using h
    congr 1
    unfold U.isB
    rw [L.all_of_take h hi.2, Bool.and_true, Bool.eq_iff_iff]
    simp only [decide_eq_true_eq]
    show (l.length : Int) ≤ 40 ↔ l.length ≤ 40
    omega
theorem ok48 : FnOK PR 48 sp48 := mkFn (vc48_eq.mpr h48) Tryz.func48 (by kernel_rfl) (by kernel_rfl) (by kernel_rfl) (by kernel_rfl) ⟨fun _ => ok81, trivial⟩ trivial
theorem h95 : vc95 := by
  intro d h1 h2
  refine ⟨fun _ => h1, fun _ => h2, fun _ => canR_ok h1, fun _ => canR_ok h2, ?_⟩
  congr 1
  unfold U.alikeR U.id' U.sg U.rg U.ag U.fm
  rw [Bool.eq_iff_iff]
  simp only [Bool.and_eq_true, decide_eq_true_eq, and_assoc]
theorem ok95 : FnOK PR 95 sp95 := mkFn (vc95_eq.mpr h95) Tryz.func95 (by kernel_rfl) (by kernel_rfl) (by kernel_rfl) (by kernel_rfl) ⟨fun _ => ok78, fun _ => ok79, trivial⟩ trivial

theorem clashTo_succ (l : List ED) (n : Nat) : U.clashTo l (n + 1) = (U.clashTo l n || U.clashAt l n) := by
  unfold U.clashTo
  rw [List.range_succ, List.any_append]
  simp
theorem clashTo_mono {l : List ED} {n i : Nat} (h : i < n) (hc : U.clashAt l i = true) : U.clashTo l n = true := by
  unfold U.clashTo
  rw [List.any_eq_true]
  exact ⟨i, List.mem_range.2 h, hc⟩
theorem h57 : vc57 := by
  rintro ⟨l, ⟨⟩⟩ hok
  have hok : ∀ x, x ∈ l → U.okForm (U.fm x) = true := hok
  refine ⟨⟨0, ⟨⟨rfl, trivial⟩, trivial⟩, Nat.zero_le _, rfl⟩, fun i hi hl => ⟨fun h => ⟨⟨0, ⟨⟨rfl, trivial⟩, trivial⟩, Nat.zero_le _, by simp⟩, fun k hk => ⟨fun h2 => ?_, fun h2 => ?_⟩⟩, fun h => ?_⟩⟩
  · have h : i < l.length := by simpa using h
    obtain ⟨k1, k2⟩ := hk
    simp only [Int.toNat_natCast] at *
    have h2 : k < i := by simpa using h2
    have m1 := hok _ (L.mem_nth h)
    have m2 := hok _ (L.mem_nth (by omega : k < l.length))
    refine ⟨by omega, by omega, by omega, by omega, fun _ => by omega, fun _ => by omega, fun _ => by omega, fun _ => by omega, fun _ => m1, fun _ => m2, fun hc => ?_, fun hc => ⟨L.in64 (by omega) (by omega), k + 1, ⟨⟨by simp, trivial⟩, trivial⟩, ⟨h2, ?_⟩, by omega⟩⟩
    · have hc : U.clsh (nth l i) (nth l k) = true := hc
      congr 1
      unfold U.clash
      refine (clashTo_mono h ?_).symm
      unfold U.clashAt
      rw [List.any_eq_true]
      refine ⟨nth l k, ?_, hc⟩
      have : nth (l.take i) k ∈ l.take i := L.mem_nth (by rw [List.length_take]; omega)
      have e : nth (l.take i) k = nth l k := by
        unfold nth
        rw [List.getD_eq_getElem?_getD, List.getD_eq_getElem?_getD, List.getElem?_take_of_lt h2]
      rw [← e]; exact this
    · have hc : U.clsh (nth l i) (nth l k) = false := hc
      rw [L.take_succ (by omega : k < l.length), List.any_append, k2]
      simp [hc]
  · have h : i < l.length := by simpa using h
    obtain ⟨k1, k2⟩ := hk
    simp only [Int.toNat_natCast] at *
    have h2 : i ≤ k := by simpa using h2
    have e : k = i := by omega
    subst e
    refine ⟨L.in64 (by omega) (by omega), k + 1, ⟨⟨by simp, trivial⟩, trivial⟩, ⟨h, ?_⟩, by omega⟩
    rw [clashTo_succ, hi.2]
    exact k2
  · have h : l.length ≤ i := by simpa using h
    have hi1 : i ≤ l.length := hi.1
    have e : i = l.length := by omega
    subst e
    exact congrArg (·, ()) hi.2.symm
theorem ok57 : FnOK PR 57 sp57 := mkFn (vc57_eq.mpr h57) Tryz.func57 (by kernel_rfl) (by kernel_rfl) (by kernel_rfl) (by kernel_rfl) ⟨fun _ => ok95, trivial⟩ trivial

theorem isB_all {l : List ED} (h : U.isB l = true) : l.length ≤ 40 ∧ ∀ x, x ∈ l → U.okE x = true := by
  unfold U.isB at h
  simp only [Bool.and_eq_true, decide_eq_true_eq] at h
  exact ⟨h.1, List.all_eq_true.1 h.2⟩
theorem h28 : vc28 := by
  intro d
  unfold U.chk
  refine ⟨fun h => by rw [if_pos (by simpa using h)], fun h => ?_⟩
  have h : U.isB d.1 = true := by simpa using h
  refine ⟨fun x hx => okE_form ((isB_all h).2 x hx), fun h2 => ?_, fun h2 => ?_⟩
  · rw [if_neg (by rw [h]; simp), if_pos h2]
  · rw [if_neg (by rw [h]; simp), if_neg (by rw [h2]; simp)]
theorem ok28 : FnOK PR 28 sp28 := mkFn (vc28_eq.mpr h28) Tryz.func28 (by kernel_rfl) (by kernel_rfl) (by kernel_rfl) (by kernel_rfl) ⟨fun _ => ok48, fun _ => ok57, trivial⟩ trivial
theorem chk_zero {l : List ED} (h : U.chk l = 0) : U.isB l = true ∧ U.clash l = false := by
  unfold U.chk at h
  split at h
  · cases h
  · rename_i h1
    split at h
    · cases h
    · rename_i h2
      exact ⟨by simpa using h1, by simpa using h2⟩
theorem chk_form {l : List ED} (h : U.chk l = 0) : l.length ≤ 40 ∧ ∀ x, x ∈ l → U.okForm (U.fm x) = true := by
  obtain ⟨h1, h2⟩ := isB_all (chk_zero h).1
  exact ⟨h1, fun x hx => okE_form (h2 x hx)⟩

/-! ### distinct -/

theorem distTo_succ (l : List ED) (n : Nat) : U.distTo l (n + 1) = U.distTo l n ++ U.firstOf l n := by
  unfold U.distTo
  rw [List.range_succ, List.flatMap_append]
  simp
theorem firstOf_mem {l : List ED} {n : Nat} {y : ED} (h : y ∈ U.firstOf l n) : ∃ x, x ∈ l ∧ U.id' x = (n : Int) ∧ y = U.canRE x := by
  unfold U.firstOf at h
  split at h
  · rename_i x hx
    simp at h
    have h1 := List.find?_some hx
    exact ⟨x, List.mem_of_find?_eq_some hx, of_decide_eq_true h1, h⟩
  · simp at h
theorem firstOf_len (l : List ED) (n : Nat) : (U.firstOf l n).length ≤ 1 := by
  unfold U.firstOf
  split <;> simp
theorem distTo_len (l : List ED) : ∀ n, (U.distTo l n).length ≤ n
  | 0 => by simp [U.distTo]
  | n + 1 => by
    have h1 := distTo_len l n
    have h2 := firstOf_len l n
    rw [distTo_succ, List.length_append]; omega
theorem distTo_mem {l : List ED} {y : ED} : ∀ {n : Nat}, y ∈ U.distTo l n → ∃ k x, k < n ∧ x ∈ l ∧ U.id' x = (k : Int) ∧ y = U.canRE x
  | 0, h => by simp [U.distTo] at h
  | n + 1, h => by
    rw [distTo_succ] at h
    rcases List.mem_append.1 h with h | h
    · obtain ⟨k, x, h1, h2⟩ := distTo_mem h
      exact ⟨k, x, by omega, h2⟩
    · obtain ⟨x, h1, h2, h3⟩ := firstOf_mem h
      exact ⟨n, x, by omega, h1, h2, h3⟩
theorem distTo_asc (l : List ED) : ∀ n, ((U.distTo l n).map U.id').Pairwise (· < ·)
  | 0 => by simp [U.distTo]
  | n + 1 => by
    rw [distTo_succ, List.map_append, List.pairwise_append]
    refine ⟨distTo_asc l n, ?_, fun a ha b hb => ?_⟩
    · have := firstOf_len l n
      match e : U.firstOf l n, this with
      | [], _ => simp
      | [x], _ => simp
      | x :: y :: r, h => simp at h
    · obtain ⟨y, hy, rfl⟩ := List.mem_map.1 ha
      obtain ⟨z, hz, rfl⟩ := List.mem_map.1 hb
      obtain ⟨k, x, h1, h2, h3, rfl⟩ := distTo_mem hy
      obtain ⟨w, h4, h5, rfl⟩ := firstOf_mem hz
      show U.id' x < U.id' w
      omega
theorem dist_nodup (l : List ED) : ((U.dist l).map U.id').Nodup := (distTo_asc l 100).imp (fun h => by omega)
theorem dist_len (l : List ED) : (U.dist l).length ≤ 100 := distTo_len l 100
theorem dist_form {l : List ED} (h : ∀ x, x ∈ l → U.okForm (U.fm x) = true) : ∀ x, x ∈ U.dist l → U.okForm (U.fm x) = true := by
  intro y hy
  obtain ⟨k, x, h1, h2, h3, rfl⟩ := distTo_mem hy
  exact canR_ok (h x h2)
theorem find_first {α : Type} [Inhabited α] {p : α → Bool} : ∀ {l : List α} {i : Nat}, i < l.length → (∀ b : Nat, b < i → p (nth l b) = false) → p (nth l i) = true → l.find? p = some (nth l i)
  | [], i, h, _, _ => by simp at h
  | x :: r, 0, _, _, h => by
    have h : p x = true := h
    simp only [List.find?, h]; rfl
  | x :: r, i + 1, h, h1, h2 => by
    have h0 : p x = false := h1 0 (by omega)
    simp only [List.find?, h0]
    exact find_first (by simpa using h) (fun b hb => h1 (b + 1) (by omega)) h2
theorem find_none {α : Type} [Inhabited α] {p : α → Bool} {l : List α} (h : ∀ b : Nat, b < l.length → p (nth l b) = false) : l.find? p = none := by
  rw [List.find?_eq_none]
  intro x hx
  obtain ⟨i, hi, rfl⟩ := List.mem_iff_getElem.1 hx
  have := h i hi
  rw [L.nth_lt hi] at this
  simp [this]

theorem h66 : vc66 := by
  rintro ⟨l, ⟨⟩⟩ hok
  have hok : ∀ x, x ∈ l → U.okForm (U.fm x) = true := hok
  refine ⟨⟨0, ⟨⟨rfl, trivial, trivial⟩, rfl, trivial⟩, by omega⟩, fun n hn => ⟨fun h => ⟨⟨0, ⟨⟨rfl, trivial, trivial⟩, rfl, trivial⟩, Nat.zero_le _, fun b hb => by omega⟩, fun i hi hl => ⟨fun h2 => ?_, fun h2 => ?_⟩⟩, fun h => ?_⟩⟩
  · have h : (n : Int) ≤ 99 := of_decide_eq_true h
    have h2 : i < l.length := by simpa using h2
    obtain ⟨i1, i2⟩ := hi
    simp only [Int.toNat_natCast] at *
    have hlen := distTo_len l n
    refine ⟨by omega, by omega, fun h3 => ⟨by omega, by omega, hok _ (L.mem_nth h2), ?_, L.in64 (by omega) (by omega), n + 1, ⟨⟨by simp, trivial, trivial⟩, ?_, trivial⟩, by omega, by omega⟩, fun h3 => ⟨L.in64 (by omega) (by omega), i + 1, ⟨⟨trivial, by simp, trivial⟩, trivial, trivial⟩, ⟨h2, fun b hb => ?_⟩, by omega⟩⟩
    · simp only [List.length_cons, List.length_nil]; omega
    · rw [distTo_succ]
      congr 1
      unfold U.firstOf
      rw [find_first h2 (fun b hb => decide_eq_false (i2 b hb)) h3]
      rfl
    · by_cases e : b = i
      · subst e; exact of_decide_eq_false h3
      · exact i2 b (by omega)
  · have h : (n : Int) ≤ 99 := of_decide_eq_true h
    have h2 : l.length ≤ i := by simpa using h2
    obtain ⟨i1, i2⟩ := hi
    refine ⟨L.in64 (by omega) (by omega), n + 1, ⟨⟨by simp, trivial, trivial⟩, ?_, trivial⟩, by omega, by omega⟩
    have e : l.find? (fun x => decide (U.id' x = (n : Int))) = none := find_none (fun b hb => decide_eq_false (i2 b (by omega)))
    rw [distTo_succ]
    unfold U.firstOf
    rw [e]
    simp
  · have h : ¬ (n : Int) ≤ 99 := of_decide_eq_false h
    have e : n = 100 := by omega
    subst e
    exact ⟨rfl, rfl⟩
theorem ok66 : OFnOK PR 66 so66 := mkFnO (vc66_eq.mpr h66) Tryz.func66 (by kernel_rfl) (by kernel_rfl) (by kernel_rfl) (by kernel_rfl) (by kernel_rfl) ⟨fun _ => ok78, trivial⟩ trivial

theorem h46 : vc46 := by
  intro d
  unfold U.mrgR
  refine ⟨fun h => by rw [if_pos (of_decide_eq_true h)], fun h => ⟨fun h2 => by rw [if_neg (of_decide_eq_false h), if_pos (of_decide_eq_true h2)], fun h2 => ?_⟩⟩
  have n1 := of_decide_eq_false h
  have n2 := of_decide_eq_false h2
  have z1 : U.chk d.1 = 0 := Classical.not_not.1 n1
  have z2 : U.chk d.2.1 = 0 := Classical.not_not.1 n2
  obtain ⟨l1, f1⟩ := chk_form z1
  obtain ⟨l2, f2⟩ := chk_form z2
  rw [if_neg n1, if_neg n2]
  simp only [List.nil_append]
  have hf : ∀ x, x ∈ d.1 ++ d.2.1 → U.okForm (U.fm x) = true := fun x hx => by
    rcases List.mem_append.1 hx with hx | hx
    · exact f1 x hx
    · exact f2 x hx
  refine ⟨by omega, by omega, hf, fun _ => ⟨fun h3 => ?_, fun h3 => ⟨hf, fun h4 => ?_, fun h4 => ⟨hf, ?_⟩⟩⟩⟩
  · have h3 : (40 : Int) < ((U.dist (d.1 ++ d.2.1)).length : Int) := of_decide_eq_true h3
    rw [if_pos (by omega)]
  · have h3 : ¬ (40 : Int) < ((U.dist (d.1 ++ d.2.1)).length : Int) := of_decide_eq_false h3
    rw [if_neg (by omega), if_pos h4]
  · have h3 : ¬ (40 : Int) < ((U.dist (d.1 ++ d.2.1)).length : Int) := of_decide_eq_false h3
    rw [if_neg (by omega), if_neg (by rw [h4]; simp)]
theorem ok46 : FnOK PR 46 sp46 := mkFn (vc46_eq.mpr h46) Tryz.func46 (by kernel_rfl) (by kernel_rfl) (by kernel_rfl) (by kernel_rfl) ⟨fun _ => ok28, fun _ => ok57, trivial⟩ ⟨ok66, trivial⟩

theorem h67 : vc67 := by
  intro d h1 h2
  have hx : U.cmpE d.1 d.2.1 = if U.order (U.fm d.1) (U.fm d.2.1) ≠ 0 then U.order (U.fm d.1) (U.fm d.2.1) else if U.cmp (U.sg d.1) (U.sg d.2.1) ≠ 0 then U.cmp (U.sg d.1) (U.sg d.2.1) else U.cmp (U.id' d.1) (U.id' d.2.1) := cmpE_lex _ _
  refine ⟨h1, h2, fun h => ?_, fun h => ⟨fun h3 => ?_, fun h3 => ?_⟩⟩
  · congr 1
    unfold U.before
    have n : U.order (U.fm d.1) (U.fm d.2.1) ≠ 0 := of_decide_eq_true h
    rw [hx, if_pos n]
    rfl
  · congr 1
    unfold U.before
    have h3 : U.sg d.1 ≠ U.sg d.2.1 := of_decide_eq_true h3
    have n : ¬ U.order (U.fm d.1) (U.fm d.2.1) ≠ 0 := of_decide_eq_false h
    rw [hx, if_neg n, if_pos (fun e => h3 (cmp_zero.1 e)), Bool.eq_iff_iff]
    simp only [decide_eq_true_eq]
    exact cmp_neg.symm
  · congr 1
    unfold U.before
    have h3 : U.sg d.1 = U.sg d.2.1 := Classical.not_not.1 (of_decide_eq_false h3)
    have n : ¬ U.order (U.fm d.1) (U.fm d.2.1) ≠ 0 := of_decide_eq_false h
    rw [hx, if_neg n, if_neg (fun hn => hn (cmp_zero.2 h3)), Bool.eq_iff_iff]
    simp only [decide_eq_true_eq]
    exact cmp_neg.symm
theorem ok67 : FnOK PR 67 sp67 := mkFn (vc67_eq.mpr h67) Tryz.func67 (by kernel_rfl) (by kernel_rfl) (by kernel_rfl) (by kernel_rfl) ⟨fun _ => ok79, trivial⟩ trivial

theorem nodup_inj {α β : Type} {f : α → β} : ∀ {l : List α}, (l.map f).Nodup → ∀ {x y : α}, x ∈ l → y ∈ l → f x = f y → x = y
  | [], _, _, _, h, _, _ => by simp at h
  | a :: r, hn, x, y, hx, hy, e => by
    simp only [List.map_cons, List.nodup_cons] at hn
    rcases List.mem_cons.1 hx with rfl | hx'
    · rcases List.mem_cons.1 hy with rfl | hy'
      · rfl
      · exact absurd (List.mem_map.2 ⟨y, hy', e.symm⟩) hn.1
    · rcases List.mem_cons.1 hy with rfl | hy'
      · exact absurd (List.mem_map.2 ⟨x, hx', e⟩) hn.1
      · exact nodup_inj hn.2 hx' hy' e
theorem ordE_nodup {l : List ED} (h : (l.map U.id').Nodup) : OrdOn (U.lessF tE fun x => (U.cmpE x.1 x.2.1, ())) l :=
  ordOn_cmp cmpE_ok (fun _ _ hx hy h0 => nodup_inj h hx hy (cmpE_zero h0))
theorem srtE_min {d : List ED} {f : Nat} (hd : (d.map U.id').Nodup) (hf : f < d.length) (hmin : ∀ b : Nat, b < d.length → U.before (nth d b) (nth d f) = false) : U.srtE d = nth d f :: U.srtE (d.take f ++ d.drop (f + 1)) := by
  have hperm : (nth d f :: (d.take f ++ d.drop (f + 1))).Perm d := by
    have e : d = d.take f ++ nth d f :: d.drop (f + 1) := by rw [← drop_nth hf, List.take_append_drop]
    conv => rhs; rw [e]
    exact List.perm_middle.symm
  have ho := ordE_nodup hd
  have ho2 := (ho.perm hperm).sub (fun z hz => List.mem_cons_of_mem (nth d f) hz)
  refine (sortBy_eq ho ((List.Perm.cons _ (sortBy_perm _)).trans hperm) (List.pairwise_cons.2 ⟨fun z hz => ?_, sortBy_asc ho2⟩)).symm
  have hz : z ∈ d := hperm.mem_iff.1 (List.mem_cons_of_mem _ ((sortBy_perm _).mem_iff.1 hz))
  obtain ⟨b, hb, rfl⟩ := List.mem_iff_getElem.1 hz
  have := hmin b hb
  rw [L.nth_lt hb] at this
  exact this

theorem h33 : vc33 := by
  intro d
  refine ⟨fun h => by unfold U.ordR; rw [if_pos (of_decide_eq_true h)], fun h => ?_⟩
  have n1 := of_decide_eq_false h
  obtain ⟨l1, f1⟩ := chk_form (Classical.not_not.1 n1)
  refine ⟨f1, ⟨(U.dist d.1, []), ⟨⟨trivial, trivial, trivial⟩, rfl, rfl, trivial⟩, rfl, dist_nodup _, dist_form f1, dist_len _, by simp⟩, fun x hx hl => ⟨fun h2 => ⟨⟨(0, 0), ⟨⟨rfl, rfl, trivial⟩, trivial⟩, Nat.zero_le _, ?_, fun b hb => by omega⟩, fun y hy hl2 => ⟨fun h3 => ?_, fun h3 => ?_⟩⟩, fun h2 => ?_⟩⟩
  · have h2 : (0 : Int) < (x.1.length : Int) := of_decide_eq_true h2
    show 0 < x.1.length
    omega
  · have h3 : y.1 < x.1.length := by simpa using h3
    obtain ⟨i1, i2, i3⟩ := hy
    obtain ⟨x1, x2, x3, x4, x5⟩ := hx
    simp only [Int.toNat_natCast]
    refine ⟨by omega, by omega, by omega, by omega, x3 _ (L.mem_nth h3), x3 _ (L.mem_nth i2), fun hb => ⟨L.in64 (by omega) (by omega), (y.1 + 1, y.1), ⟨⟨by simp, rfl, trivial⟩, trivial⟩, ⟨h3, h3, fun b hb2 => ?_⟩, by show _ - (y.1 + 1) < _; omega⟩, fun hb => ⟨L.in64 (by omega) (by omega), (y.1 + 1, y.2), ⟨⟨rfl, by simp, trivial⟩, trivial⟩, ⟨h3, i2, fun b hb2 => ?_⟩, by show _ - (y.1 + 1) < _; omega⟩⟩
    · have hb : U.cmpE (nth x.1 y.1) (nth x.1 y.2) < 0 := of_decide_eq_true hb
      refine decide_eq_false ?_
      show ¬ U.cmpE (nth x.1 b) (nth x.1 y.1) < 0
      by_cases e : b = y.1
      · rw [e]
        have := cmpE_ok.refl (nth x.1 y.1)
        omega
      · have hb2 : b < y.1 + 1 := hb2
        have h4 : ¬ U.cmpE (nth x.1 b) (nth x.1 y.2) < 0 := of_decide_eq_false (i3 b (by omega))
        intro h5
        exact h4 (cmpE_ok.lt_le h5 (by omega))
    · have hb2 : b < y.1 + 1 := hb2
      by_cases e : b = y.1
      · rw [e]; exact hb
      · exact i3 b (by omega)
  · have h3 : x.1.length ≤ y.1 := by simpa using h3
    obtain ⟨i1, i2, i3⟩ := hy
    obtain ⟨x1, x2, x3, x4, x5⟩ := hx
    have e1 : ((y.2 : Int) + 1).toNat = y.2 + 1 := by omega
    rw [e1]
    simp only [Int.toNat_natCast, Int.toNat_zero, List.drop_zero, Nat.sub_zero, List.nil_append, List.length_cons, List.length_nil]
    have ed : (x.1.drop (y.2 + 1)).take (x.1.length - (y.2 + 1)) = x.1.drop (y.2 + 1) := List.take_of_length_le (by rw [List.length_drop]; omega)
    rw [ed]
    have lt1 : (x.1.take y.2).length ≤ 100 := by rw [List.length_take]; omega
    have lt2 : (x.1.drop (y.2 + 1)).length ≤ 100 := by rw [List.length_drop]; omega
    have hmin := srtE_min x2 i2 (fun b hb => i3 b (by omega))
    have hsub : (x.1.take y.2 ++ x.1.drop (y.2 + 1)).Sublist x.1 := by
      conv => rhs; rw [← List.take_append_drop y.2 x.1]
      exact List.Sublist.append (List.Sublist.refl _) (by rw [drop_nth i2]; exact List.sublist_cons_self _ _)
    have hlen : (x.1.take y.2 ++ x.1.drop (y.2 + 1)).length + 1 = x.1.length := by
      rw [List.length_append, List.length_take, List.length_drop]; omega
    have hout : x.2.length + 1 ≤ 100 := by
      have hL := congrArg List.length x1
      rw [List.length_append, List.length_map, List.length_map] at hL
      have k1 : (U.srtE x.1).length = x.1.length := (srtE_perm x.1).length_eq
      have k2 : (U.srtE (U.dist d.1)).length = (U.dist d.1).length := (srtE_perm _).length_eq
      have k3 := dist_len d.1
      omega
    refine ⟨by omega, by omega, by omega, Int.le_refl _, by omega, by omega, by omega, by unfold In64; omega, by omega, by omega, Int.le_refl _, by omega, (x.1.take y.2 ++ x.1.drop (y.2 + 1), x.2 ++ [(nth x.1 y.2).1]), ⟨⟨trivial, trivial, trivial⟩, rfl, rfl, trivial⟩, ⟨?_, x2.sublist (hsub.map _), fun z hz => x3 z (hsub.subset hz), by show (x.1.take y.2 ++ x.1.drop (y.2 + 1)).length ≤ 100; omega, by rw [List.length_append]; simpa using hout⟩, by show (x.1.take y.2 ++ x.1.drop (y.2 + 1)).length < _; omega⟩
    show (x.2 ++ [U.id' (nth x.1 y.2)]) ++ (U.srtE (x.1.take y.2 ++ x.1.drop (y.2 + 1))).map U.id' = _
    rw [← x1, hmin, List.append_assoc]
    rfl
  · have h2 : ¬ (0 : Int) < (x.1.length : Int) := of_decide_eq_false h2
    obtain ⟨x1, x2, x3, x4, x5⟩ := hx
    have e : x.1 = [] := List.eq_nil_of_length_eq_zero (by omega)
    unfold U.ordR
    rw [if_neg n1, ← x1, e]
    have : (U.srtE []).map U.id' = [] := rfl
    rw [this, List.append_nil]
theorem ok33 : FnOK PR 33 sp33 := mkFn (vc33_eq.mpr h33) Tryz.func33 (by kernel_rfl) (by kernel_rfl) (by kernel_rfl) (by kernel_rfl) ⟨fun _ => ok28, fun _ => ok67, trivial⟩ ⟨ok66, trivial⟩

end Go.X
/-
  Signs, the specification: Find, Ask, Twins, copies: what is asked.
-/
namespace Go.X
open Go.Proofs

namespace U
def has (s n : Int) : Bool := decide (0 ≤ n ∧ n < 60) && bit s n
def fits : List Int → List Int → Int → Bool
  | [], sets, _ => decide ((sets.length : Int) = 0)
  | m :: r, sets, lost => (decide (0 < (sets.length : Int)) && has (nth sets 0) m && fits r (sets.drop 1) lost) || (decide (0 < lost) && fits r sets (lost - 1))
def shownR (f : FmD) (s : SnD) : Bool := has (rights s) (rt f + 1) && has (lefts s) (lf f + 1) && has (faces s) (fc f) && within (co f) (lo (cols s)) (hi (cols s)) && within (rw' f) (lo (rows s)) (hi (rows s)) && fits (mv f) (mvs s) (lost s)
def agreesR (x : ED) (s : SnD) : Bool := decide (band (rg x) (rgs s) ≠ 0) && decide (max (lo (ag x)) (lo (ages s)) ≤ min (hi (ag x)) (hi (ages s))) && (shownR (fm x) s || shownR (mir (fm x)) s)
def hit (s : SnD) (n : Int) (x : ED) : Bool := decide (sg x = n) && agreesR x s
def findTo (l : List ED) (s : SnD) (n : Nat) : List Int := ((List.range n).filter (fun (k : Nat) => l.any (hit s (k : Int)))).map (fun (k : Nat) => (k : Int))
def findR (l : List ED) (s : SnD) : List Int := findTo l s 1000
def lookR (l : List ED) (s : SnD) : Int := if chk l ≠ 0 then chk l else if okS s = false then 13 else 0
def fndR (l : List ED) (s : SnD) : List Int × Int × Unit := if lookR l s ≠ 0 then ([], lookR l s, ()) else (findR l s, 0, ())
def ansAt (s : SnD) (p n : Int) : List SnD :=
  if p = 0 then (if has (rights s) n = true then [setRt s (2 ^ (max 0 n).toNat)] else [])
  else if p = 1 then (if has (lefts s) n = true then [setLf s (2 ^ (max 0 n).toNat)] else [])
  else if p = 2 then (if within n (max 0 (lo (rows s))) (min 5 (hi (rows s))) = true then [setRw s (n, n, ())] else [])
  else if p = 3 then (if within n (lo (cols s)) (min 3 (hi (cols s))) = true then [setCo s (n, n, ())] else [])
  else if p = 4 then (if has (faces s) n = true then [setFc s (2 ^ (max 0 n).toNat)] else []) else []
def ansTo (s : SnD) (p : Int) (k : Nat) : List SnD := (List.range k).flatMap (fun (i : Nat) => ansAt s p ((i : Int) - 3))
def answersR (s : SnD) (p : Int) : List SnD := ansTo s p 36
def numsR (l : List ED) (o : List SnD) : List Int := o.map (fun x => ((findR l x).length : Int))
def mostR (l : List ED) (s : SnD) (p : Int) : Int := topOf (numsR l (answersR s p))
def bestR (l : List ED) (s : SnD) : Nat → Int × Int
  | 0 => (-1, 0)
  | p + 1 => if (decide ((bestR l s p).1 < 0) || decide (mostR l s (p : Int) < (bestR l s p).2)) = true then ((p : Int), mostR l s (p : Int)) else bestR l s p
def askR (l : List ED) (s : SnD) : Int × Int × Int × Unit := if lookR l s ≠ 0 then (0, 0, lookR l s, ()) else if findR l s = [] then (0, 0, 3, ()) else ((bestR l s 5).1, (bestR l s 5).2, 0, ())
def twinR (a b : ED) : Bool := decide (order (canR (fm a)) (canR (fm b)) = 0) && decide (band (rg a) (rg b) ≠ 0) && decide (max (lo (ag a)) (lo (ag b)) ≤ min (hi (ag a)) (hi (ag b)))
def isSg (n : Int) (x : ED) : Bool := decide (sg x = n)
def signsTo (l : List ED) (n : Nat) : List Int := ((List.range n).filter (fun (k : Nat) => l.any (isSg (k : Int)))).map (fun (k : Nat) => (k : Int))
def signsR (l : List ED) : List Int := signsTo l 1000
def tw (a b : Int) (x y : ED) : Bool := decide (sg x = a) && decide (sg y = b) && twinR x y
def twRow (l : List ED) (a b : Int) (x : ED) : Bool := l.any (tw a b x)
def twTo (l : List ED) (a b : Int) (m : Nat) : Bool := (l.take m).any (twRow l a b)
def rowTo (l : List ED) (all : List Int) (i k : Nat) : List PaD := ((List.range k).filter (fun (j : Nat) => decide (i < j) && twTo l (nth all i) (nth all j) l.length)).map (fun (j : Nat) => (nth all i, nth all j, ()))
def rowsTo (l : List ED) (all : List Int) (i : Nat) : List PaD := (List.range i).flatMap (fun (j : Nat) => rowTo l all j all.length)
def twnR (l : List ED) : List PaD × Int × Unit := if chk l ≠ 0 then ([], chk l, ()) else (rowsTo l (signsR l) (signsR l).length, 0, ())
end U

def sp58 : Spec := ⟨[.val .int, .val .int], [.bool], false, fun _ => [], fun d => (U.has d.1 d.2.1, ())⟩
def vc58 : Prop :=
  ∀ (d : Int × Int × Unit),
  ((decide ((0 : Int) ≤ d.2.1) && decide (d.2.1 < (60 : Int))) = true → (0 : Int) ≤ d.2.1) ∧
  ((decide ((0 : Int) ≤ d.2.1) && decide (d.2.1 < (60 : Int))) = true → d.2.1 ≤ (18446744073709551615 : Int)) ∧
  ((decide ((0 : Int) ≤ d.2.1) && decide (d.2.1 < (60 : Int))) = true → (0 : Int) ≤ d.2.1) ∧
  ((decide ((0 : Int) ≤ d.2.1) && decide (d.2.1 < (60 : Int))) = true → d.2.1 ≤ (64 : Int)) ∧
  (decide ((0 : Int) ≤ d.2.1) && decide (d.2.1 < (60 : Int)) && decide (band (d.1 / (2 : Int) ^ d.2.1.toNat) (1 : Int) = (1 : Int)), ()) = (U.has d.1 d.2.1, ())

theorem vc58_eq : fnVC (ctx 19 [] []) (fun _ => none) Tryz.f58 (bodyOf Tryz.f58) sp58 = vc58 := by kernel_rfl

def sp94 (n : Nat) : Spec := ⟨[.val (.slice .int), .val (.slice .int), .val .int], [.bool], false, fun d => [d.1.length < n, d.2.2.1 ≤ 1000], fun d => (U.fits d.1 d.2.1 d.2.2.1, ())⟩
def vc94 : Prop :=
  ∀ (n : Nat) (d : List Int × List Int × Int × Unit),
  d.1.length < n + (1 : Nat) →
  d.2.2.1 ≤ (1000 : Int) →
  d.1.length < (4611686018427387904 : Nat) →
  (decide ((↑d.1.length : Int) = (0 : Int)) = true → d.2.1.length < (4611686018427387904 : Nat) → (decide ((↑d.2.1.length : Int) = (0 : Int)), ()) = (U.fits d.1 d.2.1 d.2.2.1, ())) ∧
  (decide ((↑d.1.length : Int) = (0 : Int)) = false →
  (decide ((0 : Int) < (↑d.2.1.length : Int)) = true → (0 : Int) ≤ (0 : Int)) ∧
  (decide ((0 : Int) < (↑d.2.1.length : Int)) = true → (0 : Int) < (↑d.2.1.length : Int)) ∧
  (decide ((0 : Int) < (↑d.2.1.length : Int)) = true → (0 : Int) ≤ (0 : Int)) ∧
  (decide ((0 : Int) < (↑d.2.1.length : Int)) = true → (0 : Int) < (↑d.1.length : Int)) ∧
  ((decide ((0 : Int) < (↑d.2.1.length : Int)) && U.has (nth d.2.1 (Int.toNat (0 : Int))) (nth d.1 (Int.toNat (0 : Int)))) = true → (0 : Int) ≤ (1 : Int)) ∧
  ((decide ((0 : Int) < (↑d.2.1.length : Int)) && U.has (nth d.2.1 (Int.toNat (0 : Int))) (nth d.1 (Int.toNat (0 : Int)))) = true → (1 : Int) ≤ (↑d.1.length : Int)) ∧
  ((decide ((0 : Int) < (↑d.2.1.length : Int)) && U.has (nth d.2.1 (Int.toNat (0 : Int))) (nth d.1 (Int.toNat (0 : Int)))) = true → (↑d.1.length : Int) ≤ (↑d.1.length : Int)) ∧
  ((decide ((0 : Int) < (↑d.2.1.length : Int)) && U.has (nth d.2.1 (Int.toNat (0 : Int))) (nth d.1 (Int.toNat (0 : Int)))) = true → (0 : Int) ≤ (1 : Int)) ∧
  ((decide ((0 : Int) < (↑d.2.1.length : Int)) && U.has (nth d.2.1 (Int.toNat (0 : Int))) (nth d.1 (Int.toNat (0 : Int)))) = true → (1 : Int) ≤ (↑d.2.1.length : Int)) ∧
  ((decide ((0 : Int) < (↑d.2.1.length : Int)) && U.has (nth d.2.1 (Int.toNat (0 : Int))) (nth d.1 (Int.toNat (0 : Int)))) = true → (↑d.2.1.length : Int) ≤ (↑d.2.1.length : Int)) ∧
  ((decide ((0 : Int) < (↑d.2.1.length : Int)) && U.has (nth d.2.1 (Int.toNat (0 : Int))) (nth d.1 (Int.toNat (0 : Int)))) = true →
  (List.take ((↑d.1.length : Int).toNat - Int.toNat (1 : Int)) (List.drop (Int.toNat (1 : Int)) d.1)).length < n) ∧
  ((decide ((0 : Int) < (↑d.2.1.length : Int)) && U.has (nth d.2.1 (Int.toNat (0 : Int))) (nth d.1 (Int.toNat (0 : Int)))) = true → d.2.2.1 ≤ (1000 : Int)) ∧
  ((decide ((0 : Int) < (↑d.2.1.length : Int)) && U.has (nth d.2.1 (Int.toNat (0 : Int))) (nth d.1 (Int.toNat (0 : Int))) &&
  U.fits (List.take ((↑d.1.length : Int).toNat - Int.toNat (1 : Int)) (List.drop (Int.toNat (1 : Int)) d.1))
  (List.take ((↑d.2.1.length : Int).toNat - Int.toNat (1 : Int)) (List.drop (Int.toNat (1 : Int)) d.2.1)) d.2.2.1) =
  true →
  (true, ()) = (U.fits d.1 d.2.1 d.2.2.1, ())) ∧
  ((decide ((0 : Int) < (↑d.2.1.length : Int)) && U.has (nth d.2.1 (Int.toNat (0 : Int))) (nth d.1 (Int.toNat (0 : Int))) &&
  U.fits (List.take ((↑d.1.length : Int).toNat - Int.toNat (1 : Int)) (List.drop (Int.toNat (1 : Int)) d.1))
  (List.take ((↑d.2.1.length : Int).toNat - Int.toNat (1 : Int)) (List.drop (Int.toNat (1 : Int)) d.2.1)) d.2.2.1) =
  false →
  (decide ((0 : Int) < d.2.2.1) = true → (0 : Int) ≤ (1 : Int)) ∧
  (decide ((0 : Int) < d.2.2.1) = true → (1 : Int) ≤ (↑d.1.length : Int)) ∧
  (decide ((0 : Int) < d.2.2.1) = true → (↑d.1.length : Int) ≤ (↑d.1.length : Int)) ∧
  (decide ((0 : Int) < d.2.2.1) = true → In64 (d.2.2.1 - (1 : Int))) ∧
  (decide ((0 : Int) < d.2.2.1) = true → (List.take ((↑d.1.length : Int).toNat - Int.toNat (1 : Int)) (List.drop (Int.toNat (1 : Int)) d.1)).length < n) ∧
  (decide ((0 : Int) < d.2.2.1) = true → d.2.2.1 - (1 : Int) ≤ (1000 : Int)) ∧
  (decide ((0 : Int) < d.2.2.1) && U.fits (List.take ((↑d.1.length : Int).toNat - Int.toNat (1 : Int)) (List.drop (Int.toNat (1 : Int)) d.1)) d.2.1 (d.2.2.1 - (1 : Int)),
  ()) =
  (U.fits d.1 d.2.1 d.2.2.1, ())))

theorem vc94_eq : (∀ n : Nat, fnVC (ctx 43 [(58, sp58), (94, sp94 n)] []) (fun _ => none) Tryz.f94 (bodyOf Tryz.f94) (sp94 (n + 1))) = vc94 := by kernel_rfl

def sp24 : Spec := ⟨[.val tSn], [.bool], false, fun _ => [], fun d => (U.okS d.1, ())⟩
def an24 : Ann := fun r => match r with
  | 2 => some fun σ => { X := Nat, sl := fun i => [(3, .dat .int (i : Int))], ob := fun _ => [], inv := fun i => i ≤ (U.mvs (gd tSn σ 0)).length ∧ ((U.mvs (gd tSn σ 0)).take i).all U.okSet = true, mu := fun i => (U.mvs (gd tSn σ 0)).length - i }
  | _ => none
def vc24 : Prop :=
  ∀ (d : SnD × Unit),
  (∃ (x : Nat), (((0 : Int) = (↑x : Int) ∧ True) ∧ True) ∧ x ≤ (U.mvs d.1).length ∧ (List.take x (U.mvs d.1)).all U.okSet = true) ∧
  ∀ (x : Nat),
  x ≤ (U.mvs d.1).length ∧ (List.take x (U.mvs d.1)).all U.okSet = true →
  d.1.2.2.2.2.2.2.2.2.1.length < (4611686018427387904 : Nat) →
  (decide ((↑x : Int) < (↑d.1.2.2.2.2.2.2.2.2.1.length : Int)) = true →
  (0 : Int) ≤ (↑x : Int) ∧
  (↑x : Int) < (↑d.1.2.2.2.2.2.2.2.2.1.length : Int) ∧
  ((!U.within (nth d.1.2.2.2.2.2.2.2.2.1 (↑x : Int).toNat) (1 : Int) (255 : Int)) = true → (false, ()) = (U.okS d.1, ())) ∧
  ((!U.within (nth d.1.2.2.2.2.2.2.2.2.1 (↑x : Int).toNat) (1 : Int) (255 : Int)) = false →
  In64 ((↑x : Int) + (1 : Int)) ∧
  ∃ (x' : Nat), (((↑x : Int) + (1 : Int) = (↑x' : Int) ∧ True) ∧ True) ∧ (x' ≤ (U.mvs d.1).length ∧ (List.take x' (U.mvs d.1)).all U.okSet = true) ∧ (U.mvs d.1).length - x' < (U.mvs d.1).length - x)) ∧
  (decide ((↑x : Int) < (↑d.1.2.2.2.2.2.2.2.2.1.length : Int)) = false →
  ((U.within d.1.1 (1 : Int) (8589934591 : Int) && U.within d.1.2.1 (1 : Int) (8589934591 : Int) && U.within d.1.2.2.1 (1 : Int) (255 : Int) && U.within d.1.2.2.2.1 (1 : Int) (255 : Int) &&
  decide (d.1.2.2.2.2.2.1.1 ≤ d.1.2.2.2.2.2.1.2.1) &&
  decide (d.1.2.2.2.2.2.2.1.1 ≤ d.1.2.2.2.2.2.2.1.2.1) &&
  decide (d.1.2.2.2.2.2.2.2.1.1 ≤ d.1.2.2.2.2.2.2.2.1.2.1)) =
  true →
  d.1.2.2.2.2.2.2.2.2.1.length < (4611686018427387904 : Nat)) →
  (U.within d.1.1 (1 : Int) (8589934591 : Int) && U.within d.1.2.1 (1 : Int) (8589934591 : Int) && U.within d.1.2.2.1 (1 : Int) (255 : Int) && U.within d.1.2.2.2.1 (1 : Int) (255 : Int) &&
  decide (d.1.2.2.2.2.2.1.1 ≤ d.1.2.2.2.2.2.1.2.1) &&
  decide (d.1.2.2.2.2.2.2.1.1 ≤ d.1.2.2.2.2.2.2.1.2.1) &&
  decide (d.1.2.2.2.2.2.2.2.1.1 ≤ d.1.2.2.2.2.2.2.2.1.2.1) &&
  decide ((↑d.1.2.2.2.2.2.2.2.2.1.length : Int) ≤ (6 : Int)) &&
  U.within d.1.2.2.2.2.1 (0 : Int) (6 : Int),
  ()) =
  (U.okS d.1, ()))

theorem vc24_eq : fnVC (ctx 77 [(55, sp55)] []) (an24) Tryz.f24 (bodyOf Tryz.f24) sp24 = vc24 := by kernel_rfl

def sp94x : Spec := ⟨[.val (.slice .int), .val (.slice .int), .val .int], [.bool], false, fun d => [d.2.2.1 ≤ 1000], fun d => (U.fits d.1 d.2.1 d.2.2.1, ())⟩
def sp56 : Spec := ⟨[.val tFm, .val tSn], [.bool], false, fun d => [U.okForm d.1 = true, U.lost d.2.1 ≤ 1000], fun d => (U.shownR d.1 d.2.1, ())⟩
def vc56 : Prop :=
  ∀ (d : FmD × SnD × Unit),
  U.okForm d.1 = true →
  U.lost d.2.1 ≤ (1000 : Int) →
  In64 (d.1.1 + (1 : Int)) ∧
  (U.has d.2.1.1 (d.1.1 + (1 : Int)) = true → In64 (d.1.2.1 + (1 : Int))) ∧
  ((U.has d.2.1.1 (d.1.1 + (1 : Int)) && U.has d.2.1.2.1 (d.1.2.1 + (1 : Int)) && U.has d.2.1.2.2.1 d.1.2.2.2.2.1 &&
  U.within d.1.2.2.1 d.2.1.2.2.2.2.2.1.1 d.2.1.2.2.2.2.2.1.2.1 &&
  U.within d.1.2.2.2.1 d.2.1.2.2.2.2.2.2.1.1 d.2.1.2.2.2.2.2.2.1.2.1) =
  true →
  d.2.1.2.2.2.2.1 ≤ (1000 : Int)) ∧
  (U.has d.2.1.1 (d.1.1 + (1 : Int)) && U.has d.2.1.2.1 (d.1.2.1 + (1 : Int)) && U.has d.2.1.2.2.1 d.1.2.2.2.2.1 &&
  U.within d.1.2.2.1 d.2.1.2.2.2.2.2.1.1 d.2.1.2.2.2.2.2.1.2.1 &&
  U.within d.1.2.2.2.1 d.2.1.2.2.2.2.2.2.1.1 d.2.1.2.2.2.2.2.2.1.2.1 &&
  U.fits d.1.2.2.2.2.2.1 d.2.1.2.2.2.2.2.2.2.2.1 d.2.1.2.2.2.2.1,
  ()) =
  (U.shownR d.1 d.2.1, ())

theorem vc56_eq : fnVC (ctx 57 [(55, sp55), (58, sp58), (94, sp94x)] []) (fun _ => none) Tryz.f56 (bodyOf Tryz.f56) sp56 = vc56 := by kernel_rfl

def sp25 : Spec := ⟨[.val tE, .val tSn], [.bool], false, fun d => [U.okForm (U.fm d.1) = true, U.lost d.2.1 ≤ 1000], fun d => (U.agreesR d.1 d.2.1, ())⟩
def vc25 : Prop :=
  ∀ (d : ED × SnD × Unit),
  U.okForm (U.fm d.1) = true →
  U.lost d.2.1 ≤ (1000 : Int) →
  ((decide (band d.1.2.2.1 d.2.1.2.2.2.1 ≠ (0 : Int)) &&
  decide (max d.1.2.2.2.2.1.1 d.2.1.2.2.2.2.2.2.2.1.1 ≤ min d.1.2.2.2.2.1.2.1 d.2.1.2.2.2.2.2.2.2.1.2.1)) =
  true →
  U.okForm d.1.2.2.2.1 = true) ∧
  ((decide (band d.1.2.2.1 d.2.1.2.2.2.1 ≠ (0 : Int)) &&
  decide (max d.1.2.2.2.2.1.1 d.2.1.2.2.2.2.2.2.2.1.1 ≤ min d.1.2.2.2.2.1.2.1 d.2.1.2.2.2.2.2.2.2.1.2.1)) =
  true →
  U.lost d.2.1 ≤ (1000 : Int)) ∧
  ((decide (band d.1.2.2.1 d.2.1.2.2.2.1 ≠ (0 : Int)) &&
  decide (max d.1.2.2.2.2.1.1 d.2.1.2.2.2.2.2.2.2.1.1 ≤ min d.1.2.2.2.2.1.2.1 d.2.1.2.2.2.2.2.2.2.1.2.1) &&
  !U.shownR d.1.2.2.2.1 d.2.1) =
  true →
  U.okForm d.1.2.2.2.1 = true) ∧
  ((decide (band d.1.2.2.1 d.2.1.2.2.2.1 ≠ (0 : Int)) &&
  decide (max d.1.2.2.2.2.1.1 d.2.1.2.2.2.2.2.2.2.1.1 ≤ min d.1.2.2.2.2.1.2.1 d.2.1.2.2.2.2.2.2.2.1.2.1) &&
  !U.shownR d.1.2.2.2.1 d.2.1) =
  true →
  U.okForm (U.mir d.1.2.2.2.1) = true) ∧
  ((decide (band d.1.2.2.1 d.2.1.2.2.2.1 ≠ (0 : Int)) &&
  decide (max d.1.2.2.2.2.1.1 d.2.1.2.2.2.2.2.2.2.1.1 ≤ min d.1.2.2.2.2.1.2.1 d.2.1.2.2.2.2.2.2.2.1.2.1) &&
  !U.shownR d.1.2.2.2.1 d.2.1) =
  true →
  U.lost d.2.1 ≤ (1000 : Int)) ∧
  (decide (band d.1.2.2.1 d.2.1.2.2.2.1 ≠ (0 : Int)) &&
  decide (max d.1.2.2.2.2.1.1 d.2.1.2.2.2.2.2.2.2.1.1 ≤ min d.1.2.2.2.2.1.2.1 d.2.1.2.2.2.2.2.2.2.1.2.1) &&
  (U.shownR d.1.2.2.2.1 d.2.1 || U.shownR (U.mir d.1.2.2.2.1) d.2.1),
  ()) =
  (U.agreesR d.1 d.2.1, ())

theorem vc25_eq : fnVC (ctx 41 [(29, sp29), (56, sp56)] []) (fun _ => none) Tryz.f25 (bodyOf Tryz.f25) sp25 = vc25 := by kernel_rfl

def sp53 : Spec := ⟨[.val (.slice tE), .val tSn], [.slice .int], false, fun d => [∀ x ∈ d.1, U.okForm (U.fm x) = true, U.lost d.2.1 ≤ 1000], fun d => (U.findR d.1 d.2.1, ())⟩
def an53 : Ann := fun r => match r with
  | 3 => some fun σ => { X := Nat, sl := fun n => [(6, .dat .int (n : Int)), (5, .own 5 .int)], ob := fun n => [(5, some (.row 3 .int false .yes (U.findTo (gd (.slice tE) σ 0) (gd tSn σ 1) n)))], inv := fun n => n ≤ 1000, mu := fun n => 1000 - n }
  | 7 => some fun σ => { X := Nat, sl := fun i => [(8, .dat .int (i : Int)), (7, .dat .bool (((gd (.slice tE) σ 0).take i).any (U.hit (gd tSn σ 1) (gd .int σ 6))))], ob := fun _ => [], inv := fun i => i ≤ (gd (.slice tE) σ 0).length, mu := fun i => (gd (.slice tE) σ 0).length - i }
  | _ => none
def vc53 : Prop :=
  ∀ (d : List ED × SnD × Unit),
  (∀ (x : ED), x ∈ d.1 → U.okForm (U.fm x) = true) →
  U.lost d.2.1 ≤ (1000 : Int) →
  (∃ (x : Nat), (((0 : Int) = (↑x : Int) ∧ True ∧ True) ∧ U.findTo d.1 d.2.1 x = [] ∧ True) ∧ x ≤ (1000 : Nat)) ∧
  ∀ (x : Nat),
  x ≤ (1000 : Nat) →
  (decide ((↑x : Int) ≤ (999 : Int)) = true →
  (∃ (x_3 : Nat), (((0 : Int) = (↑x_3 : Int) ∧ false = (List.take x_3 d.1).any (U.hit d.2.1 (↑x : Int)) ∧ True) ∧ True) ∧ x_3 ≤ d.1.length) ∧
  ∀ (x_3 : Nat),
  x_3 ≤ d.1.length →
  d.1.length < (4611686018427387904 : Nat) →
  (decide ((↑x_3 : Int) < (↑d.1.length : Int)) = true →
  ((!(List.take x_3 d.1).any (U.hit d.2.1 (↑x : Int))) = true → (0 : Int) ≤ (↑x_3 : Int)) ∧
  ((!(List.take x_3 d.1).any (U.hit d.2.1 (↑x : Int))) = true → (↑x_3 : Int) < (↑d.1.length : Int)) ∧
  ((!(List.take x_3 d.1).any (U.hit d.2.1 (↑x : Int)) && decide ((nth d.1 (↑x_3 : Int).toNat).2.1 = (↑x : Int))) = true → (0 : Int) ≤ (↑x_3 : Int)) ∧
  ((!(List.take x_3 d.1).any (U.hit d.2.1 (↑x : Int)) && decide ((nth d.1 (↑x_3 : Int).toNat).2.1 = (↑x : Int))) = true → (↑x_3 : Int) < (↑d.1.length : Int)) ∧
  ((!(List.take x_3 d.1).any (U.hit d.2.1 (↑x : Int)) && decide ((nth d.1 (↑x_3 : Int).toNat).2.1 = (↑x : Int))) = true → U.okForm (U.fm (nth d.1 (↑x_3 : Int).toNat)) = true) ∧
  ((!(List.take x_3 d.1).any (U.hit d.2.1 (↑x : Int)) && decide ((nth d.1 (↑x_3 : Int).toNat).2.1 = (↑x : Int))) = true → U.lost d.2.1 ≤ (1000 : Int)) ∧
  In64 ((↑x_3 : Int) + (1 : Int)) ∧
  ∃ (x' : Nat),
  (((↑x_3 : Int) + (1 : Int) = (↑x' : Int) ∧
  ((List.take x_3 d.1).any (U.hit d.2.1 (↑x : Int)) || decide ((nth d.1 (↑x_3 : Int).toNat).2.1 = (↑x : Int)) && U.agreesR (nth d.1 (↑x_3 : Int).toNat) d.2.1) =
  (List.take x' d.1).any (U.hit d.2.1 (↑x : Int)) ∧
  True) ∧
  True) ∧
  x' ≤ d.1.length ∧ d.1.length - x' < d.1.length - x_3) ∧
  (decide ((↑x_3 : Int) < (↑d.1.length : Int)) = false →
  ((List.take x_3 d.1).any (U.hit d.2.1 (↑x : Int)) = true →
  ((U.findTo d.1 d.2.1 x).length + [(↑x : Int)].length) * (8 : Nat) ≤ (140737488355328 : Nat) ∧
  In64 ((↑x : Int) + (1 : Int)) ∧
  ∃ (x' : Nat),
  (((↑x : Int) + (1 : Int) = (↑x' : Int) ∧ True ∧ True) ∧ U.findTo d.1 d.2.1 x ++ [(↑x : Int)] = U.findTo d.1 d.2.1 x' ∧ True) ∧ x' ≤ (1000 : Nat) ∧ (1000 : Nat) - x' < (1000 : Nat) - x) ∧
  ((List.take x_3 d.1).any (U.hit d.2.1 (↑x : Int)) = false →
  In64 ((↑x : Int) + (1 : Int)) ∧
  ∃ (x' : Nat), ((True ∧ (↑x : Int) + (1 : Int) = (↑x' : Int) ∧ True) ∧ U.findTo d.1 d.2.1 x = U.findTo d.1 d.2.1 x' ∧ True) ∧ x' ≤ (1000 : Nat) ∧ (1000 : Nat) - x' < (1000 : Nat) - x))) ∧
  (decide ((↑x : Int) ≤ (999 : Int)) = false → (U.findTo d.1 d.2.1 x, ()) = (U.findR d.1 d.2.1, ()))

theorem vc53_eq : fnVC (ctx 43 [(25, sp25)] []) (an53) Tryz.f53 (bodyOf Tryz.f53) sp53 = vc53 := by kernel_rfl

def sp52 : Spec := ⟨[.val (.slice tE), .val tSn], [.int], false, fun _ => [], fun d => (U.lookR d.1 d.2.1, ())⟩
def vc52 : Prop :=
  ∀ (d : List ED × SnD × Unit),
  (decide (U.chk d.1 ≠ (0 : Int)) = true → (U.chk d.1, ()) = (U.lookR d.1 d.2.1, ())) ∧
  (decide (U.chk d.1 ≠ (0 : Int)) = false → ((!U.okS d.2.1) = true → ((13 : Int), ()) = (U.lookR d.1 d.2.1, ())) ∧ ((!U.okS d.2.1) = false → ((0 : Int), ()) = (U.lookR d.1 d.2.1, ())))

theorem vc52_eq : fnVC (ctx 14 [(24, sp24), (28, sp28)] []) (fun _ => none) Tryz.f52 (bodyOf Tryz.f52) sp52 = vc52 := by kernel_rfl

def sp19 : Spec := ⟨[.val (.slice tE), .val tSn], [.slice .int, .int], false, fun _ => [], fun d => U.fndR d.1 d.2.1⟩
def vc19 : Prop :=
  ∀ (d : List ED × SnD × Unit),
  (decide (U.lookR d.1 d.2.1 ≠ (0 : Int)) = true → ([], U.lookR d.1 d.2.1, ()) = U.fndR d.1 d.2.1) ∧
  (decide (U.lookR d.1 d.2.1 ≠ (0 : Int)) = false →
  (∀ (x : ED), x ∈ d.1 → U.okForm (U.fm x) = true) ∧
  U.lost d.2.1 ≤ (1000 : Int) ∧ (U.findR d.1 d.2.1, (0 : Int), ()) = U.fndR d.1 d.2.1)

theorem vc19_eq : fnVC (ctx 16 [(52, sp52), (53, sp53)] []) (fun _ => none) Tryz.f19 (bodyOf Tryz.f19) sp19 = vc19 := by kernel_rfl

def sp30 : Spec := ⟨[.val tSn, .val .int], [.slice tSn], false, fun _ => [], fun d => (U.answersR d.1 d.2.1, ())⟩
def an30 : Ann := fun r => match r with
  | 3 => some fun σ => { X := Nat, sl := fun k => [(6, .dat .int ((k : Int) - 3)), (5, .own 5 tSn)], ob := fun k => [(5, some (.row 27 tSn false .yes (U.ansTo (gd tSn σ 0) (gd .int σ 1) k)))], inv := fun k => k ≤ 36, mu := fun k => 36 - k }
  | _ => none
def vc30 : Prop :=
  ∀ (d : SnD × Int × Unit),
  (∃ (x : Nat), (((-3 : Int) = (↑x : Int) - (3 : Int) ∧ True ∧ True) ∧ U.ansTo d.1 d.2.1 x = [] ∧ True) ∧ x ≤ (36 : Nat)) ∧
  ∀ (x : Nat),
  x ≤ (36 : Nat) →
  (decide ((↑x : Int) - (3 : Int) ≤ (32 : Int)) = true →
  (decide (d.2.1 = (0 : Int)) = true →
  (0 : Int) ≤ max (0 : Int) ((↑x : Int) - (3 : Int)) ∧
  max (0 : Int) ((↑x : Int) - (3 : Int)) ≤ (18446744073709551615 : Int) ∧
  (0 : Int) ≤ max (0 : Int) ((↑x : Int) - (3 : Int)) ∧
  max (0 : Int) ((↑x : Int) - (3 : Int)) ≤ (64 : Int) ∧
  In64 ((1 : Int) * (2 : Int) ^ (max (0 : Int) ((↑x : Int) - (3 : Int))).toNat) ∧
  (U.has d.1.1 ((↑x : Int) - (3 : Int)) = true →
  ((U.ansTo d.1 d.2.1 x).length + [((1 : Int) * (2 : Int) ^ (max (0 : Int) ((↑x : Int) - (3 : Int))).toNat, d.1.2)].length) * (112 : Nat) ≤ (140737488355328 : Nat) ∧
  In64 ((↑x : Int) - (3 : Int) + (1 : Int)) ∧
  ∃ (x' : Nat),
  (((↑x : Int) - (3 : Int) + (1 : Int) = (↑x' : Int) - (3 : Int) ∧ True ∧ True) ∧
  U.ansTo d.1 d.2.1 x ++ [((1 : Int) * (2 : Int) ^ (max (0 : Int) ((↑x : Int) - (3 : Int))).toNat, d.1.2)] = U.ansTo d.1 d.2.1 x' ∧ True) ∧
  x' ≤ (36 : Nat) ∧ (36 : Nat) - x' < (36 : Nat) - x) ∧
  (U.has d.1.1 ((↑x : Int) - (3 : Int)) = false →
  In64 ((↑x : Int) - (3 : Int) + (1 : Int)) ∧
  ∃ (x' : Nat),
  ((True ∧ (↑x : Int) - (3 : Int) + (1 : Int) = (↑x' : Int) - (3 : Int) ∧ True) ∧ U.ansTo d.1 d.2.1 x = U.ansTo d.1 d.2.1 x' ∧ True) ∧ x' ≤ (36 : Nat) ∧ (36 : Nat) - x' < (36 : Nat) - x)) ∧
  (decide (d.2.1 = (0 : Int)) = false →
  (decide (d.2.1 = (1 : Int)) = true →
  (0 : Int) ≤ max (0 : Int) ((↑x : Int) - (3 : Int)) ∧
  max (0 : Int) ((↑x : Int) - (3 : Int)) ≤ (18446744073709551615 : Int) ∧
  (0 : Int) ≤ max (0 : Int) ((↑x : Int) - (3 : Int)) ∧
  max (0 : Int) ((↑x : Int) - (3 : Int)) ≤ (64 : Int) ∧
  In64 ((1 : Int) * (2 : Int) ^ (max (0 : Int) ((↑x : Int) - (3 : Int))).toNat) ∧
  (U.has d.1.2.1 ((↑x : Int) - (3 : Int)) = true →
  ((U.ansTo d.1 d.2.1 x).length + [(d.1.1, (1 : Int) * (2 : Int) ^ (max (0 : Int) ((↑x : Int) - (3 : Int))).toNat, d.1.2.2)].length) * (112 : Nat) ≤ (140737488355328 : Nat) ∧
  In64 ((↑x : Int) - (3 : Int) + (1 : Int)) ∧
  ∃ (x' : Nat),
  (((↑x : Int) - (3 : Int) + (1 : Int) = (↑x' : Int) - (3 : Int) ∧ True ∧ True) ∧
  U.ansTo d.1 d.2.1 x ++ [(d.1.1, (1 : Int) * (2 : Int) ^ (max (0 : Int) ((↑x : Int) - (3 : Int))).toNat, d.1.2.2)] = U.ansTo d.1 d.2.1 x' ∧ True) ∧
  x' ≤ (36 : Nat) ∧ (36 : Nat) - x' < (36 : Nat) - x) ∧
  (U.has d.1.2.1 ((↑x : Int) - (3 : Int)) = false →
  In64 ((↑x : Int) - (3 : Int) + (1 : Int)) ∧
  ∃ (x' : Nat),
  ((True ∧ (↑x : Int) - (3 : Int) + (1 : Int) = (↑x' : Int) - (3 : Int) ∧ True) ∧ U.ansTo d.1 d.2.1 x = U.ansTo d.1 d.2.1 x' ∧ True) ∧ x' ≤ (36 : Nat) ∧ (36 : Nat) - x' < (36 : Nat) - x)) ∧
  (decide (d.2.1 = (1 : Int)) = false →
  (decide (d.2.1 = (2 : Int)) = true →
  (U.within ((↑x : Int) - (3 : Int)) (max (0 : Int) d.1.2.2.2.2.2.2.1.1) (min (5 : Int) d.1.2.2.2.2.2.2.1.2.1) = true →
  ((U.ansTo d.1 d.2.1 x).length +
  [(d.1.1, d.1.2.1, d.1.2.2.1, d.1.2.2.2.1, d.1.2.2.2.2.1, d.1.2.2.2.2.2.1, ((↑x : Int) - (3 : Int), (↑x : Int) - (3 : Int), ()),
  d.1.2.2.2.2.2.2.2)].length) *
  (112 : Nat) ≤
  (140737488355328 : Nat) ∧
  In64 ((↑x : Int) - (3 : Int) + (1 : Int)) ∧
  ∃ (x' : Nat),
  (((↑x : Int) - (3 : Int) + (1 : Int) = (↑x' : Int) - (3 : Int) ∧ True ∧ True) ∧
  U.ansTo d.1 d.2.1 x ++
  [(d.1.1, d.1.2.1, d.1.2.2.1, d.1.2.2.2.1, d.1.2.2.2.2.1, d.1.2.2.2.2.2.1, ((↑x : Int) - (3 : Int), (↑x : Int) - (3 : Int), ()),
  d.1.2.2.2.2.2.2.2)] =
  U.ansTo d.1 d.2.1 x' ∧
  True) ∧
  x' ≤ (36 : Nat) ∧ (36 : Nat) - x' < (36 : Nat) - x) ∧
  (U.within ((↑x : Int) - (3 : Int)) (max (0 : Int) d.1.2.2.2.2.2.2.1.1) (min (5 : Int) d.1.2.2.2.2.2.2.1.2.1) = false →
  In64 ((↑x : Int) - (3 : Int) + (1 : Int)) ∧
  ∃ (x' : Nat),
  ((True ∧ (↑x : Int) - (3 : Int) + (1 : Int) = (↑x' : Int) - (3 : Int) ∧ True) ∧ U.ansTo d.1 d.2.1 x = U.ansTo d.1 d.2.1 x' ∧ True) ∧ x' ≤ (36 : Nat) ∧ (36 : Nat) - x' < (36 : Nat) - x)) ∧
  (decide (d.2.1 = (2 : Int)) = false →
  (decide (d.2.1 = (3 : Int)) = true →
  (U.within ((↑x : Int) - (3 : Int)) d.1.2.2.2.2.2.1.1 (min (3 : Int) d.1.2.2.2.2.2.1.2.1) = true →
  ((U.ansTo d.1 d.2.1 x).length +
  [(d.1.1, d.1.2.1, d.1.2.2.1, d.1.2.2.2.1, d.1.2.2.2.2.1, ((↑x : Int) - (3 : Int), (↑x : Int) - (3 : Int), ()), d.1.2.2.2.2.2.2)].length) *
  (112 : Nat) ≤
  (140737488355328 : Nat) ∧
  In64 ((↑x : Int) - (3 : Int) + (1 : Int)) ∧
  ∃ (x' : Nat),
  (((↑x : Int) - (3 : Int) + (1 : Int) = (↑x' : Int) - (3 : Int) ∧ True ∧ True) ∧
  U.ansTo d.1 d.2.1 x ++
  [(d.1.1, d.1.2.1, d.1.2.2.1, d.1.2.2.2.1, d.1.2.2.2.2.1, ((↑x : Int) - (3 : Int), (↑x : Int) - (3 : Int), ()), d.1.2.2.2.2.2.2)] =
  U.ansTo d.1 d.2.1 x' ∧
  True) ∧
  x' ≤ (36 : Nat) ∧ (36 : Nat) - x' < (36 : Nat) - x) ∧
  (U.within ((↑x : Int) - (3 : Int)) d.1.2.2.2.2.2.1.1 (min (3 : Int) d.1.2.2.2.2.2.1.2.1) = false →
  In64 ((↑x : Int) - (3 : Int) + (1 : Int)) ∧
  ∃ (x' : Nat),
  ((True ∧ (↑x : Int) - (3 : Int) + (1 : Int) = (↑x' : Int) - (3 : Int) ∧ True) ∧ U.ansTo d.1 d.2.1 x = U.ansTo d.1 d.2.1 x' ∧ True) ∧ x' ≤ (36 : Nat) ∧ (36 : Nat) - x' < (36 : Nat) - x)) ∧
  (decide (d.2.1 = (3 : Int)) = false →
  (decide (d.2.1 = (4 : Int)) = true →
  (0 : Int) ≤ max (0 : Int) ((↑x : Int) - (3 : Int)) ∧
  max (0 : Int) ((↑x : Int) - (3 : Int)) ≤ (18446744073709551615 : Int) ∧
  (0 : Int) ≤ max (0 : Int) ((↑x : Int) - (3 : Int)) ∧
  max (0 : Int) ((↑x : Int) - (3 : Int)) ≤ (64 : Int) ∧
  In64 ((1 : Int) * (2 : Int) ^ (max (0 : Int) ((↑x : Int) - (3 : Int))).toNat) ∧
  (U.has d.1.2.2.1 ((↑x : Int) - (3 : Int)) = true →
  ((U.ansTo d.1 d.2.1 x).length + [(d.1.1, d.1.2.1, (1 : Int) * (2 : Int) ^ (max (0 : Int) ((↑x : Int) - (3 : Int))).toNat, d.1.2.2.2)].length) * (112 : Nat) ≤
  (140737488355328 : Nat) ∧
  In64 ((↑x : Int) - (3 : Int) + (1 : Int)) ∧
  ∃ (x' : Nat),
  (((↑x : Int) - (3 : Int) + (1 : Int) = (↑x' : Int) - (3 : Int) ∧ True ∧ True) ∧
  U.ansTo d.1 d.2.1 x ++ [(d.1.1, d.1.2.1, (1 : Int) * (2 : Int) ^ (max (0 : Int) ((↑x : Int) - (3 : Int))).toNat, d.1.2.2.2)] = U.ansTo d.1 d.2.1 x' ∧
  True) ∧
  x' ≤ (36 : Nat) ∧ (36 : Nat) - x' < (36 : Nat) - x) ∧
  (U.has d.1.2.2.1 ((↑x : Int) - (3 : Int)) = false →
  In64 ((↑x : Int) - (3 : Int) + (1 : Int)) ∧
  ∃ (x' : Nat),
  ((True ∧ (↑x : Int) - (3 : Int) + (1 : Int) = (↑x' : Int) - (3 : Int) ∧ True) ∧ U.ansTo d.1 d.2.1 x = U.ansTo d.1 d.2.1 x' ∧ True) ∧
  x' ≤ (36 : Nat) ∧ (36 : Nat) - x' < (36 : Nat) - x)) ∧
  (decide (d.2.1 = (4 : Int)) = false →
  (false = true →
  ((U.ansTo d.1 d.2.1 x).length + [d.1].length) * (112 : Nat) ≤ (140737488355328 : Nat) ∧
  In64 ((↑x : Int) - (3 : Int) + (1 : Int)) ∧
  ∃ (x' : Nat),
  (((↑x : Int) - (3 : Int) + (1 : Int) = (↑x' : Int) - (3 : Int) ∧ True ∧ True) ∧ U.ansTo d.1 d.2.1 x ++ [d.1] = U.ansTo d.1 d.2.1 x' ∧ True) ∧
  x' ≤ (36 : Nat) ∧ (36 : Nat) - x' < (36 : Nat) - x) ∧
  (false = false →
  In64 ((↑x : Int) - (3 : Int) + (1 : Int)) ∧
  ∃ (x' : Nat),
  ((True ∧ (↑x : Int) - (3 : Int) + (1 : Int) = (↑x' : Int) - (3 : Int) ∧ True) ∧ U.ansTo d.1 d.2.1 x = U.ansTo d.1 d.2.1 x' ∧ True) ∧
  x' ≤ (36 : Nat) ∧ (36 : Nat) - x' < (36 : Nat) - x))))))) ∧
  (decide ((↑x : Int) - (3 : Int) ≤ (32 : Int)) = false → (U.ansTo d.1 d.2.1 x, ()) = (U.answersR d.1 d.2.1, ()))

theorem vc30_eq : fnVC (ctx 85 [(55, sp55), (58, sp58)] []) (an30) Tryz.f30 (bodyOf Tryz.f30) sp30 = vc30 := by kernel_rfl

def sp21 : Spec := ⟨[.val (.slice tE), .val tSn], [.int, .int, .int], false, fun _ => [], fun d => U.askR d.1 d.2.1⟩
def an21 : Ann := fun r => match r with
  | 8 => some fun σ => { X := Nat, sl := fun p => [(9, .dat .int (p : Int)), (8, .dat .int (U.bestR (gd (.slice tE) σ 0) (gd tSn σ 1) p).1), (5, .dat .int (U.bestR (gd (.slice tE) σ 0) (gd tSn σ 1) p).2)], ob := fun _ => [], inv := fun p => p ≤ 5, mu := fun p => 5 - p }
  | 13 => some fun σ => { X := Nat, sl := fun i => [(12, .dat .int (i : Int)), (10, .dat .int (U.topOf (U.numsR (gd (.slice tE) σ 0) ((gd (.slice tSn) σ 11).take i))))], ob := fun _ => [], inv := fun i => i ≤ (gd (.slice tSn) σ 11).length, mu := fun i => (gd (.slice tSn) σ 11).length - i }
  | _ => none
def vc21 : Prop :=
  ∀ (d : List ED × SnD × Unit),
  (decide (U.lookR d.1 d.2.1 ≠ (0 : Int)) = true → ((0 : Int), (0 : Int), U.lookR d.1 d.2.1, ()) = U.askR d.1 d.2.1) ∧
  (decide (U.lookR d.1 d.2.1 ≠ (0 : Int)) = false →
  (∀ (x : ED), x ∈ d.1 → U.okForm (U.fm x) = true) ∧
  U.lost d.2.1 ≤ (1000 : Int) ∧
  ((U.findR d.1 d.2.1).length < (4611686018427387904 : Nat) →
  (decide ((↑(U.findR d.1 d.2.1).length : Int) = (0 : Int)) = true → ((0 : Int), (0 : Int), (3 : Int), ()) = U.askR d.1 d.2.1) ∧
  (decide ((↑(U.findR d.1 d.2.1).length : Int) = (0 : Int)) = false →
  (∃ (x : Nat), (((0 : Int) = (↑x : Int) ∧ (-1 : Int) = (U.bestR d.1 d.2.1 x).1 ∧ (0 : Int) = (U.bestR d.1 d.2.1 x).2 ∧ True) ∧ True) ∧ x ≤ (5 : Nat)) ∧
  ∀ (x : Nat),
  x ≤ (5 : Nat) →
  (decide ((↑x : Int) < (5 : Int)) = true →
  (∃ (x_3 : Nat), (((0 : Int) = (↑x_3 : Int) ∧ (0 : Int) = U.topOf (U.numsR d.1 (List.take x_3 (U.answersR d.2.1 (↑x : Int)))) ∧ True) ∧ True) ∧ x_3 ≤ (U.answersR d.2.1 (↑x : Int)).length) ∧
  ∀ (x_3 : Nat),
  x_3 ≤ (U.answersR d.2.1 (↑x : Int)).length →
  (U.answersR d.2.1 (↑x : Int)).length < (4611686018427387904 : Nat) →
  (decide ((↑x_3 : Int) < (↑(U.answersR d.2.1 (↑x : Int)).length : Int)) = true →
  (0 : Int) ≤ (↑x_3 : Int) ∧
  (↑x_3 : Int) < (↑(U.answersR d.2.1 (↑x : Int)).length : Int) ∧
  (∀ (x : ED), x ∈ d.1 → U.okForm (U.fm x) = true) ∧
  U.lost (nth (U.answersR d.2.1 (↑x : Int)) (↑x_3 : Int).toNat) ≤ (1000 : Int) ∧
  ((U.findR d.1 (nth (U.answersR d.2.1 (↑x : Int)) (↑x_3 : Int).toNat)).length < (4611686018427387904 : Nat) →
  In64 ((↑x_3 : Int) + (1 : Int)) ∧
  ∃ (x' : Nat),
  (((↑x_3 : Int) + (1 : Int) = (↑x' : Int) ∧
  max (U.topOf (U.numsR d.1 (List.take x_3 (U.answersR d.2.1 (↑x : Int))))) (↑(U.findR d.1 (nth (U.answersR d.2.1 (↑x : Int)) (↑x_3 : Int).toNat)).length : Int) =
  U.topOf (U.numsR d.1 (List.take x' (U.answersR d.2.1 (↑x : Int)))) ∧
  True) ∧
  True) ∧
  x' ≤ (U.answersR d.2.1 (↑x : Int)).length ∧ (U.answersR d.2.1 (↑x : Int)).length - x' < (U.answersR d.2.1 (↑x : Int)).length - x_3)) ∧
  (decide ((↑x_3 : Int) < (↑(U.answersR d.2.1 (↑x : Int)).length : Int)) = false →
  ((decide ((U.bestR d.1 d.2.1 x).1 < (0 : Int)) || decide (U.topOf (U.numsR d.1 (List.take x_3 (U.answersR d.2.1 (↑x : Int)))) < (U.bestR d.1 d.2.1 x).2)) = true →
  In64 ((↑x : Int) + (1 : Int)) ∧
  ∃ (x' : Nat),
  (((↑x : Int) + (1 : Int) = (↑x' : Int) ∧
  U.topOf (U.numsR d.1 (List.take x_3 (U.answersR d.2.1 (↑x : Int)))) = (U.bestR d.1 d.2.1 x').2 ∧ (↑x : Int) = (U.bestR d.1 d.2.1 x').1 ∧ True) ∧
  True) ∧
  x' ≤ (5 : Nat) ∧ (5 : Nat) - x' < (5 : Nat) - x) ∧
  ((decide ((U.bestR d.1 d.2.1 x).1 < (0 : Int)) || decide (U.topOf (U.numsR d.1 (List.take x_3 (U.answersR d.2.1 (↑x : Int)))) < (U.bestR d.1 d.2.1 x).2)) = false →
  In64 ((↑x : Int) + (1 : Int)) ∧
  ∃ (x' : Nat),
  (((U.bestR d.1 d.2.1 x).2 = (U.bestR d.1 d.2.1 x').2 ∧ (U.bestR d.1 d.2.1 x).1 = (U.bestR d.1 d.2.1 x').1 ∧ (↑x : Int) + (1 : Int) = (↑x' : Int) ∧ True) ∧ True) ∧
  x' ≤ (5 : Nat) ∧ (5 : Nat) - x' < (5 : Nat) - x))) ∧
  (decide ((↑x : Int) < (5 : Int)) = false → ((U.bestR d.1 d.2.1 x).1, (U.bestR d.1 d.2.1 x).2, (0 : Int), ()) = U.askR d.1 d.2.1))))

theorem vc21_eq : fnVC (ctx 57 [(30, sp30), (52, sp52), (53, sp53)] []) (an21) Tryz.f21 (bodyOf Tryz.f21) sp21 = vc21 := by kernel_rfl

def sp75 : Spec := ⟨[.val tE, .val tE], [.bool], false, fun d => [U.okForm (U.fm d.1) = true, U.okForm (U.fm d.2.1) = true], fun d => (U.twinR d.1 d.2.1, ())⟩
def vc75 : Prop :=
  ∀ (d : ED × ED × Unit),
  U.okForm (U.fm d.1) = true →
  U.okForm (U.fm d.2.1) = true →
  U.okForm d.1.2.2.2.1 = true ∧
  U.okForm d.2.1.2.2.2.1 = true ∧
  U.okForm (U.canR d.1.2.2.2.1) = true ∧
  U.okForm (U.canR d.2.1.2.2.2.1) = true ∧
  (decide (U.order (U.canR d.1.2.2.2.1) (U.canR d.2.1.2.2.2.1) = (0 : Int)) && decide (band d.1.2.2.1 d.2.1.2.2.1 ≠ (0 : Int)) &&
  decide (max d.1.2.2.2.2.1.1 d.2.1.2.2.2.2.1.1 ≤ min d.1.2.2.2.2.1.2.1 d.2.1.2.2.2.2.1.2.1),
  ()) =
  (U.twinR d.1 d.2.1, ())

theorem vc75_eq : fnVC (ctx 38 [(78, sp78), (79, sp79)] []) (fun _ => none) Tryz.f75 (bodyOf Tryz.f75) sp75 = vc75 := by kernel_rfl

def sp74 : Spec := ⟨[.val (.slice tE)], [.slice .int], false, fun _ => [], fun d => (U.signsR d.1, ())⟩
def an74 : Ann := fun r => match r with
  | 3 => some fun σ => { X := Nat, sl := fun n => [(4, .dat .int (n : Int)), (3, .own 3 .int)], ob := fun n => [(3, some (.row 3 .int false .yes (U.signsTo (gd (.slice tE) σ 0) n)))], inv := fun n => n ≤ 1000, mu := fun n => 1000 - n }
  | 6 => some fun σ => { X := Nat, sl := fun i => [(5, .dat .int (i : Int)), (3, .own 3 .int)], ob := fun _ => [(3, some (.row 3 .int false .yes (gr .int σ 3)))], inv := fun i => i ≤ (gd (.slice tE) σ 0).length ∧ ((gd (.slice tE) σ 0).take i).any (U.isSg (gd .int σ 4)) = false, mu := fun i => (gd (.slice tE) σ 0).length - i }
  | _ => none
def vc74 : Prop :=
  ∀ (d : List ED × Unit),
  (∃ (x : Nat), (((0 : Int) = (↑x : Int) ∧ True ∧ True) ∧ U.signsTo d.1 x = [] ∧ True) ∧ x ≤ (1000 : Nat)) ∧
  ∀ (x : Nat),
  x ≤ (1000 : Nat) →
  (decide ((↑x : Int) ≤ (999 : Int)) = true →
  (∃ (x_3 : Nat), (((0 : Int) = (↑x_3 : Int) ∧ True ∧ True) ∧ U.signsTo d.1 x = U.signsTo d.1 x ∧ True) ∧ x_3 ≤ d.1.length ∧ (List.take x_3 d.1).any (U.isSg (↑x : Int)) = false) ∧
  ∀ (x_3 : Nat),
  x_3 ≤ d.1.length ∧ (List.take x_3 d.1).any (U.isSg (↑x : Int)) = false →
  d.1.length < (4611686018427387904 : Nat) →
  (decide ((↑x_3 : Int) < (↑d.1.length : Int)) = true →
  (0 : Int) ≤ (↑x_3 : Int) ∧
  (↑x_3 : Int) < (↑d.1.length : Int) ∧
  (decide ((nth d.1 (↑x_3 : Int).toNat).2.1 = (↑x : Int)) = true →
  ((U.signsTo d.1 x).length + [(↑x : Int)].length) * (8 : Nat) ≤ (140737488355328 : Nat) ∧
  In64 ((↑x : Int) + (1 : Int)) ∧
  ∃ (x' : Nat), (((↑x : Int) + (1 : Int) = (↑x' : Int) ∧ True ∧ True) ∧ U.signsTo d.1 x ++ [(↑x : Int)] = U.signsTo d.1 x' ∧ True) ∧ x' ≤ (1000 : Nat) ∧ (1000 : Nat) - x' < (1000 : Nat) - x) ∧
  (decide ((nth d.1 (↑x_3 : Int).toNat).2.1 = (↑x : Int)) = false →
  In64 ((↑x_3 : Int) + (1 : Int)) ∧
  ∃ (x' : Nat),
  ((True ∧ (↑x_3 : Int) + (1 : Int) = (↑x' : Int) ∧ True) ∧ U.signsTo d.1 x = U.signsTo d.1 x ∧ True) ∧
  (x' ≤ d.1.length ∧ (List.take x' d.1).any (U.isSg (↑x : Int)) = false) ∧ d.1.length - x' < d.1.length - x_3)) ∧
  (decide ((↑x_3 : Int) < (↑d.1.length : Int)) = false →
  In64 ((↑x : Int) + (1 : Int)) ∧ ∃ (x' : Nat), (((↑x : Int) + (1 : Int) = (↑x' : Int) ∧ True ∧ True) ∧ U.signsTo d.1 x = U.signsTo d.1 x' ∧ True) ∧ x' ≤ (1000 : Nat) ∧ (1000 : Nat) - x' < (1000 : Nat) - x)) ∧
  (decide ((↑x : Int) ≤ (999 : Int)) = false → (U.signsTo d.1 x, ()) = (U.signsR d.1, ()))

theorem vc74_eq : fnVC (ctx 28 [] []) (an74) Tryz.f74 (bodyOf Tryz.f74) sp74 = vc74 := by kernel_rfl

def sp35 : Spec := ⟨[.val (.slice tE)], [.slice tP, .int], false, fun _ => [], fun d => U.twnR d.1⟩
def an35 : Ann := fun r => match r with
  | 7 => some fun σ => { X := Nat, sl := fun i => [(7, .dat .int (i : Int)), (5, .own 5 tP)], ob := fun i => [(5, some (.row 63 tP false .yes (U.rowsTo (gd (.slice tE) σ 0) (gd (.slice .int) σ 6) i)))], inv := fun i => i ≤ (gd (.slice .int) σ 6).length, mu := fun i => (gd (.slice .int) σ 6).length - i }
  | 10 => some fun σ => { X := Nat, sl := fun k => [(8, .dat .int (k : Int)), (5, .own 5 tP)], ob := fun k => [(5, some (.row 63 tP false .yes (gr tP σ 5 ++ U.rowTo (gd (.slice tE) σ 0) (gd (.slice .int) σ 6) (gd .int σ 7).toNat k)))], inv := fun k => (gd .int σ 7).toNat < k ∧ k ≤ (gd (.slice .int) σ 6).length, mu := fun k => (gd (.slice .int) σ 6).length - k }
  | 14 => some fun σ => { X := Nat, sl := fun m => [(10, .dat .int (m : Int)), (9, .dat .bool (U.twTo (gd (.slice tE) σ 0) (nth (gd (.slice .int) σ 6) (gd .int σ 7).toNat) (nth (gd (.slice .int) σ 6) (gd .int σ 8).toNat) m))], ob := fun _ => [], inv := fun m => m ≤ (gd (.slice tE) σ 0).length, mu := fun m => (gd (.slice tE) σ 0).length - m }
  | 17 => some fun σ => { X := Nat, sl := fun n => [(11, .dat .int (n : Int)), (9, .dat .bool (gd .bool σ 9 || ((gd (.slice tE) σ 0).take n).any (U.tw (nth (gd (.slice .int) σ 6) (gd .int σ 7).toNat) (nth (gd (.slice .int) σ 6) (gd .int σ 8).toNat) (nth (gd (.slice tE) σ 0) (gd .int σ 10).toNat))))], ob := fun _ => [], inv := fun n => n ≤ (gd (.slice tE) σ 0).length, mu := fun n => (gd (.slice tE) σ 0).length - n }
  | _ => none
def vc35 : Prop :=
  ∀ (d : List ED × Unit),
  (decide (U.chk d.1 ≠ (0 : Int)) = true → ([], U.chk d.1, ()) = U.twnR d.1) ∧
  (decide (U.chk d.1 ≠ (0 : Int)) = false →
  (∃ (x : Nat), (((0 : Int) = (↑x : Int) ∧ True ∧ True) ∧ U.rowsTo d.1 (U.signsR d.1) x = [] ∧ True) ∧ x ≤ (U.signsR d.1).length) ∧
  ∀ (x : Nat),
  x ≤ (U.signsR d.1).length →
  (U.signsR d.1).length < (4611686018427387904 : Nat) →
  (decide ((↑x : Int) < (↑(U.signsR d.1).length : Int)) = true →
  In64 ((↑x : Int) + (1 : Int)) ∧
  (∃ (x_4 : Nat),
  (((↑x : Int) + (1 : Int) = (↑x_4 : Int) ∧ True ∧ True) ∧ U.rowsTo d.1 (U.signsR d.1) x = U.rowsTo d.1 (U.signsR d.1) x ++ U.rowTo d.1 (U.signsR d.1) (↑x : Int).toNat x_4 ∧ True) ∧
  (↑x : Int).toNat < x_4 ∧ x_4 ≤ (U.signsR d.1).length) ∧
  ∀ (x_4 : Nat),
  (↑x : Int).toNat < x_4 ∧ x_4 ≤ (U.signsR d.1).length →
  (U.signsR d.1).length < (4611686018427387904 : Nat) →
  (decide ((↑x_4 : Int) < (↑(U.signsR d.1).length : Int)) = true →
  (∃ (x_8 : Nat), (((0 : Int) = (↑x_8 : Int) ∧ false = U.twTo d.1 (nth (U.signsR d.1) (↑x : Int).toNat) (nth (U.signsR d.1) (↑x_4 : Int).toNat) x_8 ∧ True) ∧ True) ∧ x_8 ≤ d.1.length) ∧
  ∀ (x_8 : Nat),
  x_8 ≤ d.1.length →
  d.1.length < (4611686018427387904 : Nat) →
  (decide ((↑x_8 : Int) < (↑d.1.length : Int)) = true →
  (∃ (x_12 : Nat),
  (((0 : Int) = (↑x_12 : Int) ∧
  U.twTo d.1 (nth (U.signsR d.1) (↑x : Int).toNat) (nth (U.signsR d.1) (↑x_4 : Int).toNat) x_8 =
  (U.twTo d.1 (nth (U.signsR d.1) (↑x : Int).toNat) (nth (U.signsR d.1) (↑x_4 : Int).toNat) x_8 ||
  (List.take x_12 d.1).any (U.tw (nth (U.signsR d.1) (↑x : Int).toNat) (nth (U.signsR d.1) (↑x_4 : Int).toNat) (nth d.1 (↑x_8 : Int).toNat))) ∧
  True) ∧
  True) ∧
  x_12 ≤ d.1.length) ∧
  ∀ (x_12 : Nat),
  x_12 ≤ d.1.length →
  d.1.length < (4611686018427387904 : Nat) →
  (decide ((↑x_12 : Int) < (↑d.1.length : Int)) = true →
  ((!(U.twTo d.1 (nth (U.signsR d.1) (↑x : Int).toNat) (nth (U.signsR d.1) (↑x_4 : Int).toNat) x_8 ||
  (List.take x_12 d.1).any (U.tw (nth (U.signsR d.1) (↑x : Int).toNat) (nth (U.signsR d.1) (↑x_4 : Int).toNat) (nth d.1 (↑x_8 : Int).toNat)))) =
  true →
  (0 : Int) ≤ (↑x_8 : Int)) ∧
  ((!(U.twTo d.1 (nth (U.signsR d.1) (↑x : Int).toNat) (nth (U.signsR d.1) (↑x_4 : Int).toNat) x_8 ||
  (List.take x_12 d.1).any (U.tw (nth (U.signsR d.1) (↑x : Int).toNat) (nth (U.signsR d.1) (↑x_4 : Int).toNat) (nth d.1 (↑x_8 : Int).toNat)))) =
  true →
  (↑x_8 : Int) < (↑d.1.length : Int)) ∧
  ((!(U.twTo d.1 (nth (U.signsR d.1) (↑x : Int).toNat) (nth (U.signsR d.1) (↑x_4 : Int).toNat) x_8 ||
  (List.take x_12 d.1).any (U.tw (nth (U.signsR d.1) (↑x : Int).toNat) (nth (U.signsR d.1) (↑x_4 : Int).toNat) (nth d.1 (↑x_8 : Int).toNat)))) =
  true →
  (0 : Int) ≤ (↑x : Int)) ∧
  ((!(U.twTo d.1 (nth (U.signsR d.1) (↑x : Int).toNat) (nth (U.signsR d.1) (↑x_4 : Int).toNat) x_8 ||
  (List.take x_12 d.1).any (U.tw (nth (U.signsR d.1) (↑x : Int).toNat) (nth (U.signsR d.1) (↑x_4 : Int).toNat) (nth d.1 (↑x_8 : Int).toNat)))) =
  true →
  (↑x : Int) < (↑(U.signsR d.1).length : Int)) ∧
  ((!(U.twTo d.1 (nth (U.signsR d.1) (↑x : Int).toNat) (nth (U.signsR d.1) (↑x_4 : Int).toNat) x_8 ||
  (List.take x_12 d.1).any (U.tw (nth (U.signsR d.1) (↑x : Int).toNat) (nth (U.signsR d.1) (↑x_4 : Int).toNat) (nth d.1 (↑x_8 : Int).toNat))) &&
  decide ((nth d.1 (↑x_8 : Int).toNat).2.1 = nth (U.signsR d.1) (↑x : Int).toNat)) =
  true →
  (0 : Int) ≤ (↑x_12 : Int)) ∧
  ((!(U.twTo d.1 (nth (U.signsR d.1) (↑x : Int).toNat) (nth (U.signsR d.1) (↑x_4 : Int).toNat) x_8 ||
  (List.take x_12 d.1).any (U.tw (nth (U.signsR d.1) (↑x : Int).toNat) (nth (U.signsR d.1) (↑x_4 : Int).toNat) (nth d.1 (↑x_8 : Int).toNat))) &&
  decide ((nth d.1 (↑x_8 : Int).toNat).2.1 = nth (U.signsR d.1) (↑x : Int).toNat)) =
  true →
  (↑x_12 : Int) < (↑d.1.length : Int)) ∧
  ((!(U.twTo d.1 (nth (U.signsR d.1) (↑x : Int).toNat) (nth (U.signsR d.1) (↑x_4 : Int).toNat) x_8 ||
  (List.take x_12 d.1).any (U.tw (nth (U.signsR d.1) (↑x : Int).toNat) (nth (U.signsR d.1) (↑x_4 : Int).toNat) (nth d.1 (↑x_8 : Int).toNat))) &&
  decide ((nth d.1 (↑x_8 : Int).toNat).2.1 = nth (U.signsR d.1) (↑x : Int).toNat)) =
  true →
  (0 : Int) ≤ (↑x_4 : Int)) ∧
  ((!(U.twTo d.1 (nth (U.signsR d.1) (↑x : Int).toNat) (nth (U.signsR d.1) (↑x_4 : Int).toNat) x_8 ||
  (List.take x_12 d.1).any (U.tw (nth (U.signsR d.1) (↑x : Int).toNat) (nth (U.signsR d.1) (↑x_4 : Int).toNat) (nth d.1 (↑x_8 : Int).toNat))) &&
  decide ((nth d.1 (↑x_8 : Int).toNat).2.1 = nth (U.signsR d.1) (↑x : Int).toNat)) =
  true →
  (↑x_4 : Int) < (↑(U.signsR d.1).length : Int)) ∧
  ((!(U.twTo d.1 (nth (U.signsR d.1) (↑x : Int).toNat) (nth (U.signsR d.1) (↑x_4 : Int).toNat) x_8 ||
  (List.take x_12 d.1).any (U.tw (nth (U.signsR d.1) (↑x : Int).toNat) (nth (U.signsR d.1) (↑x_4 : Int).toNat) (nth d.1 (↑x_8 : Int).toNat))) &&
  (decide ((nth d.1 (↑x_8 : Int).toNat).2.1 = nth (U.signsR d.1) (↑x : Int).toNat) &&
  decide ((nth d.1 (↑x_12 : Int).toNat).2.1 = nth (U.signsR d.1) (↑x_4 : Int).toNat))) =
  true →
  (0 : Int) ≤ (↑x_8 : Int)) ∧
  ((!(U.twTo d.1 (nth (U.signsR d.1) (↑x : Int).toNat) (nth (U.signsR d.1) (↑x_4 : Int).toNat) x_8 ||
  (List.take x_12 d.1).any (U.tw (nth (U.signsR d.1) (↑x : Int).toNat) (nth (U.signsR d.1) (↑x_4 : Int).toNat) (nth d.1 (↑x_8 : Int).toNat))) &&
  (decide ((nth d.1 (↑x_8 : Int).toNat).2.1 = nth (U.signsR d.1) (↑x : Int).toNat) &&
  decide ((nth d.1 (↑x_12 : Int).toNat).2.1 = nth (U.signsR d.1) (↑x_4 : Int).toNat))) =
  true →
  (↑x_8 : Int) < (↑d.1.length : Int)) ∧
  ((!(U.twTo d.1 (nth (U.signsR d.1) (↑x : Int).toNat) (nth (U.signsR d.1) (↑x_4 : Int).toNat) x_8 ||
  (List.take x_12 d.1).any (U.tw (nth (U.signsR d.1) (↑x : Int).toNat) (nth (U.signsR d.1) (↑x_4 : Int).toNat) (nth d.1 (↑x_8 : Int).toNat))) &&
  (decide ((nth d.1 (↑x_8 : Int).toNat).2.1 = nth (U.signsR d.1) (↑x : Int).toNat) &&
  decide ((nth d.1 (↑x_12 : Int).toNat).2.1 = nth (U.signsR d.1) (↑x_4 : Int).toNat))) =
  true →
  (0 : Int) ≤ (↑x_12 : Int)) ∧
  ((!(U.twTo d.1 (nth (U.signsR d.1) (↑x : Int).toNat) (nth (U.signsR d.1) (↑x_4 : Int).toNat) x_8 ||
  (List.take x_12 d.1).any (U.tw (nth (U.signsR d.1) (↑x : Int).toNat) (nth (U.signsR d.1) (↑x_4 : Int).toNat) (nth d.1 (↑x_8 : Int).toNat))) &&
  (decide ((nth d.1 (↑x_8 : Int).toNat).2.1 = nth (U.signsR d.1) (↑x : Int).toNat) &&
  decide ((nth d.1 (↑x_12 : Int).toNat).2.1 = nth (U.signsR d.1) (↑x_4 : Int).toNat))) =
  true →
  (↑x_12 : Int) < (↑d.1.length : Int)) ∧
  ((!(U.twTo d.1 (nth (U.signsR d.1) (↑x : Int).toNat) (nth (U.signsR d.1) (↑x_4 : Int).toNat) x_8 ||
  (List.take x_12 d.1).any
  (U.tw (nth (U.signsR d.1) (↑x : Int).toNat) (nth (U.signsR d.1) (↑x_4 : Int).toNat) (nth d.1 (↑x_8 : Int).toNat))) &&
  (decide ((nth d.1 (↑x_8 : Int).toNat).2.1 = nth (U.signsR d.1) (↑x : Int).toNat) &&
  decide ((nth d.1 (↑x_12 : Int).toNat).2.1 = nth (U.signsR d.1) (↑x_4 : Int).toNat))) =
  true →
  U.okForm (U.fm (nth d.1 (↑x_8 : Int).toNat)) = true) ∧
  ((!(U.twTo d.1 (nth (U.signsR d.1) (↑x : Int).toNat) (nth (U.signsR d.1) (↑x_4 : Int).toNat) x_8 ||
  (List.take x_12 d.1).any
  (U.tw (nth (U.signsR d.1) (↑x : Int).toNat) (nth (U.signsR d.1) (↑x_4 : Int).toNat) (nth d.1 (↑x_8 : Int).toNat))) &&
  (decide ((nth d.1 (↑x_8 : Int).toNat).2.1 = nth (U.signsR d.1) (↑x : Int).toNat) &&
  decide ((nth d.1 (↑x_12 : Int).toNat).2.1 = nth (U.signsR d.1) (↑x_4 : Int).toNat))) =
  true →
  U.okForm (U.fm (nth d.1 (↑x_12 : Int).toNat)) = true) ∧
  In64 ((↑x_12 : Int) + (1 : Int)) ∧
  ∃ (x' : Nat),
  (((↑x_12 : Int) + (1 : Int) = (↑x' : Int) ∧
  (U.twTo d.1 (nth (U.signsR d.1) (↑x : Int).toNat) (nth (U.signsR d.1) (↑x_4 : Int).toNat) x_8 ||
  (List.take x_12 d.1).any
  (U.tw (nth (U.signsR d.1) (↑x : Int).toNat) (nth (U.signsR d.1) (↑x_4 : Int).toNat) (nth d.1 (↑x_8 : Int).toNat)) ||
  decide ((nth d.1 (↑x_8 : Int).toNat).2.1 = nth (U.signsR d.1) (↑x : Int).toNat) &&
  decide ((nth d.1 (↑x_12 : Int).toNat).2.1 = nth (U.signsR d.1) (↑x_4 : Int).toNat) &&
  U.twinR (nth d.1 (↑x_8 : Int).toNat) (nth d.1 (↑x_12 : Int).toNat)) =
  (U.twTo d.1 (nth (U.signsR d.1) (↑x : Int).toNat) (nth (U.signsR d.1) (↑x_4 : Int).toNat) x_8 ||
  (List.take x' d.1).any
  (U.tw (nth (U.signsR d.1) (↑x : Int).toNat) (nth (U.signsR d.1) (↑x_4 : Int).toNat) (nth d.1 (↑x_8 : Int).toNat))) ∧
  True) ∧
  True) ∧
  x' ≤ d.1.length ∧ d.1.length - x' < d.1.length - x_12) ∧
  (decide ((↑x_12 : Int) < (↑d.1.length : Int)) = false →
  In64 ((↑x_8 : Int) + (1 : Int)) ∧
  ∃ (x' : Nat),
  (((↑x_8 : Int) + (1 : Int) = (↑x' : Int) ∧
  (U.twTo d.1 (nth (U.signsR d.1) (↑x : Int).toNat) (nth (U.signsR d.1) (↑x_4 : Int).toNat) x_8 ||
  (List.take x_12 d.1).any (U.tw (nth (U.signsR d.1) (↑x : Int).toNat) (nth (U.signsR d.1) (↑x_4 : Int).toNat) (nth d.1 (↑x_8 : Int).toNat))) =
  U.twTo d.1 (nth (U.signsR d.1) (↑x : Int).toNat) (nth (U.signsR d.1) (↑x_4 : Int).toNat) x' ∧
  True) ∧
  True) ∧
  x' ≤ d.1.length ∧ d.1.length - x' < d.1.length - x_8)) ∧
  (decide ((↑x_8 : Int) < (↑d.1.length : Int)) = false →
  (U.twTo d.1 (nth (U.signsR d.1) (↑x : Int).toNat) (nth (U.signsR d.1) (↑x_4 : Int).toNat) x_8 = true →
  (0 : Int) ≤ (↑x : Int) ∧
  (↑x : Int) < (↑(U.signsR d.1).length : Int) ∧
  (0 : Int) ≤ (↑x_4 : Int) ∧
  (↑x_4 : Int) < (↑(U.signsR d.1).length : Int) ∧
  ((U.rowsTo d.1 (U.signsR d.1) x ++ U.rowTo d.1 (U.signsR d.1) (↑x : Int).toNat x_4).length +
  [(nth (U.signsR d.1) (↑x : Int).toNat, nth (U.signsR d.1) (↑x_4 : Int).toNat, ())].length) *
  (16 : Nat) ≤
  (140737488355328 : Nat) ∧
  In64 ((↑x_4 : Int) + (1 : Int)) ∧
  ∃ (x' : Nat),
  (((↑x_4 : Int) + (1 : Int) = (↑x' : Int) ∧ True ∧ True) ∧
  U.rowsTo d.1 (U.signsR d.1) x ++ U.rowTo d.1 (U.signsR d.1) (↑x : Int).toNat x_4 ++
  [(nth (U.signsR d.1) (↑x : Int).toNat, nth (U.signsR d.1) (↑x_4 : Int).toNat, ())] =
  U.rowsTo d.1 (U.signsR d.1) x ++ U.rowTo d.1 (U.signsR d.1) (↑x : Int).toNat x' ∧
  True) ∧
  ((↑x : Int).toNat < x' ∧ x' ≤ (U.signsR d.1).length) ∧ (U.signsR d.1).length - x' < (U.signsR d.1).length - x_4) ∧
  (U.twTo d.1 (nth (U.signsR d.1) (↑x : Int).toNat) (nth (U.signsR d.1) (↑x_4 : Int).toNat) x_8 = false →
  In64 ((↑x_4 : Int) + (1 : Int)) ∧
  ∃ (x' : Nat),
  ((True ∧ (↑x_4 : Int) + (1 : Int) = (↑x' : Int) ∧ True) ∧
  U.rowsTo d.1 (U.signsR d.1) x ++ U.rowTo d.1 (U.signsR d.1) (↑x : Int).toNat x_4 = U.rowsTo d.1 (U.signsR d.1) x ++ U.rowTo d.1 (U.signsR d.1) (↑x : Int).toNat x' ∧
  True) ∧
  ((↑x : Int).toNat < x' ∧ x' ≤ (U.signsR d.1).length) ∧ (U.signsR d.1).length - x' < (U.signsR d.1).length - x_4))) ∧
  (decide ((↑x_4 : Int) < (↑(U.signsR d.1).length : Int)) = false →
  In64 ((↑x : Int) + (1 : Int)) ∧
  ∃ (x' : Nat),
  (((↑x : Int) + (1 : Int) = (↑x' : Int) ∧ True ∧ True) ∧ U.rowsTo d.1 (U.signsR d.1) x ++ U.rowTo d.1 (U.signsR d.1) (↑x : Int).toNat x_4 = U.rowsTo d.1 (U.signsR d.1) x' ∧ True) ∧
  x' ≤ (U.signsR d.1).length ∧ (U.signsR d.1).length - x' < (U.signsR d.1).length - x)) ∧
  (decide ((↑x : Int) < (↑(U.signsR d.1).length : Int)) = false → (U.rowsTo d.1 (U.signsR d.1) x, (0 : Int), ()) = U.twnR d.1))

theorem vc35_eq : fnVC (ctx 95 [(28, sp28), (74, sp74), (75, sp75)] []) (an35) Tryz.f35 (bodyOf Tryz.f35) sp35 = vc35 := by kernel_rfl

def sp16 : Spec := ⟨[.val (.slice tE)], [.slice tE], false, fun d => [d.1.length ≤ 1000, ∀ x ∈ d.1, (U.mv (U.fm x)).length ≤ 1000], fun d => (d.1, ())⟩
def an16 : Ann := fun r => match r with
  | 3 => some fun σ => { X := Nat, sl := fun i => [(4, .dat .int (i : Int)), (3, .own 3 tE)], ob := fun i => [(3, some (.row 44 tE false .yes ((gd (.slice tE) σ 0).take i)))], inv := fun i => i ≤ (gd (.slice tE) σ 0).length, mu := fun i => (gd (.slice tE) σ 0).length - i }
  | _ => none
def vc16 : Prop :=
  ∀ (d : List ED × Unit),
  d.1.length ≤ (1000 : Nat) →
  (∀ (x : ED), x ∈ d.1 → (U.mv (U.fm x)).length ≤ (1000 : Nat)) →
  (∃ (x : Nat), (((0 : Int) = (↑x : Int) ∧ True ∧ True) ∧ List.take x d.1 = [] ∧ True) ∧ x ≤ d.1.length) ∧
  ∀ (x : Nat),
  x ≤ d.1.length →
  d.1.length < (4611686018427387904 : Nat) →
  (decide ((↑x : Int) < (↑d.1.length : Int)) = true →
  (0 : Int) ≤ (↑x : Int) ∧
  (↑x : Int) < (↑d.1.length : Int) ∧
  (U.mv (nth d.1 (↑x : Int).toNat).2.2.2.1).length ≤ (1000 : Nat) ∧
  ((List.take x d.1).length + [nth d.1 (↑x : Int).toNat].length) * (104 : Nat) ≤ (140737488355328 : Nat) ∧
  In64 ((↑x : Int) + (1 : Int)) ∧
  ∃ (x' : Nat), (((↑x : Int) + (1 : Int) = (↑x' : Int) ∧ True ∧ True) ∧ List.take x d.1 ++ [nth d.1 (↑x : Int).toNat] = List.take x' d.1 ∧ True) ∧ x' ≤ d.1.length ∧ d.1.length - x' < d.1.length - x) ∧
  (decide ((↑x : Int) < (↑d.1.length : Int)) = false → (List.take x d.1, ()) = d)

theorem vc16_eq : fnVC (ctx 25 [(39, sp39)] []) (an16) Tryz.f16 (bodyOf Tryz.f16) sp16 = vc16 := by kernel_rfl

def sp17 : Spec := ⟨[.val tSn], [tSn], false, fun d => [(U.mvs d.1).length ≤ 1000], fun d => (d.1, ())⟩
def vc17 : Prop :=
  ∀ (d : SnD × Unit),
  (U.mvs d.1).length ≤ (1000 : Nat) →
  ((0 : Nat) + d.1.2.2.2.2.2.2.2.2.1.length) * (8 : Nat) ≤ (140737488355328 : Nat) ∧
  ((d.1.1, d.1.2.1, d.1.2.2.1, d.1.2.2.2.1, d.1.2.2.2.2.1, d.1.2.2.2.2.2.1, d.1.2.2.2.2.2.2.1, d.1.2.2.2.2.2.2.2.1,
  [] ++ d.1.2.2.2.2.2.2.2.2.1, ()),
  ()) =
  d

theorem vc17_eq : fnVC (ctx 9 [] []) (fun _ => none) Tryz.f17 (bodyOf Tryz.f17) sp17 = vc17 := by kernel_rfl


end Go.X
/-
  Signs, the specification: Find, Ask, Twins, copies.
-/
namespace Go.X
open Go.Proofs

theorem h58 : vc58 := by
  intro d
  have e : ∀ {p : Prop} [Decidable p], decide p = true → p := fun h => of_decide_eq_true h
  refine ⟨fun h => ?_, fun h => ?_, fun h => ?_, fun h => ?_, ?_⟩
  · simp only [Bool.and_eq_true, decide_eq_true_eq] at h; omega
  · simp only [Bool.and_eq_true, decide_eq_true_eq] at h; omega
  · simp only [Bool.and_eq_true, decide_eq_true_eq] at h; omega
  · simp only [Bool.and_eq_true, decide_eq_true_eq] at h; omega
  · congr 1
    unfold U.has U.bit
    rw [Bool.decide_and]
theorem ok58 : FnOK PR 58 sp58 := mkFn (vc58_eq.mpr h58) Tryz.func58 (by kernel_rfl) (by kernel_rfl) (by kernel_rfl) (by kernel_rfl) trivial trivial

theorem fits_cons {l sets : List Int} {lost : Int} (h : l ≠ []) : U.fits l sets lost = ((decide (0 < (sets.length : Int)) && U.has (nth sets 0) (nth l 0) && U.fits (l.drop 1) (sets.drop 1) lost) || (decide (0 < lost) && U.fits (l.drop 1) sets (lost - 1))) := by
  cases l with
  | nil => exact absurd rfl h
  | cons m r => rfl
theorem h94 : vc94 := by
  intro n d hn hlost hl
  have t1 : ∀ l : List Int, (l.drop (Int.toNat 1)).take (((l.length : Nat) : Int).toNat - Int.toNat 1) = l.drop 1 := fun l => by
    rw [Int.toNat_natCast]
    apply List.take_of_length_le
    rw [List.length_drop]; exact Nat.le_refl _
  rw [t1, t1]
  refine ⟨fun h _ => ?_, fun h => ?_⟩
  · have h : (d.1.length : Int) = 0 := of_decide_eq_true h
    have e : d.1 = [] := List.eq_nil_of_length_eq_zero (by omega)
    rw [e]; rfl
  have h : ¬ (d.1.length : Int) = 0 := of_decide_eq_false h
  have hne : d.1 ≠ [] := fun e => by rw [e] at h; simp at h
  have hlt : (d.1.drop 1).length < n := by rw [List.length_drop]; omega
  refine ⟨fun _ => by omega, fun hc => of_decide_eq_true hc, fun _ => by omega, fun _ => by omega, fun _ => by omega, fun _ => by omega, fun _ => Int.le_refl _, fun _ => by omega, fun hc => ?_, fun _ => Int.le_refl _, fun _ => hlt, fun _ => hlost, fun hc => ?_, fun hc => ⟨fun _ => by omega, fun _ => by omega, fun _ => Int.le_refl _, fun hp => ?_, fun _ => hlt, fun _ => by omega, ?_⟩⟩
  · simp only [Bool.and_eq_true, decide_eq_true_eq] at hc; omega
  · congr 1
    rw [fits_cons hne]
    have hc : (decide (0 < ((d.2.1.length : Nat) : Int)) && U.has (nth d.2.1 0) (nth d.1 0) && U.fits (d.1.drop 1) (d.2.1.drop 1) d.2.2.1) = true := hc
    rw [hc]; rfl
  · have hp : 0 < d.2.2.1 := of_decide_eq_true hp
    unfold In64; omega
  · congr 1
    rw [fits_cons hne]
    have hc : (decide (0 < ((d.2.1.length : Nat) : Int)) && U.has (nth d.2.1 0) (nth d.1 0) && U.fits (d.1.drop 1) (d.2.1.drop 1) d.2.2.1) = false := hc
    rw [hc]; rfl

theorem any_take {α : Type} [Inhabited α] {l : List α} {p : α → Bool} {i : Nat} (h : i < l.length) : (l.take (i + 1)).any p = ((l.take i).any p || p (nth l i)) := by
  rw [L.take_succ h, List.any_append]; simp

theorem h24 : vc24 := by
  intro d
  have em : d.fst.snd.snd.snd.snd.snd.snd.snd.snd.fst = U.mvs d.1 := rfl
  rw [em]
  refine ⟨⟨0, ⟨⟨rfl, trivial⟩, trivial⟩, Nat.zero_le _, by simp⟩, fun i hi hl => ⟨fun h => ?_, fun h _ => ?_⟩⟩
  · have h : i < (U.mvs d.1).length := by simpa using h
    simp only [Int.toNat_natCast]
    refine ⟨by omega, by omega, fun hb => ?_, fun hb => ⟨L.in64 (by omega) (by omega), i + 1, ⟨⟨by simp, trivial⟩, trivial⟩, ⟨by omega, L.all_take h hi.2 ?_⟩, by omega⟩⟩
    · have hb : U.okSet (nth (U.mvs d.1) i) = false := by
        have hb : (!U.okSet (nth (U.mvs d.1) i)) = true := hb
        simpa using hb
      congr 1
      unfold U.okS
      rw [L.all_false h hb, Bool.and_false]
    · have hb : (!U.okSet (nth (U.mvs d.1) i)) = false := hb
      simpa using hb
  · have h : (U.mvs d.1).length ≤ i := by simpa using h
    congr 1
    unfold U.okS
    rw [L.all_of_take h hi.2, Bool.and_true]
    unfold U.within U.rights U.lefts U.faces U.rgs U.lost U.cols U.rows U.ages U.lo U.hi
    rw [Bool.eq_iff_iff]
    simp only [Bool.and_eq_true, decide_eq_true_eq]
    constructor
    · rintro ⟨⟨⟨⟨⟨⟨⟨⟨h1, h2⟩, h3⟩, h4⟩, h5⟩, h6⟩, h7⟩, h8⟩, h9⟩
      exact ⟨h1.1, h1.2, h2.1, h2.2, h3.1, h3.2, h4.1, h4.2, h5, h6, h7, by omega, h9.1, h9.2⟩
    · rintro ⟨h1, h1', h2, h2', h3, h3', h4, h4', h5, h6, h7, h8, h9, h9'⟩
      exact ⟨⟨⟨⟨⟨⟨⟨⟨⟨h1, h1'⟩, h2, h2'⟩, h3, h3'⟩, h4, h4'⟩, h5⟩, h6⟩, h7⟩, by omega⟩, h9, h9'⟩
theorem ok24 : FnOK PR 24 sp24 := mkFn (vc24_eq.mpr h24) Tryz.func24 (by kernel_rfl) (by kernel_rfl) (by kernel_rfl) (by kernel_rfl) ⟨fun _ => ok55, trivial⟩ trivial

theorem enters94 : enters PR 94 := enters_of Tryz.func94 (c := bodyOf Tryz.f94) (by kernel_rfl) (by kernel_rfl)
theorem ok94n : ∀ n : Nat, FnOK PR 94 (sp94 n)
  | 0 => ⟨enters94, fun H w vals d _ _ hp => absurd hp.1 (Nat.not_lt_zero _)⟩
  | n + 1 => mkFn (vc94_eq.mpr h94 n) Tryz.func94 (by kernel_rfl) (by kernel_rfl) (by kernel_rfl) (by kernel_rfl) ⟨fun _ => ok58, fun _ => ok94n n, trivial⟩ trivial
theorem ok94x : FnOK PR 94 sp94x := ⟨enters94, fun H w vals d hg hp hpre => (ok94n (d.1.length + 1)).calls H w vals d hg hp ⟨Nat.lt_succ_self _, hpre.1, trivial⟩⟩

theorem h56 : vc56 := by
  intro d hok hlost
  obtain ⟨h1, h2⟩ := okForm_iff.1 hok
  exact ⟨by unfold In64; omega, fun _ => by unfold In64; omega, fun _ => hlost, rfl⟩
theorem ok56 : FnOK PR 56 sp56 := mkFn (vc56_eq.mpr h56) Tryz.func56 (by kernel_rfl) (by kernel_rfl) (by kernel_rfl) (by kernel_rfl) ⟨fun _ => ok55, fun _ => ok58, fun _ => ok94x, trivial⟩ trivial
theorem h25 : vc25 := fun _ hok hl => ⟨fun _ => hok, fun _ => hl, fun _ => hok, fun _ => mir_ok hok, fun _ => hl, rfl⟩
theorem ok25 : FnOK PR 25 sp25 := mkFn (vc25_eq.mpr h25) Tryz.func25 (by kernel_rfl) (by kernel_rfl) (by kernel_rfl) (by kernel_rfl) ⟨fun _ => ok29, fun _ => ok56, trivial⟩ trivial

theorem findTo_succ (l : List ED) (s : SnD) (n : Nat) : U.findTo l s (n + 1) = U.findTo l s n ++ (if l.any (U.hit s (n : Int)) = true then [(n : Int)] else []) := by
  unfold U.findTo
  rw [List.range_succ, List.filter_append, List.map_append]
  congr 1
  cases h : l.any (U.hit s (n : Int)) <;> simp [List.filter, h]
theorem findTo_len (l : List ED) (s : SnD) : ∀ n, (U.findTo l s n).length ≤ n
  | 0 => by simp [U.findTo]
  | n + 1 => by
    have := findTo_len l s n
    rw [findTo_succ, List.length_append]
    split <;> simp <;> omega
theorem h53 : vc53 := by
  rintro ⟨l, s, ⟨⟩⟩ hok hlost
  have hok : ∀ x, x ∈ l → U.okForm (U.fm x) = true := hok
  refine ⟨⟨0, ⟨⟨rfl, trivial, trivial⟩, rfl, trivial⟩, by omega⟩, fun n hn => ⟨fun h => ⟨⟨0, ⟨⟨rfl, rfl, trivial⟩, trivial⟩, Nat.zero_le _⟩, fun i hi hl => ⟨fun h2 => ?_, fun h2 => ?_⟩⟩, fun h => ?_⟩⟩
  · have h2 : i < l.length := by simpa using h2
    have hi : i ≤ l.length := hi
    have hl : l.length < 4611686018427387904 := hl
    simp only [Int.toNat_natCast] at *
    have hm := hok _ (L.mem_nth h2)
    refine ⟨fun _ => by omega, fun _ => by omega, fun _ => by omega, fun _ => by omega, fun _ => hm, fun _ => hlost, L.in64 (by omega) (by omega), i + 1, ⟨⟨by simp, ?_, trivial⟩, trivial⟩, h2, by omega⟩
    rw [any_take h2]; rfl
  · have h : (n : Int) ≤ 999 := of_decide_eq_true h
    have h2 : l.length ≤ i := by simpa using h2
    have hlen := findTo_len l s n
    have et : l.take i = l := List.take_of_length_le h2
    rw [et]
    refine ⟨fun h3 => ⟨?_, L.in64 (by omega) (by omega), n + 1, ⟨⟨by simp, trivial, trivial⟩, ?_, trivial⟩, by omega, by omega⟩, fun h3 => ⟨L.in64 (by omega) (by omega), n + 1, ⟨⟨trivial, by simp, trivial⟩, ?_, trivial⟩, by omega, by omega⟩⟩
    · simp only [List.length_cons, List.length_nil]
      show ((U.findTo l s n).length + 1) * 8 ≤ 140737488355328
      omega
    · rw [findTo_succ, if_pos h3]
    · rw [findTo_succ, if_neg (by rw [h3]; simp), List.append_nil]
  · have h : ¬ (n : Int) ≤ 999 := of_decide_eq_false h
    have e : n = 1000 := by omega
    subst e
    rfl
theorem ok53 : FnOK PR 53 sp53 := mkFn (vc53_eq.mpr h53) Tryz.func53 (by kernel_rfl) (by kernel_rfl) (by kernel_rfl) (by kernel_rfl) ⟨fun _ => ok25, trivial⟩ trivial

theorem h52 : vc52 := by
  intro d
  unfold U.lookR
  refine ⟨fun h => by rw [if_pos (of_decide_eq_true h)], fun h => ⟨fun h2 => by rw [if_neg (of_decide_eq_false h), if_pos (by simpa using h2)], fun h2 => by rw [if_neg (of_decide_eq_false h), if_neg (by simpa using h2)]⟩⟩
theorem ok52 : FnOK PR 52 sp52 := mkFn (vc52_eq.mpr h52) Tryz.func52 (by kernel_rfl) (by kernel_rfl) (by kernel_rfl) (by kernel_rfl) ⟨fun _ => ok24, fun _ => ok28, trivial⟩ trivial
theorem lookR_zero {l : List ED} {s : SnD} (h : U.lookR l s = 0) : U.chk l = 0 ∧ U.okS s = true := by
  unfold U.lookR at h
  split at h
  · rename_i h2; exact absurd h h2
  · rename_i h2
    split at h
    · cases h
    · rename_i h3
      exact ⟨Classical.not_not.1 h2, by simpa using h3⟩
theorem okS_lost {s : SnD} (h : U.okS s = true) : U.lost s ≤ 1000 := by
  unfold U.okS at h
  simp only [Bool.and_eq_true, decide_eq_true_eq] at h
  omega
theorem h19 : vc19 := by
  intro d
  unfold U.fndR
  refine ⟨fun h => by rw [if_pos (of_decide_eq_true h)], fun h => ?_⟩
  obtain ⟨h1, h2⟩ := lookR_zero (Classical.not_not.1 (of_decide_eq_false h))
  exact ⟨(chk_form h1).2, okS_lost h2, by rw [if_neg (of_decide_eq_false h)]⟩
theorem ok19 : FnOK PR 19 sp19 := mkFn (vc19_eq.mpr h19) Tryz.func19 (by kernel_rfl) (by kernel_rfl) (by kernel_rfl) (by kernel_rfl) ⟨fun _ => ok52, fun _ => ok53, trivial⟩ trivial

theorem ansTo_succ (s : SnD) (p : Int) (k : Nat) : U.ansTo s p (k + 1) = U.ansTo s p k ++ U.ansAt s p ((k : Int) - 3) := by
  unfold U.ansTo
  rw [List.range_succ, List.flatMap_append]; simp
theorem ansAt_len (s : SnD) (p n : Int) : (U.ansAt s p n).length ≤ 1 := by
  unfold U.ansAt
  repeat' split
  all_goals simp
theorem ansTo_len (s : SnD) (p : Int) : ∀ k, (U.ansTo s p k).length ≤ k
  | 0 => by simp [U.ansTo]
  | k + 1 => by
    have h1 := ansTo_len s p k
    have h2 := ansAt_len s p ((k : Int) - 3)
    rw [ansTo_succ, List.length_append]; omega

theorem two_pow {k : Nat} (hk : k ≤ 35) : (0 : Int) ≤ max 0 ((k : Int) - 3) ∧ max 0 ((k : Int) - 3) ≤ 64 ∧ In64 (1 * 2 ^ (max (0 : Int) ((k : Int) - 3)).toNat) ∧ (1 : Int) * 2 ^ (max (0 : Int) ((k : Int) - 3)).toNat = 2 ^ (max (0 : Int) ((k : Int) - 3)).toNat := by
  have h1 : (max (0 : Int) ((k : Int) - 3)).toNat ≤ 32 := by omega
  generalize (max (0 : Int) ((k : Int) - 3)).toNat = e at *
  have h2 : (2 : Nat) ^ e ≤ 2 ^ 32 := Nat.pow_le_pow_right (by decide) h1
  have h3 : ((2 : Int) ^ e) = ((2 ^ e : Nat) : Int) := by simp
  refine ⟨by omega, by omega, ?_, by rw [Int.one_mul]⟩
  rw [Int.one_mul, h3]
  generalize (2 : Nat) ^ e = m at h2
  unfold In64
  omega

theorem ans_block {s : SnD} {p : Int} {x : Nat} (hx : x ≤ 35) {c : Bool} {y : SnD} (h1 : c = true → U.ansAt s p ((x : Int) - 3) = [y]) (h0 : c = false → U.ansAt s p ((x : Int) - 3) = []) :
    (c = true → ((U.ansTo s p x).length + [y].length) * 112 ≤ 140737488355328 ∧ In64 ((x : Int) - 3 + 1) ∧ ∃ x' : Nat, (((x : Int) - 3 + 1 = (x' : Int) - 3 ∧ True ∧ True) ∧ U.ansTo s p x ++ [y] = U.ansTo s p x' ∧ True) ∧ x' ≤ 36 ∧ 36 - x' < 36 - x) ∧
    (c = false → In64 ((x : Int) - 3 + 1) ∧ ∃ x' : Nat, ((True ∧ (x : Int) - 3 + 1 = (x' : Int) - 3 ∧ True) ∧ U.ansTo s p x = U.ansTo s p x' ∧ True) ∧ x' ≤ 36 ∧ 36 - x' < 36 - x) := by
  have hlen := ansTo_len s p x
  refine ⟨fun hc => ⟨?_, by unfold In64; omega, x + 1, ⟨⟨by omega, trivial, trivial⟩, ?_, trivial⟩, by omega, by omega⟩, fun hc => ⟨by unfold In64; omega, x + 1, ⟨⟨trivial, by omega, trivial⟩, ?_, trivial⟩, by omega, by omega⟩⟩
  · simp only [List.length_cons, List.length_nil]; omega
  · rw [ansTo_succ, h1 hc]
  · rw [ansTo_succ, h0 hc, List.append_nil]

theorem h30 : vc30 := by
  intro d
  have ne : ∀ {n : Int}, decide (d.2.1 = n) = false → ¬ d.2.1 = n := fun h => of_decide_eq_false h
  refine ⟨⟨0, ⟨⟨by decide, trivial, trivial⟩, rfl, trivial⟩, by omega⟩, fun x hx => ⟨fun h => ?_, fun h => ?_⟩⟩
  · have h : (x : Int) - 3 ≤ 32 := of_decide_eq_true h
    have hx35 : x ≤ 35 := by omega
    obtain ⟨t1, t2, t3, t4⟩ := two_pow hx35
    refine ⟨fun h0 => ⟨t1, by omega, t1, t2, t3, ?_⟩, fun h0 => ⟨fun h1 => ⟨t1, by omega, t1, t2, t3, ?_⟩, fun h1 => ⟨fun h2 => ?_, fun h2 => ⟨fun h3 => ?_, fun h3 => ⟨fun h4 => ⟨t1, by omega, t1, t2, t3, ?_⟩, fun h4 => ?_⟩⟩⟩⟩⟩
    · refine ans_block (y := U.setRt d.1 (1 * 2 ^ (max (0 : Int) ((x : Int) - 3)).toNat)) hx35 (fun hc => ?_) (fun hc => ?_)
      · have hc : U.has (U.rights d.1) ((x : Int) - 3) = true := hc
        unfold U.ansAt; rw [if_pos (of_decide_eq_true h0), if_pos hc, t4]
      · have hc : U.has (U.rights d.1) ((x : Int) - 3) = false := hc
        unfold U.ansAt; rw [if_pos (of_decide_eq_true h0), if_neg (by rw [hc]; simp)]
    · refine ans_block (y := U.setLf d.1 (1 * 2 ^ (max (0 : Int) ((x : Int) - 3)).toNat)) hx35 (fun hc => ?_) (fun hc => ?_)
      · have hc : U.has (U.lefts d.1) ((x : Int) - 3) = true := hc
        unfold U.ansAt; rw [if_neg (ne h0), if_pos (of_decide_eq_true h1), if_pos hc, t4]
      · have hc : U.has (U.lefts d.1) ((x : Int) - 3) = false := hc
        unfold U.ansAt; rw [if_neg (ne h0), if_pos (of_decide_eq_true h1), if_neg (by rw [hc]; simp)]
    · refine ans_block (y := U.setRw d.1 ((x : Int) - 3, (x : Int) - 3, ())) hx35 (fun hc => ?_) (fun hc => ?_)
      · have hc : U.within ((x : Int) - 3) (max 0 (U.lo (U.rows d.1))) (min 5 (U.hi (U.rows d.1))) = true := hc
        unfold U.ansAt; rw [if_neg (ne h0), if_neg (ne h1), if_pos (of_decide_eq_true h2), if_pos hc]
      · have hc : U.within ((x : Int) - 3) (max 0 (U.lo (U.rows d.1))) (min 5 (U.hi (U.rows d.1))) = false := hc
        unfold U.ansAt; rw [if_neg (ne h0), if_neg (ne h1), if_pos (of_decide_eq_true h2), if_neg (by rw [hc]; simp)]
    · refine ans_block (y := U.setCo d.1 ((x : Int) - 3, (x : Int) - 3, ())) hx35 (fun hc => ?_) (fun hc => ?_)
      · have hc : U.within ((x : Int) - 3) (U.lo (U.cols d.1)) (min 3 (U.hi (U.cols d.1))) = true := hc
        unfold U.ansAt; rw [if_neg (ne h0), if_neg (ne h1), if_neg (ne h2), if_pos (of_decide_eq_true h3), if_pos hc]
      · have hc : U.within ((x : Int) - 3) (U.lo (U.cols d.1)) (min 3 (U.hi (U.cols d.1))) = false := hc
        unfold U.ansAt; rw [if_neg (ne h0), if_neg (ne h1), if_neg (ne h2), if_pos (of_decide_eq_true h3), if_neg (by rw [hc]; simp)]
    · refine ans_block (y := U.setFc d.1 (1 * 2 ^ (max (0 : Int) ((x : Int) - 3)).toNat)) hx35 (fun hc => ?_) (fun hc => ?_)
      · have hc : U.has (U.faces d.1) ((x : Int) - 3) = true := hc
        unfold U.ansAt; rw [if_neg (ne h0), if_neg (ne h1), if_neg (ne h2), if_neg (ne h3), if_pos (of_decide_eq_true h4), if_pos hc, t4]
      · have hc : U.has (U.faces d.1) ((x : Int) - 3) = false := hc
        unfold U.ansAt; rw [if_neg (ne h0), if_neg (ne h1), if_neg (ne h2), if_neg (ne h3), if_pos (of_decide_eq_true h4), if_neg (by rw [hc]; simp)]
    · refine ans_block (c := false) (y := d.1) hx35 (fun hc => by cases hc) (fun _ => ?_)
      unfold U.ansAt; rw [if_neg (ne h0), if_neg (ne h1), if_neg (ne h2), if_neg (ne h3), if_neg (ne h4)]
  · have h : ¬ (x : Int) - 3 ≤ 32 := of_decide_eq_false h
    have e : x = 36 := by omega
    subst e
    rfl
theorem ok30 : FnOK PR 30 sp30 := mkFn (vc30_eq.mpr h30) Tryz.func30 (by kernel_rfl) (by kernel_rfl) (by kernel_rfl) (by kernel_rfl) ⟨fun _ => ok55, fun _ => ok58, trivial⟩ trivial

theorem ansAt_lost {s : SnD} {p n : Int} {o : SnD} (h : o ∈ U.ansAt s p n) : U.lost o = U.lost s := by
  unfold U.ansAt at h
  repeat' split at h
  all_goals first
    | (simp at h; done)
    | (simp at h; subst h; rfl)
theorem answersR_lost {s : SnD} {p : Int} {o : SnD} (h : o ∈ U.answersR s p) : U.lost o = U.lost s := by
  unfold U.answersR U.ansTo at h
  obtain ⟨i, _, hi⟩ := List.mem_flatMap.1 h
  exact ansAt_lost hi
theorem numsR_snoc (l : List ED) (o : List SnD) (x : SnD) : U.numsR l (o ++ [x]) = U.numsR l o ++ [((U.findR l x).length : Int)] := by unfold U.numsR; simp
theorem topOf_snoc (l : List Int) (n : Int) : U.topOf (l ++ [n]) = max (U.topOf l) n := by unfold U.topOf; rw [List.foldl_append]; rfl

instance : Inhabited SnD := ⟨(0, 0, 0, 0, 0, (0, 0, ()), (0, 0, ()), (0, 0, ()), [], ())⟩
theorem h21 : vc21 := by
  intro d
  refine ⟨fun h => by unfold U.askR; rw [if_pos (of_decide_eq_true h)], fun h => ?_⟩
  have n1 := of_decide_eq_false h
  obtain ⟨h1, h2⟩ := lookR_zero (Classical.not_not.1 n1)
  have hf := (chk_form h1).2
  refine ⟨hf, okS_lost h2, fun _ => ⟨fun h3 => ?_, fun h3 => ⟨⟨0, ⟨⟨rfl, rfl, rfl, trivial⟩, trivial⟩, by omega⟩, fun p hp => ⟨fun h4 => ⟨⟨0, ⟨⟨rfl, rfl, trivial⟩, trivial⟩, Nat.zero_le _⟩, fun i hi hl => ⟨fun h5 => ?_, fun h5 => ?_⟩⟩, fun h4 => ?_⟩⟩⟩⟩
  · have h3 : ((U.findR d.1 d.2.1).length : Int) = 0 := of_decide_eq_true h3
    unfold U.askR
    rw [if_neg n1, if_pos (List.eq_nil_of_length_eq_zero (by omega))]
  · have h5 : i < (U.answersR d.2.1 (p : Int)).length := by simpa using h5
    simp only [Int.toNat_natCast]
    have hmem := L.mem_nth h5
    refine ⟨by omega, by omega, hf, ?_, fun _ => ⟨L.in64 (by omega) (by omega), i + 1, ⟨⟨by simp, ?_, trivial⟩, trivial⟩, h5, by omega⟩⟩
    · rw [answersR_lost hmem]; exact okS_lost h2
    · rw [L.take_succ h5, numsR_snoc, topOf_snoc]
  · have h4 : (p : Int) < 5 := of_decide_eq_true h4
    have h5 : (U.answersR d.2.1 (p : Int)).length ≤ i := by simpa using h5
    have et : U.topOf (U.numsR d.1 ((U.answersR d.2.1 (p : Int)).take i)) = U.mostR d.1 d.2.1 (p : Int) := by
      rw [List.take_of_length_le h5]; rfl
    rw [et]
    refine ⟨fun h6 => ⟨L.in64 (by omega) (by omega), p + 1, ⟨⟨by simp, ?_, ?_, trivial⟩, trivial⟩, by omega, by omega⟩, fun h6 => ⟨L.in64 (by omega) (by omega), p + 1, ⟨⟨?_, ?_, by simp, trivial⟩, trivial⟩, by omega, by omega⟩⟩
    · conv => rhs; unfold U.bestR
      rw [if_pos h6]
    · conv => rhs; unfold U.bestR
      rw [if_pos h6]
    · conv => rhs; unfold U.bestR
      rw [if_neg (by rw [h6]; simp)]
    · conv => rhs; unfold U.bestR
      rw [if_neg (by rw [h6]; simp)]
  · have h4 : ¬ (p : Int) < 5 := of_decide_eq_false h4
    have e : p = 5 := by omega
    subst e
    have h3 : ¬ ((U.findR d.1 d.2.1).length : Int) = 0 := of_decide_eq_false h3
    unfold U.askR
    rw [if_neg n1, if_neg (fun e => h3 (by rw [e]; rfl))]
theorem ok21 : FnOK PR 21 sp21 := mkFn (vc21_eq.mpr h21) Tryz.func21 (by kernel_rfl) (by kernel_rfl) (by kernel_rfl) (by kernel_rfl) ⟨fun _ => ok30, fun _ => ok52, fun _ => ok53, trivial⟩ trivial

theorem h75 : vc75 := fun _ h1 h2 => ⟨h1, h2, canR_ok h1, canR_ok h2, rfl⟩
theorem ok75 : FnOK PR 75 sp75 := mkFn (vc75_eq.mpr h75) Tryz.func75 (by kernel_rfl) (by kernel_rfl) (by kernel_rfl) (by kernel_rfl) ⟨fun _ => ok78, fun _ => ok79, trivial⟩ trivial

theorem signsTo_succ (l : List ED) (n : Nat) : U.signsTo l (n + 1) = U.signsTo l n ++ (if l.any (U.isSg (n : Int)) = true then [(n : Int)] else []) := by
  unfold U.signsTo
  rw [List.range_succ, List.filter_append, List.map_append]
  congr 1
  cases h : l.any (U.isSg (n : Int)) <;> simp [List.filter, h]
theorem signsTo_len (l : List ED) : ∀ n, (U.signsTo l n).length ≤ n
  | 0 => by simp [U.signsTo]
  | n + 1 => by
    have := signsTo_len l n
    rw [signsTo_succ, List.length_append]
    split <;> simp <;> omega
theorem h74 : vc74 := by
  rintro ⟨l, ⟨⟩⟩
  refine ⟨⟨0, ⟨⟨rfl, trivial, trivial⟩, rfl, trivial⟩, by omega⟩, fun n hn => ⟨fun h => ⟨⟨0, ⟨⟨rfl, trivial, trivial⟩, rfl, trivial⟩, Nat.zero_le _, by simp⟩, fun i hi hl => ⟨fun h2 => ?_, fun h2 => ?_⟩⟩, fun h => ?_⟩⟩
  · have h : (n : Int) ≤ 999 := of_decide_eq_true h
    have h2 : i < l.length := by simpa using h2
    have hl : l.length < 4611686018427387904 := hl
    obtain ⟨i1, i2⟩ := hi
    have hlen := signsTo_len l n
    simp only [Int.toNat_natCast] at *
    refine ⟨by omega, by omega, fun h3 => ⟨?_, L.in64 (by omega) (by omega), n + 1, ⟨⟨by simp, trivial, trivial⟩, ?_, trivial⟩, by omega, by omega⟩, fun h3 => ⟨L.in64 (by omega) (by omega), i + 1, ⟨⟨trivial, by simp, trivial⟩, trivial, trivial⟩, ⟨h2, ?_⟩, by omega⟩⟩
    · simp only [List.length_cons, List.length_nil]; omega
    · have h3 : U.isSg (n : Int) (nth l i) = true := h3
      rw [signsTo_succ, if_pos (List.any_eq_true.2 ⟨_, L.mem_nth h2, h3⟩)]
    · have h3 : U.isSg (n : Int) (nth l i) = false := h3
      rw [any_take h2, i2, h3]; rfl
  · have h : (n : Int) ≤ 999 := of_decide_eq_true h
    have h2 : l.length ≤ i := by simpa using h2
    obtain ⟨i1, i2⟩ := hi
    rw [List.take_of_length_le h2] at i2
    refine ⟨L.in64 (by omega) (by omega), n + 1, ⟨⟨by simp, trivial, trivial⟩, ?_, trivial⟩, by omega, by omega⟩
    rw [signsTo_succ, if_neg (by rw [i2]; simp), List.append_nil]
  · have h : ¬ (n : Int) ≤ 999 := of_decide_eq_false h
    have e : n = 1000 := by omega
    subst e
    rfl
theorem ok74 : FnOK PR 74 sp74 := mkFn (vc74_eq.mpr h74) Tryz.func74 (by kernel_rfl) (by kernel_rfl) (by kernel_rfl) (by kernel_rfl) trivial trivial

theorem twTo_succ {l : List ED} {a b : Int} {m : Nat} (h : m < l.length) : U.twTo l a b (m + 1) = (U.twTo l a b m || U.twRow l a b (nth l m)) := by
  unfold U.twTo; exact any_take h
theorem rowTo_succ (l : List ED) (all : List Int) (i k : Nat) : U.rowTo l all i (k + 1) = U.rowTo l all i k ++ (if (decide (i < k) && U.twTo l (nth all i) (nth all k) l.length) = true then [(nth all i, nth all k, ())] else []) := by
  unfold U.rowTo
  rw [List.range_succ, List.filter_append, List.map_append]
  congr 1
  cases h : (decide (i < k) && U.twTo l (nth all i) (nth all k) l.length) <;> simp [List.filter, h]
theorem rowTo_len (l : List ED) (all : List Int) (i : Nat) : ∀ k, (U.rowTo l all i k).length ≤ k
  | 0 => by simp [U.rowTo]
  | k + 1 => by
    have := rowTo_len l all i k
    rw [rowTo_succ, List.length_append]
    split <;> simp <;> omega
theorem rowTo_nil (l : List ED) (all : List Int) (i : Nat) : ∀ k, k ≤ i + 1 → U.rowTo l all i k = []
  | 0, _ => rfl
  | k + 1, h => by
    rw [rowTo_succ, rowTo_nil l all i k (by omega), if_neg (by simp; omega)]; rfl
theorem rowsTo_succ (l : List ED) (all : List Int) (i : Nat) : U.rowsTo l all (i + 1) = U.rowsTo l all i ++ U.rowTo l all i all.length := by
  unfold U.rowsTo
  rw [List.range_succ, List.flatMap_append]; simp
theorem rowsTo_len (l : List ED) (all : List Int) : ∀ i, (U.rowsTo l all i).length ≤ i * all.length
  | 0 => by simp [U.rowsTo]
  | i + 1 => by
    have h1 := rowsTo_len l all i
    have h2 := rowTo_len l all i all.length
    rw [rowsTo_succ, List.length_append, Nat.succ_mul]; omega

theorem h35 : vc35 := by
  intro d
  refine ⟨fun h => by unfold U.twnR; rw [if_pos (of_decide_eq_true h)], fun h => ?_⟩
  have n1 := of_decide_eq_false h
  obtain ⟨l40, hok⟩ := chk_form (Classical.not_not.1 n1)
  have hall : (U.signsR d.1).length ≤ 1000 := signsTo_len d.1 1000
  obtain ⟨all, hA⟩ : ∃ all, all = U.signsR d.1 := ⟨_, rfl⟩
  have htw : U.twnR d.1 = (U.rowsTo d.1 all all.length, 0, ()) := by unfold U.twnR; rw [if_neg n1, hA]
  rw [htw]
  rw [← hA] at hall ⊢
  refine ⟨⟨0, ⟨⟨rfl, trivial, trivial⟩, rfl, trivial⟩, Nat.zero_le _⟩, fun i hi _ => ⟨fun h1 => ⟨by unfold In64; omega, ⟨i + 1, ⟨⟨by simp, trivial, trivial⟩, ?_, trivial⟩, ?_, ?_⟩, fun k hk _ => ⟨fun h2 => ⟨⟨0, ⟨⟨rfl, rfl, trivial⟩, trivial⟩, Nat.zero_le _⟩, fun m hm _ => ⟨fun h3 => ⟨⟨0, ⟨⟨rfl, by simp, trivial⟩, trivial⟩, Nat.zero_le _⟩, fun n hn _ => ⟨fun h4 => ?_, fun h4 => ?_⟩⟩, fun h3 => ?_⟩⟩, fun h2 => ?_⟩⟩, fun h1 => ?_⟩⟩
  · rw [Int.toNat_natCast, rowTo_nil _ _ _ _ (Nat.le_refl _), List.append_nil]
  · rw [Int.toNat_natCast]; omega
  · have h1 : (i : Int) < (all.length : Int) := of_decide_eq_true h1
    omega
  · have h1 : (i : Int) < (all.length : Int) := of_decide_eq_true h1
    have h2 : (k : Int) < (all.length : Int) := of_decide_eq_true h2
    have h3 : (m : Int) < (d.1.length : Int) := of_decide_eq_true h3
    have h4 : (n : Int) < (d.1.length : Int) := of_decide_eq_true h4
    simp only [Int.toNat_natCast]
    have hm' := hok _ (L.mem_nth (by omega : m < d.1.length))
    have hn' := hok _ (L.mem_nth (by omega : n < d.1.length))
    refine ⟨fun _ => by omega, fun _ => h3, fun _ => by omega, fun _ => h1, fun _ => by omega, fun _ => h4, fun _ => by omega, fun _ => h2, fun _ => by omega, fun _ => h3, fun _ => by omega, fun _ => h4, fun _ => hm', fun _ => hn', L.in64 (by omega) (by omega), n + 1, ⟨⟨by simp, ?_, trivial⟩, trivial⟩, by omega, by omega⟩
    rw [any_take (by omega : n < d.1.length), Bool.or_assoc]
    rfl
  · have h3 : (m : Int) < (d.1.length : Int) := of_decide_eq_true h3
    have h4 : ¬ (n : Int) < (d.1.length : Int) := of_decide_eq_false h4
    refine ⟨L.in64 (by omega) (by omega), m + 1, ⟨⟨by simp, ?_, trivial⟩, trivial⟩, by omega, by omega⟩
    rw [twTo_succ (by omega : m < d.1.length), Int.toNat_natCast, Int.toNat_natCast, Int.toNat_natCast, List.take_of_length_le (by omega : d.1.length ≤ n)]
    rfl
  · have h1 : (i : Int) < (all.length : Int) := of_decide_eq_true h1
    have h2 : (k : Int) < (all.length : Int) := of_decide_eq_true h2
    have h3 : ¬ (m : Int) < (d.1.length : Int) := of_decide_eq_false h3
    have em : m = d.1.length := by omega
    obtain ⟨k1, k2⟩ := hk
    subst em
    simp only [Int.toNat_natCast] at *
    have hlen1 := rowsTo_len d.1 all i
    have hlen2 := rowTo_len d.1 all i k
    have hlen3 : i * all.length ≤ 1000 * 1000 := Nat.mul_le_mul (by omega) hall
    refine ⟨fun h5 => ⟨by omega, h1, by omega, h2, ?_, L.in64 (by omega) (by omega), k + 1, ⟨⟨by simp, trivial, trivial⟩, ?_, trivial⟩, ⟨by omega, by omega⟩, by omega⟩, fun h5 => ⟨L.in64 (by omega) (by omega), k + 1, ⟨⟨trivial, by simp, trivial⟩, ?_, trivial⟩, ⟨by omega, by omega⟩, by omega⟩⟩
    · simp only [List.length_append, List.length_cons, List.length_nil]; omega
    · rw [rowTo_succ, if_pos (by rw [h5, decide_eq_true k1]; rfl), List.append_assoc]
    · rw [rowTo_succ, if_neg (by rw [h5]; simp), List.append_nil]
  · have h1 : (i : Int) < (all.length : Int) := of_decide_eq_true h1
    have h2 : ¬ (k : Int) < (all.length : Int) := of_decide_eq_false h2
    have ek : k = all.length := by omega
    subst ek
    refine ⟨L.in64 (by omega) (by omega), i + 1, ⟨⟨by simp, trivial, trivial⟩, ?_, trivial⟩, by omega, by omega⟩
    rw [rowsTo_succ, Int.toNat_natCast]
  · have h1 : ¬ (i : Int) < (all.length : Int) := of_decide_eq_false h1
    have e : i = all.length := by omega
    subst e
    rfl
theorem ok35 : FnOK PR 35 sp35 := mkFn (vc35_eq.mpr h35) Tryz.func35 (by kernel_rfl) (by kernel_rfl) (by kernel_rfl) (by kernel_rfl) ⟨fun _ => ok28, fun _ => ok74, fun _ => ok75, trivial⟩ trivial

theorem h16 : vc16 := by
  rintro ⟨l, ⟨⟩⟩ h1000 hmv
  have h1000 : l.length ≤ 1000 := h1000
  have hmv : ∀ x, x ∈ l → (U.mv (U.fm x)).length ≤ 1000 := hmv
  refine ⟨⟨0, ⟨⟨rfl, trivial, trivial⟩, rfl, trivial⟩, Nat.zero_le _⟩, fun i hi hl => ⟨fun h => ?_, fun h => ?_⟩⟩
  · have h : i < l.length := by simpa using h
    simp only [Int.toNat_natCast]
    refine ⟨by omega, by omega, hmv _ (L.mem_nth h), ?_, L.in64 (by omega) (by omega), i + 1, ⟨⟨by simp, trivial, trivial⟩, (L.take_succ h).symm, trivial⟩, h, by omega⟩
    simp only [List.length_take, List.length_cons, List.length_nil]; omega
  · have h : l.length ≤ i := by simpa using h
    rw [List.take_of_length_le h]
theorem ok16 : FnOK PR 16 sp16 := mkFn (vc16_eq.mpr h16) Tryz.func16 (by kernel_rfl) (by kernel_rfl) (by kernel_rfl) (by kernel_rfl) ⟨fun _ => ok39, trivial⟩ trivial
theorem h17 : vc17 := by
  intro d h
  refine ⟨?_, rfl⟩
  have : (U.mvs d.1).length = d.fst.snd.snd.snd.snd.snd.snd.snd.snd.fst.length := rfl
  omega
theorem ok17 : FnOK PR 17 sp17 := mkFn (vc17_eq.mpr h17) Tryz.func17 (by kernel_rfl) (by kernel_rfl) (by kernel_rfl) (by kernel_rfl) trivial trivial

end Go.X
