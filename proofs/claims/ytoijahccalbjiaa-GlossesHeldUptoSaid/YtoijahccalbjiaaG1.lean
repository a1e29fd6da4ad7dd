/-
  Plain facts on lists and numbers.
-/
import Derived.Test.YtoijahccalbjiaaK1
import Derived.Test.YtoijahccalbjiaaK6
namespace Go.X
namespace L

theorem nth_lt {α : Type} [Inhabited α] {l : List α} {i : Nat} (h : i < l.length) : nth l i = l[i] := by
  unfold nth; simp [h]

theorem take_succ {α : Type} [Inhabited α] {l : List α} {i : Nat} (h : i < l.length) : l.take (i + 1) = l.take i ++ [nth l i] := by
  rw [nth_lt h]; exact List.take_succ_eq_append_getElem h

theorem mem_nth {α : Type} [Inhabited α] {l : List α} {i : Nat} (h : i < l.length) : nth l i ∈ l := by
  rw [nth_lt h]; exact List.getElem_mem h

theorem mem_iff {α : Type} [Inhabited α] {l : List α} {x : α} : x ∈ l ↔ ∃ i, i < l.length ∧ nth l i = x := by
  constructor
  · intro h
    obtain ⟨i, hi, e⟩ := List.getElem_of_mem h
    exact ⟨i, hi, by rw [nth_lt hi, e]⟩
  · rintro ⟨i, hi, rfl⟩; exact mem_nth hi

theorem all_take {α : Type} [Inhabited α] {l : List α} {i : Nat} {p : α → Bool} (h : i < l.length) (h1 : (l.take i).all p = true) (h2 : p (nth l i) = true) : (l.take (i + 1)).all p = true := by
  rw [take_succ h, List.all_append, h1]; simp [h2]

theorem all_of_take {α : Type} {l : List α} {i : Nat} {p : α → Bool} (h : l.length ≤ i) (h1 : (l.take i).all p = true) : l.all p = true := by
  rwa [List.take_of_length_le h] at h1

theorem all_false {α : Type} [Inhabited α] {l : List α} {i : Nat} {p : α → Bool} (h : i < l.length) (h2 : p (nth l i) = false) : l.all p = false := by
  rw [List.all_eq_false]; exact ⟨nth l i, mem_nth h, by simp [h2]⟩

theorem in64 {x : Int} (h1 : -9223372036854775808 ≤ x) (h2 : x ≤ 9223372036854775807) : In64 x := ⟨h1, h2⟩

theorem exN {Q : Nat → Prop} {k : Int} {n : Nat} (h : k = (n : Int)) (hq : Q n) : ∃ x' : Nat, (((k = (x' : Int)) ∧ True) ∧ True) ∧ Q x' := ⟨n, ⟨⟨h, trivial⟩, trivial⟩, hq⟩

end L
end Go.X
/-
  What the functions of the specification of layer 2 are asked to return (1).
-/
namespace Go.X
open Go.Proofs

abbrev tG : Ty := .st [.int, .int, .int, .int, .int, .int]
abbrev tF : Ty := .st [.slice .int, .int]
abbrev GD : Type := Int × Int × Int × Int × Int × Int × Unit
abbrev FD : Type := List Int × Int × Unit

namespace U
def au (g : GD) : Int := g.1
def st (g : GD) : Int := g.2.1
def fi (g : GD) : Int := g.2.2.1
def fr (g : GD) : Int := g.2.2.2.1
def to (g : GD) : Int := g.2.2.2.2.1
def sg (g : GD) : Int := g.2.2.2.2.2.1

def okFilms (f : FD) : Bool := f.1.all (fun n => decide (1 ≤ n ∧ n ≤ 200)) && decide (1 ≤ f.1.length ∧ f.1.length ≤ 4 ∧ 1 ≤ f.2.1 ∧ f.2.1 ≤ 10)
def okGloss (f : FD) (g : GD) : Bool := decide (0 ≤ au g ∧ au g ≤ 7 ∧ 0 ≤ st g ∧ st g ≤ 9999 ∧ 0 ≤ fi g ∧ fi g < f.1.length ∧ 0 ≤ fr g ∧ fr g < to g ∧ to g ≤ f.1.getD (fi g).toNat 0 ∧ 0 ≤ sg g ∧ sg g < 2 ^ f.2.1.toNat)
def clashB (a b : GD) : Bool := decide (au a = au b ∧ st a = st b ∧ a ≠ b)
def clash (l : List GD) : Bool := l.any fun a => l.any fun b => clashB a b
def check (f : FD) (l : List GD) : Int := if okFilms f = true then (if (l.all (okGloss f) && decide (l.length ≤ 40)) = true then (if clash l = true then 22 else 0) else 21) else 20
end U

def sp41 : Spec := ⟨[.val .int, .val .int, .val .int], [.bool], false, fun _ => [], fun d => (decide (d.2.1 ≤ d.1 ∧ d.1 ≤ d.2.2.1), ())⟩
def vc41 : Prop :=
  ∀ (d : Int × Int × Int × Unit), (decide (d.snd.fst ≤ d.fst) && decide (d.fst ≤ d.snd.snd.fst), ()) = (decide (d.snd.fst ≤ d.fst ∧ d.fst ≤ d.snd.snd.fst), ())

theorem vc41_eq : fnVC (ctx 15 [] []) (fun _ => none) Try.f41 (bodyOf Try.f41) sp41 = vc41 := by kernel_rfl


def sp63 : Spec := ⟨[.val tF], [.bool], false, fun _ => [], fun d => (U.okFilms d.1, ())⟩
def an63 : Ann := fun r => match r with
  | 2 => some fun σ => { X := Nat, sl := fun i => [(3, .dat .int (i : Int))], ob := fun _ => [], inv := fun i => i ≤ (gd tF σ 0).1.length ∧ ((gd tF σ 0).1.take i).all (fun n => decide (1 ≤ n ∧ n ≤ 200)) = true, mu := fun i => (gd tF σ 0).1.length - i }
  | _ => none
def vc63 : Prop :=
  ∀ (d : (List Int × Int × Unit) × Unit),
  (∃ (x : Nat), (((0 : Int) = (↑x : Int) ∧ True) ∧ True) ∧ x ≤ d.fst.fst.length ∧ ((List.take x d.fst.fst).all fun (n : Int) => decide ((1 : Int) ≤ n ∧ n ≤ (200 : Int))) = true) ∧
  ∀ (x : Nat),
  x ≤ d.fst.fst.length ∧ ((List.take x d.fst.fst).all fun (n : Int) => decide ((1 : Int) ≤ n ∧ n ≤ (200 : Int))) = true →
  d.fst.fst.length < (4611686018427387904 : Nat) →
  (decide ((↑x : Int) < (↑d.fst.fst.length : Int)) = true →
  (0 : Int) ≤ (↑x : Int) ∧
  (↑x : Int) < (↑d.fst.fst.length : Int) ∧
  ((!decide ((1 : Int) ≤ nth d.fst.fst (↑x : Int).toNat ∧ nth d.fst.fst (↑x : Int).toNat ≤ (200 : Int))) = true → (false, ()) = (U.okFilms d.fst, ())) ∧
  ((!decide ((1 : Int) ≤ nth d.fst.fst (↑x : Int).toNat ∧ nth d.fst.fst (↑x : Int).toNat ≤ (200 : Int))) = false →
  In64 ((↑x : Int) + (1 : Int)) ∧
  ∃ (x' : Nat),
  (((↑x : Int) + (1 : Int) = (↑x' : Int) ∧ True) ∧ True) ∧
  (x' ≤ d.fst.fst.length ∧ ((List.take x' d.fst.fst).all fun (n : Int) => decide ((1 : Int) ≤ n ∧ n ≤ (200 : Int))) = true) ∧ d.fst.fst.length - x' < d.fst.fst.length - x)) ∧
  (decide ((↑x : Int) < (↑d.fst.fst.length : Int)) = false →
  d.fst.fst.length < (4611686018427387904 : Nat) →
  (decide ((1 : Int) ≤ (↑d.fst.fst.length : Int) ∧ (↑d.fst.fst.length : Int) ≤ (4 : Int)) && decide ((1 : Int) ≤ d.fst.snd.fst ∧ d.fst.snd.fst ≤ (10 : Int)), ()) = (U.okFilms d.fst, ()))

theorem vc63_eq : fnVC (ctx 27 [(41, sp41)] []) (an63) Try.f63 (bodyOf Try.f63) sp63 = vc63 := by kernel_rfl


def sp64 : Spec := ⟨[.val tF, .val (.slice tG)], [.bool], false, fun d => [U.okFilms d.1 = true], fun d => (d.2.1.all (U.okGloss d.1) && decide (d.2.1.length ≤ 40), ())⟩
def an64 : Ann := fun r => match r with
  | 2 => some fun σ => { X := Nat, sl := fun i => [(5, .dat .int (i : Int))], ob := fun _ => [], inv := fun i => i ≤ (gd (.slice tG) σ 1).length ∧ ((gd (.slice tG) σ 1).take i).all (U.okGloss (gd tF σ 0)) = true, mu := fun i => (gd (.slice tG) σ 1).length - i }
  | _ => none
def vc64 : Prop :=
  ∀ (d : (List Int × Int × Unit) × List (Int × Int × Int × Int × Int × Int × Unit) × Unit),
  U.okFilms d.fst = true →
  (∃ (x : Nat), (((0 : Int) = (↑x : Int) ∧ True) ∧ True) ∧ x ≤ d.snd.fst.length ∧ (List.take x d.snd.fst).all (U.okGloss d.fst) = true) ∧
  ∀ (x : Nat),
  x ≤ d.snd.fst.length ∧ (List.take x d.snd.fst).all (U.okGloss d.fst) = true →
  d.snd.fst.length < (4611686018427387904 : Nat) →
  (decide ((↑x : Int) < (↑d.snd.fst.length : Int)) = true →
  (0 : Int) ≤ (↑x : Int) ∧
  (↑x : Int) < (↑d.snd.fst.length : Int) ∧
  ((!(!decide ((0 : Int) ≤ (nth d.snd.fst (↑x : Int).toNat).fst ∧ (nth d.snd.fst (↑x : Int).toNat).fst ≤ (7 : Int)) ||
  !decide ((0 : Int) ≤ (nth d.snd.fst (↑x : Int).toNat).snd.fst ∧ (nth d.snd.fst (↑x : Int).toNat).snd.fst ≤ (9999 : Int)))) =
  true →
  In64 ((↑d.fst.fst.length : Int) - (1 : Int))) ∧
  ((!(!decide ((0 : Int) ≤ (nth d.snd.fst (↑x : Int).toNat).fst ∧ (nth d.snd.fst (↑x : Int).toNat).fst ≤ (7 : Int)) ||
  !decide ((0 : Int) ≤ (nth d.snd.fst (↑x : Int).toNat).snd.fst ∧ (nth d.snd.fst (↑x : Int).toNat).snd.fst ≤ (9999 : Int)) ||
  !decide ((0 : Int) ≤ (nth d.snd.fst (↑x : Int).toNat).snd.snd.fst ∧ (nth d.snd.fst (↑x : Int).toNat).snd.snd.fst ≤ (↑d.fst.fst.length : Int) - (1 : Int)) ||
  decide ((nth d.snd.fst (↑x : Int).toNat).snd.snd.snd.fst < (0 : Int)) ||
  decide ((nth d.snd.fst (↑x : Int).toNat).snd.snd.snd.snd.fst ≤ (nth d.snd.fst (↑x : Int).toNat).snd.snd.snd.fst))) =
  true →
  (0 : Int) ≤ (nth d.snd.fst (↑x : Int).toNat).snd.snd.fst) ∧
  ((!(!decide ((0 : Int) ≤ (nth d.snd.fst (↑x : Int).toNat).fst ∧ (nth d.snd.fst (↑x : Int).toNat).fst ≤ (7 : Int)) ||
  !decide ((0 : Int) ≤ (nth d.snd.fst (↑x : Int).toNat).snd.fst ∧ (nth d.snd.fst (↑x : Int).toNat).snd.fst ≤ (9999 : Int)) ||
  !decide ((0 : Int) ≤ (nth d.snd.fst (↑x : Int).toNat).snd.snd.fst ∧ (nth d.snd.fst (↑x : Int).toNat).snd.snd.fst ≤ (↑d.fst.fst.length : Int) - (1 : Int)) ||
  decide ((nth d.snd.fst (↑x : Int).toNat).snd.snd.snd.fst < (0 : Int)) ||
  decide ((nth d.snd.fst (↑x : Int).toNat).snd.snd.snd.snd.fst ≤ (nth d.snd.fst (↑x : Int).toNat).snd.snd.snd.fst))) =
  true →
  (nth d.snd.fst (↑x : Int).toNat).snd.snd.fst < (↑d.fst.fst.length : Int)) ∧
  ((!(!decide ((0 : Int) ≤ (nth d.snd.fst (↑x : Int).toNat).fst ∧ (nth d.snd.fst (↑x : Int).toNat).fst ≤ (7 : Int)) ||
  !decide ((0 : Int) ≤ (nth d.snd.fst (↑x : Int).toNat).snd.fst ∧ (nth d.snd.fst (↑x : Int).toNat).snd.fst ≤ (9999 : Int)) ||
  !decide ((0 : Int) ≤ (nth d.snd.fst (↑x : Int).toNat).snd.snd.fst ∧ (nth d.snd.fst (↑x : Int).toNat).snd.snd.fst ≤ (↑d.fst.fst.length : Int) - (1 : Int)) ||
  decide ((nth d.snd.fst (↑x : Int).toNat).snd.snd.snd.fst < (0 : Int)) ||
  decide ((nth d.snd.fst (↑x : Int).toNat).snd.snd.snd.snd.fst ≤ (nth d.snd.fst (↑x : Int).toNat).snd.snd.snd.fst) ||
  decide (nth d.fst.fst (nth d.snd.fst (↑x : Int).toNat).snd.snd.fst.toNat < (nth d.snd.fst (↑x : Int).toNat).snd.snd.snd.snd.fst))) =
  true →
  (0 : Int) ≤ d.fst.snd.fst) ∧
  ((!(!decide ((0 : Int) ≤ (nth d.snd.fst (↑x : Int).toNat).fst ∧ (nth d.snd.fst (↑x : Int).toNat).fst ≤ (7 : Int)) ||
  !decide ((0 : Int) ≤ (nth d.snd.fst (↑x : Int).toNat).snd.fst ∧ (nth d.snd.fst (↑x : Int).toNat).snd.fst ≤ (9999 : Int)) ||
  !decide ((0 : Int) ≤ (nth d.snd.fst (↑x : Int).toNat).snd.snd.fst ∧ (nth d.snd.fst (↑x : Int).toNat).snd.snd.fst ≤ (↑d.fst.fst.length : Int) - (1 : Int)) ||
  decide ((nth d.snd.fst (↑x : Int).toNat).snd.snd.snd.fst < (0 : Int)) ||
  decide ((nth d.snd.fst (↑x : Int).toNat).snd.snd.snd.snd.fst ≤ (nth d.snd.fst (↑x : Int).toNat).snd.snd.snd.fst) ||
  decide (nth d.fst.fst (nth d.snd.fst (↑x : Int).toNat).snd.snd.fst.toNat < (nth d.snd.fst (↑x : Int).toNat).snd.snd.snd.snd.fst))) =
  true →
  d.fst.snd.fst ≤ (18446744073709551615 : Int)) ∧
  ((!(!decide ((0 : Int) ≤ (nth d.snd.fst (↑x : Int).toNat).fst ∧ (nth d.snd.fst (↑x : Int).toNat).fst ≤ (7 : Int)) ||
  !decide ((0 : Int) ≤ (nth d.snd.fst (↑x : Int).toNat).snd.fst ∧ (nth d.snd.fst (↑x : Int).toNat).snd.fst ≤ (9999 : Int)) ||
  !decide ((0 : Int) ≤ (nth d.snd.fst (↑x : Int).toNat).snd.snd.fst ∧ (nth d.snd.fst (↑x : Int).toNat).snd.snd.fst ≤ (↑d.fst.fst.length : Int) - (1 : Int)) ||
  decide ((nth d.snd.fst (↑x : Int).toNat).snd.snd.snd.fst < (0 : Int)) ||
  decide ((nth d.snd.fst (↑x : Int).toNat).snd.snd.snd.snd.fst ≤ (nth d.snd.fst (↑x : Int).toNat).snd.snd.snd.fst) ||
  decide (nth d.fst.fst (nth d.snd.fst (↑x : Int).toNat).snd.snd.fst.toNat < (nth d.snd.fst (↑x : Int).toNat).snd.snd.snd.snd.fst))) =
  true →
  (0 : Int) ≤ d.fst.snd.fst) ∧
  ((!(!decide ((0 : Int) ≤ (nth d.snd.fst (↑x : Int).toNat).fst ∧ (nth d.snd.fst (↑x : Int).toNat).fst ≤ (7 : Int)) ||
  !decide ((0 : Int) ≤ (nth d.snd.fst (↑x : Int).toNat).snd.fst ∧ (nth d.snd.fst (↑x : Int).toNat).snd.fst ≤ (9999 : Int)) ||
  !decide ((0 : Int) ≤ (nth d.snd.fst (↑x : Int).toNat).snd.snd.fst ∧ (nth d.snd.fst (↑x : Int).toNat).snd.snd.fst ≤ (↑d.fst.fst.length : Int) - (1 : Int)) ||
  decide ((nth d.snd.fst (↑x : Int).toNat).snd.snd.snd.fst < (0 : Int)) ||
  decide ((nth d.snd.fst (↑x : Int).toNat).snd.snd.snd.snd.fst ≤ (nth d.snd.fst (↑x : Int).toNat).snd.snd.snd.fst) ||
  decide (nth d.fst.fst (nth d.snd.fst (↑x : Int).toNat).snd.snd.fst.toNat < (nth d.snd.fst (↑x : Int).toNat).snd.snd.snd.snd.fst))) =
  true →
  d.fst.snd.fst ≤ (64 : Int)) ∧
  ((!(!decide ((0 : Int) ≤ (nth d.snd.fst (↑x : Int).toNat).fst ∧ (nth d.snd.fst (↑x : Int).toNat).fst ≤ (7 : Int)) ||
  !decide ((0 : Int) ≤ (nth d.snd.fst (↑x : Int).toNat).snd.fst ∧ (nth d.snd.fst (↑x : Int).toNat).snd.fst ≤ (9999 : Int)) ||
  !decide ((0 : Int) ≤ (nth d.snd.fst (↑x : Int).toNat).snd.snd.fst ∧ (nth d.snd.fst (↑x : Int).toNat).snd.snd.fst ≤ (↑d.fst.fst.length : Int) - (1 : Int)) ||
  decide ((nth d.snd.fst (↑x : Int).toNat).snd.snd.snd.fst < (0 : Int)) ||
  decide ((nth d.snd.fst (↑x : Int).toNat).snd.snd.snd.snd.fst ≤ (nth d.snd.fst (↑x : Int).toNat).snd.snd.snd.fst) ||
  decide (nth d.fst.fst (nth d.snd.fst (↑x : Int).toNat).snd.snd.fst.toNat < (nth d.snd.fst (↑x : Int).toNat).snd.snd.snd.snd.fst))) =
  true →
  In64 ((1 : Int) * (2 : Int) ^ d.fst.snd.fst.toNat)) ∧
  ((!(!decide ((0 : Int) ≤ (nth d.snd.fst (↑x : Int).toNat).fst ∧ (nth d.snd.fst (↑x : Int).toNat).fst ≤ (7 : Int)) ||
  !decide ((0 : Int) ≤ (nth d.snd.fst (↑x : Int).toNat).snd.fst ∧ (nth d.snd.fst (↑x : Int).toNat).snd.fst ≤ (9999 : Int)) ||
  !decide ((0 : Int) ≤ (nth d.snd.fst (↑x : Int).toNat).snd.snd.fst ∧ (nth d.snd.fst (↑x : Int).toNat).snd.snd.fst ≤ (↑d.fst.fst.length : Int) - (1 : Int)) ||
  decide ((nth d.snd.fst (↑x : Int).toNat).snd.snd.snd.fst < (0 : Int)) ||
  decide ((nth d.snd.fst (↑x : Int).toNat).snd.snd.snd.snd.fst ≤ (nth d.snd.fst (↑x : Int).toNat).snd.snd.snd.fst) ||
  decide (nth d.fst.fst (nth d.snd.fst (↑x : Int).toNat).snd.snd.fst.toNat < (nth d.snd.fst (↑x : Int).toNat).snd.snd.snd.snd.fst))) =
  true →
  In64 ((1 : Int) * (2 : Int) ^ d.fst.snd.fst.toNat - (1 : Int))) ∧
  ((!decide ((0 : Int) ≤ (nth d.snd.fst (↑x : Int).toNat).fst ∧ (nth d.snd.fst (↑x : Int).toNat).fst ≤ (7 : Int)) ||
  !decide ((0 : Int) ≤ (nth d.snd.fst (↑x : Int).toNat).snd.fst ∧ (nth d.snd.fst (↑x : Int).toNat).snd.fst ≤ (9999 : Int)) ||
  !decide ((0 : Int) ≤ (nth d.snd.fst (↑x : Int).toNat).snd.snd.fst ∧ (nth d.snd.fst (↑x : Int).toNat).snd.snd.fst ≤ (↑d.fst.fst.length : Int) - (1 : Int)) ||
  decide ((nth d.snd.fst (↑x : Int).toNat).snd.snd.snd.fst < (0 : Int)) ||
  decide ((nth d.snd.fst (↑x : Int).toNat).snd.snd.snd.snd.fst ≤ (nth d.snd.fst (↑x : Int).toNat).snd.snd.snd.fst) ||
  decide (nth d.fst.fst (nth d.snd.fst (↑x : Int).toNat).snd.snd.fst.toNat < (nth d.snd.fst (↑x : Int).toNat).snd.snd.snd.snd.fst) ||
  !decide
  ((0 : Int) ≤ (nth d.snd.fst (↑x : Int).toNat).snd.snd.snd.snd.snd.fst ∧ (nth d.snd.fst (↑x : Int).toNat).snd.snd.snd.snd.snd.fst ≤ (1 : Int) * (2 : Int) ^ d.fst.snd.fst.toNat - (1 : Int))) =
  true →
  (false, ()) = (d.snd.fst.all (U.okGloss d.fst) && decide (d.snd.fst.length ≤ (40 : Nat)), ())) ∧
  ((!decide ((0 : Int) ≤ (nth d.snd.fst (↑x : Int).toNat).fst ∧ (nth d.snd.fst (↑x : Int).toNat).fst ≤ (7 : Int)) ||
  !decide ((0 : Int) ≤ (nth d.snd.fst (↑x : Int).toNat).snd.fst ∧ (nth d.snd.fst (↑x : Int).toNat).snd.fst ≤ (9999 : Int)) ||
  !decide ((0 : Int) ≤ (nth d.snd.fst (↑x : Int).toNat).snd.snd.fst ∧ (nth d.snd.fst (↑x : Int).toNat).snd.snd.fst ≤ (↑d.fst.fst.length : Int) - (1 : Int)) ||
  decide ((nth d.snd.fst (↑x : Int).toNat).snd.snd.snd.fst < (0 : Int)) ||
  decide ((nth d.snd.fst (↑x : Int).toNat).snd.snd.snd.snd.fst ≤ (nth d.snd.fst (↑x : Int).toNat).snd.snd.snd.fst) ||
  decide (nth d.fst.fst (nth d.snd.fst (↑x : Int).toNat).snd.snd.fst.toNat < (nth d.snd.fst (↑x : Int).toNat).snd.snd.snd.snd.fst) ||
  !decide
  ((0 : Int) ≤ (nth d.snd.fst (↑x : Int).toNat).snd.snd.snd.snd.snd.fst ∧ (nth d.snd.fst (↑x : Int).toNat).snd.snd.snd.snd.snd.fst ≤ (1 : Int) * (2 : Int) ^ d.fst.snd.fst.toNat - (1 : Int))) =
  false →
  In64 ((↑x : Int) + (1 : Int)) ∧
  ∃ (x' : Nat),
  (((↑x : Int) + (1 : Int) = (↑x' : Int) ∧ True) ∧ True) ∧ (x' ≤ d.snd.fst.length ∧ (List.take x' d.snd.fst).all (U.okGloss d.fst) = true) ∧ d.snd.fst.length - x' < d.snd.fst.length - x)) ∧
  (decide ((↑x : Int) < (↑d.snd.fst.length : Int)) = false →
  d.snd.fst.length < (4611686018427387904 : Nat) → (decide ((↑d.snd.fst.length : Int) ≤ (40 : Int)), ()) = (d.snd.fst.all (U.okGloss d.fst) && decide (d.snd.fst.length ≤ (40 : Nat)), ()))

theorem vc64_eq : fnVC (ctx 74 [(41, sp41)] []) (an64) Try.f64 (bodyOf Try.f64) sp64 = vc64 := by kernel_rfl


def sp65 : Spec := ⟨[.val (.slice tG)], [.bool], false, fun _ => [], fun d => (U.clash d.1, ())⟩
def an65 : Ann := fun r => match r with
  | 2 => some fun σ => { X := Nat, sl := fun i => [(3, .dat .int (i : Int))], ob := fun _ => [], inv := fun i => i ≤ (gd (.slice tG) σ 0).length ∧ ∀ a b : Nat, a < i → b < a → U.clashB (nth (gd (.slice tG) σ 0) a) (nth (gd (.slice tG) σ 0) b) = false, mu := fun i => (gd (.slice tG) σ 0).length - i }
  | 5 => some fun σ => { X := Nat, sl := fun k => [(4, .dat .int (k : Int))], ob := fun _ => [], inv := fun k => (k : Int) ≤ gd .int σ 3 ∧ ∀ b : Nat, b < k → U.clashB (nth (gd (.slice tG) σ 0) (gd .int σ 3).toNat) (nth (gd (.slice tG) σ 0) b) = false, mu := fun k => (gd .int σ 3).toNat - k }
  | _ => none
def vc65 : Prop :=
  ∀ (d : List (Int × Int × Int × Int × Int × Int × Unit) × Unit),
  (∃ (x : Nat), (((0 : Int) = (↑x : Int) ∧ True) ∧ True) ∧ x ≤ d.fst.length ∧ ∀ (a b : Nat), a < x → b < a → U.clashB (nth d.fst a) (nth d.fst b) = false) ∧
  ∀ (x : Nat),
  (x ≤ d.fst.length ∧ ∀ (a b : Nat), a < x → b < a → U.clashB (nth d.fst a) (nth d.fst b) = false) →
  d.fst.length < (4611686018427387904 : Nat) →
  (decide ((↑x : Int) < (↑d.fst.length : Int)) = true →
  (∃ (x_4 : Nat), (((0 : Int) = (↑x_4 : Int) ∧ True) ∧ True) ∧ (↑x_4 : Int) ≤ (↑x : Int) ∧ ∀ (b : Nat), b < x_4 → U.clashB (nth d.fst (↑x : Int).toNat) (nth d.fst b) = false) ∧
  ∀ (x_4 : Nat),
  ((↑x_4 : Int) ≤ (↑x : Int) ∧ ∀ (b : Nat), b < x_4 → U.clashB (nth d.fst (↑x : Int).toNat) (nth d.fst b) = false) →
  (decide ((↑x_4 : Int) < (↑x : Int)) = true →
  (0 : Int) ≤ (↑x : Int) ∧
  (↑x : Int) < (↑d.fst.length : Int) ∧
  (0 : Int) ≤ (↑x_4 : Int) ∧
  (↑x_4 : Int) < (↑d.fst.length : Int) ∧
  (decide ((nth d.fst (↑x : Int).toNat).fst = (nth d.fst (↑x_4 : Int).toNat).fst) = true → (0 : Int) ≤ (↑x : Int)) ∧
  (decide ((nth d.fst (↑x : Int).toNat).fst = (nth d.fst (↑x_4 : Int).toNat).fst) = true → (↑x : Int) < (↑d.fst.length : Int)) ∧
  (decide ((nth d.fst (↑x : Int).toNat).fst = (nth d.fst (↑x_4 : Int).toNat).fst) = true → (0 : Int) ≤ (↑x_4 : Int)) ∧
  (decide ((nth d.fst (↑x : Int).toNat).fst = (nth d.fst (↑x_4 : Int).toNat).fst) = true → (↑x_4 : Int) < (↑d.fst.length : Int)) ∧
  ((decide ((nth d.fst (↑x : Int).toNat).fst = (nth d.fst (↑x_4 : Int).toNat).fst) && decide ((nth d.fst (↑x : Int).toNat).snd.fst = (nth d.fst (↑x_4 : Int).toNat).snd.fst)) = true →
  (0 : Int) ≤ (↑x : Int)) ∧
  ((decide ((nth d.fst (↑x : Int).toNat).fst = (nth d.fst (↑x_4 : Int).toNat).fst) && decide ((nth d.fst (↑x : Int).toNat).snd.fst = (nth d.fst (↑x_4 : Int).toNat).snd.fst)) = true →
  (↑x : Int) < (↑d.fst.length : Int)) ∧
  ((decide ((nth d.fst (↑x : Int).toNat).fst = (nth d.fst (↑x_4 : Int).toNat).fst) && decide ((nth d.fst (↑x : Int).toNat).snd.fst = (nth d.fst (↑x_4 : Int).toNat).snd.fst)) = true →
  (0 : Int) ≤ (↑x_4 : Int)) ∧
  ((decide ((nth d.fst (↑x : Int).toNat).fst = (nth d.fst (↑x_4 : Int).toNat).fst) && decide ((nth d.fst (↑x : Int).toNat).snd.fst = (nth d.fst (↑x_4 : Int).toNat).snd.fst)) = true →
  (↑x_4 : Int) < (↑d.fst.length : Int)) ∧
  ((decide ((nth d.fst (↑x : Int).toNat).fst = (nth d.fst (↑x_4 : Int).toNat).fst) && decide ((nth d.fst (↑x : Int).toNat).snd.fst = (nth d.fst (↑x_4 : Int).toNat).snd.fst) &&
  !decide (nth d.fst (↑x : Int).toNat = nth d.fst (↑x_4 : Int).toNat)) =
  true →
  (true, ()) = (U.clash d.fst, ())) ∧
  ((decide ((nth d.fst (↑x : Int).toNat).fst = (nth d.fst (↑x_4 : Int).toNat).fst) && decide ((nth d.fst (↑x : Int).toNat).snd.fst = (nth d.fst (↑x_4 : Int).toNat).snd.fst) &&
  !decide (nth d.fst (↑x : Int).toNat = nth d.fst (↑x_4 : Int).toNat)) =
  false →
  In64 ((↑x_4 : Int) + (1 : Int)) ∧
  ∃ (x' : Nat),
  (((↑x_4 : Int) + (1 : Int) = (↑x' : Int) ∧ True) ∧ True) ∧
  ((↑x' : Int) ≤ (↑x : Int) ∧ ∀ (b : Nat), b < x' → U.clashB (nth d.fst (↑x : Int).toNat) (nth d.fst b) = false) ∧ (↑x : Int).toNat - x' < (↑x : Int).toNat - x_4)) ∧
  (decide ((↑x_4 : Int) < (↑x : Int)) = false →
  In64 ((↑x : Int) + (1 : Int)) ∧
  ∃ (x' : Nat), (((↑x : Int) + (1 : Int) = (↑x' : Int) ∧ True) ∧ True) ∧ (x' ≤ d.fst.length ∧ ∀ (a b : Nat), a < x' → b < a → U.clashB (nth d.fst a) (nth d.fst b) = false) ∧ d.fst.length - x' < d.fst.length - x)) ∧
  (decide ((↑x : Int) < (↑d.fst.length : Int)) = false → (false, ()) = (U.clash d.fst, ()))

theorem vc65_eq : fnVC (ctx 51 [] []) (an65) Try.f65 (bodyOf Try.f65) sp65 = vc65 := by kernel_rfl


def sp38 : Spec := ⟨[.val tF, .val (.slice tG)], [.int], false, fun _ => [], fun d => (U.check d.1 d.2.1, ())⟩
def vc38 : Prop :=
  ∀ (d : (List Int × Int × Unit) × List (Int × Int × Int × Int × Int × Int × Unit) × Unit),
  ((!U.okFilms (d.fst.fst, d.fst.snd.fst, ())) = true → ((20 : Int), ()) = (U.check d.fst d.snd.fst, ())) ∧
  ((!U.okFilms (d.fst.fst, d.fst.snd.fst, ())) = false →
  U.okFilms (d.fst.fst, d.fst.snd.fst, ()) = true ∧
  ((!(d.snd.fst.all (U.okGloss (d.fst.fst, d.fst.snd.fst, ())) && decide (d.snd.fst.length ≤ (40 : Nat)))) = true → ((21 : Int), ()) = (U.check d.fst d.snd.fst, ())) ∧
  ((!(d.snd.fst.all (U.okGloss (d.fst.fst, d.fst.snd.fst, ())) && decide (d.snd.fst.length ≤ (40 : Nat)))) = false →
  (U.clash d.snd.fst = true → ((22 : Int), ()) = (U.check d.fst d.snd.fst, ())) ∧ (U.clash d.snd.fst = false → ((0 : Int), ()) = (U.check d.fst d.snd.fst, ()))))

theorem vc38_eq : fnVC (ctx 14 [(63, sp63), (64, sp64), (65, sp65)] []) (fun _ => none) Try.f38 (bodyOf Try.f38) sp38 = vc38 := by kernel_rfl


end Go.X
/-
  The functions of the specification of layer 2 return what they are asked to (1).
-/
namespace Go.X
open Go.Proofs

theorem h41 : vc41 := by
  intro d
  simp [Bool.decide_and]

theorem ok41 : FnOK PR 41 sp41 := mkFn (vc41_eq.mpr h41) Try.func41 (by kernel_rfl) (by kernel_rfl) (by kernel_rfl) (by kernel_rfl) trivial trivial

theorem h63 : vc63 := by
  intro d
  refine ⟨⟨0, ⟨⟨rfl, trivial⟩, trivial⟩, Nat.zero_le _, by simp⟩, fun i hi hl => ⟨fun h => ?_, fun h _ => ?_⟩⟩
  · have h : i < d.1.1.length := by simpa using h
    refine ⟨by omega, by omega, fun hb => ?_, fun hb => ⟨L.in64 (by omega) (by omega), i + 1, ⟨⟨by simp, trivial⟩, trivial⟩, ⟨by omega, ?_⟩, by omega⟩⟩
    · have : U.okFilms d.1 = false := by
        unfold U.okFilms
        rw [L.all_false h (by revert hb; simp; omega)]; rfl
      rw [this]
    · exact L.all_take h hi.2 (by simpa using hb)
  · have h : d.1.1.length ≤ i := by simpa using h
    have := L.all_of_take h hi.2
    unfold U.okFilms
    rw [this]
    congr 1
    rw [Bool.eq_iff_iff]
    simp
    omega

theorem ok63 : FnOK PR 63 sp63 := mkFn (vc63_eq.mpr h63) Try.func63 (by kernel_rfl) (by kernel_rfl) (by kernel_rfl) (by kernel_rfl) ⟨fun _ => ok41, trivial⟩ trivial

theorem okGloss_iff {f : FD} {g : GD} : U.okGloss f g = true ↔ (0 ≤ g.1 ∧ g.1 ≤ 7 ∧ 0 ≤ g.2.1 ∧ g.2.1 ≤ 9999 ∧ 0 ≤ g.2.2.1 ∧ g.2.2.1 < f.1.length ∧ 0 ≤ g.2.2.2.1 ∧ g.2.2.2.1 < g.2.2.2.2.1 ∧ g.2.2.2.2.1 ≤ nth f.1 g.2.2.1.toNat ∧ 0 ≤ g.2.2.2.2.2.1 ∧ g.2.2.2.2.2.1 < 2 ^ f.2.1.toNat) := by
  unfold U.okGloss; simp only [decide_eq_true_eq]; rfl

theorem pow_in {s : Int} (h0 : 0 ≤ s) (h1 : s ≤ 10) : (1 : Int) ≤ 2 ^ s.toNat ∧ (2 : Int) ^ s.toNat ≤ 1024 := by
  have h : s.toNat ≤ 10 := by omega
  have : ∀ n, n ≤ 10 → (1 : Int) ≤ 2 ^ n ∧ (2 : Int) ^ n ≤ 1024 := by decide
  exact this _ h

theorem okFilms_iff {f : FD} : U.okFilms f = true ↔ (∀ n ∈ f.1, 1 ≤ n ∧ n ≤ 200) ∧ 1 ≤ f.1.length ∧ f.1.length ≤ 4 ∧ 1 ≤ f.2.1 ∧ f.2.1 ≤ 10 := by
  unfold U.okFilms; simp [List.all_eq_true]

theorem h64 : vc64 := by
  intro d hok
  obtain ⟨_, hl1, hl2, hs0, hs1⟩ := okFilms_iff.1 hok
  have hp := pow_in (by omega) hs1
  refine ⟨⟨0, ⟨⟨rfl, trivial⟩, trivial⟩, Nat.zero_le _, by simp⟩, fun i hi hl => ⟨fun h => ?_, fun h hl2 => ?_⟩⟩
  · have h : i < d.2.1.length := by simpa using h
    have hall := fun h1 => L.all_take (p := U.okGloss d.1) h hi.2 h1
    have hallF := fun h1 => L.all_false (p := U.okGloss d.1) h h1
    have hg := @okGloss_iff d.1 (nth d.2.1 i)
    simp only [Int.toNat_natCast]
    simp only [Bool.not_eq_true', Bool.not_eq_false', Bool.or_eq_true, Bool.or_eq_false_iff, decide_eq_true_eq, decide_eq_false_iff_not, Int.one_mul]
    generalize nth d.2.1 i = g at *
    generalize (2 : Int) ^ d.1.2.1.toNat = pw at *
    generalize nth d.1.1 g.2.2.1.toNat = ln at *
    repeat' apply And.intro
    all_goals first
      | omega
      | (intro h; omega)
      | (intro h; unfold In64; omega)
      | skip
    · intro hb
      have : U.okGloss d.1 g = false := by
        rw [Bool.eq_false_iff]; intro hc; have := hg.1 hc; omega
      rw [hallF this]; rfl
    · intro hb
      exact ⟨by unfold In64; omega, i + 1, ⟨⟨by simp, trivial⟩, trivial⟩, ⟨by omega, hall (hg.2 (by omega))⟩, by omega⟩
  · have h : d.2.1.length ≤ i := by simpa using h
    have := L.all_of_take h hi.2
    rw [this]
    congr 1
    rw [Bool.eq_iff_iff]; simp; omega

theorem ok64 : FnOK PR 64 sp64 := mkFn (vc64_eq.mpr h64) Try.func64 (by kernel_rfl) (by kernel_rfl) (by kernel_rfl) (by kernel_rfl) ⟨fun _ => ok41, trivial⟩ trivial

theorem clash_of {l : List GD} (h : ∀ a b : Nat, a < l.length → b < a → U.clashB (nth l a) (nth l b) = false) : U.clash l = false := by
  unfold U.clash
  rw [List.any_eq_false]
  intro x hx hc
  rw [List.any_eq_true] at hc
  obtain ⟨y, hy, hc⟩ := hc
  obtain ⟨i, hi, rfl⟩ := L.mem_iff.1 hx
  obtain ⟨j, hj, rfl⟩ := L.mem_iff.1 hy
  rcases Nat.lt_trichotomy i j with h1 | h1 | h1
  · have := h j i hj h1
    unfold U.clashB at this hc
    simp only [decide_eq_true_eq, decide_eq_false_iff_not] at this hc
    exact this ⟨hc.1.symm, hc.2.1.symm, fun e => hc.2.2 e.symm⟩
  · subst h1
    unfold U.clashB at hc
    simp at hc
  · have := h i j hi h1
    rw [this] at hc; cases hc

theorem clash_true {l : List GD} {a b : Nat} (ha : a < l.length) (hb : b < l.length) (h : U.clashB (nth l a) (nth l b) = true) : U.clash l = true := by
  unfold U.clash
  rw [List.any_eq_true]
  exact ⟨_, L.mem_nth ha, by rw [List.any_eq_true]; exact ⟨_, L.mem_nth hb, h⟩⟩

theorem h65 : vc65 := by
  intro d
  refine ⟨⟨0, ⟨⟨rfl, trivial⟩, trivial⟩, Nat.zero_le _, fun a b ha => by omega⟩, fun i hi hl => ⟨fun h => ?_, fun h => ?_⟩⟩
  · have h : i < d.1.length := by simpa using h
    simp only [Int.toNat_natCast]
    refine ⟨⟨0, ⟨⟨rfl, trivial⟩, trivial⟩, by omega, fun b hb => by omega⟩, fun k hk => ⟨fun h2 => ?_, fun h2 => ?_⟩⟩
    · have h2 : k < i := by simpa using h2
      have key : U.clashB (nth d.1 i) (nth d.1 k) = (decide ((nth d.1 i).fst = (nth d.1 k).fst) && decide ((nth d.1 i).snd.fst = (nth d.1 k).snd.fst) && !decide (nth d.1 i = nth d.1 k)) := by
        unfold U.clashB U.au U.st
        by_cases h1 : (nth d.1 i).fst = (nth d.1 k).fst <;> by_cases h2 : (nth d.1 i).snd.fst = (nth d.1 k).snd.fst <;> by_cases h3 : nth d.1 i = nth d.1 k <;> simp [h1, h2, h3]
      rw [← key]
      refine ⟨by omega, by omega, by omega, by omega, fun _ => by omega, fun _ => by omega, fun _ => by omega, fun _ => by omega, fun _ => by omega, fun _ => by omega, fun _ => by omega, fun _ => by omega, fun hc => ?_, fun hc => ?_⟩
      · rw [clash_true h (by omega) hc]
      · refine ⟨by unfold In64; omega, k + 1, ⟨⟨by simp, trivial⟩, trivial⟩, ⟨by omega, fun b hb => ?_⟩, by omega⟩
        by_cases e : b = k
        · subst e; exact hc
        · exact hk.2 b (by omega)
    · have h2 : i ≤ k := by simpa using h2
      refine ⟨by unfold In64; omega, i + 1, ⟨⟨by simp, trivial⟩, trivial⟩, ⟨by omega, fun a b ha hb => ?_⟩, by omega⟩
      by_cases e : a = i
      · subst e; exact hk.2 b (by omega)
      · exact hi.2 a b (by omega) hb
  · have h : d.1.length ≤ i := by simpa using h
    rw [clash_of fun a b ha hb => hi.2 a b (by omega) hb]

theorem ok65 : FnOK PR 65 sp65 := mkFn (vc65_eq.mpr h65) Try.func65 (by kernel_rfl) (by kernel_rfl) (by kernel_rfl) (by kernel_rfl) trivial trivial

theorem h38 : vc38 := by
  rintro ⟨⟨fr, s, ⟨⟩⟩, l, ⟨⟩⟩
  simp only
  unfold U.check
  refine ⟨fun h => ?_, fun h => ⟨by simpa using h, fun h1 => ?_, fun h1 => ⟨fun h2 => ?_, fun h2 => ?_⟩⟩⟩
  · rw [if_neg (fun hc => by rw [hc] at h; cases h)]
  · rw [if_pos (by simpa using h), if_neg (fun hc => by rw [hc] at h1; cases h1)]
  · rw [if_pos (by simpa using h), if_pos (by simpa only [Bool.not_eq_false'] using h1), if_pos h2]
  · rw [if_pos (by simpa using h), if_pos (by simpa only [Bool.not_eq_false'] using h1), if_neg (by simp [h2])]

theorem ok38 : FnOK PR 38 sp38 := mkFn (vc38_eq.mpr h38) Try.func38 (by kernel_rfl) (by kernel_rfl) (by kernel_rfl) (by kernel_rfl) ⟨fun _ => ok63, fun _ => ok64, fun _ => ok65, trivial⟩ trivial

end Go.X
/-
  What the functions of the specification of layer 2 are asked to return (2).
-/
namespace Go.X
open Go.Proofs

namespace U
def bit (s : Int) (i : Nat) : Int := s / 2 ^ i % 2
def sizeTo (s : Int) : Nat → Int
  | 0 => 0
  | n + 1 => sizeTo s n + bit s n
def size (s : Int) : Int := sizeTo s 10
def agrees (s : Int) (l : List GD) : Bool := l.all fun g => !decide (band s (sg g) = 0)
def over (a b : GD) : Bool := decide (fi a = fi b ∧ fr a < to b ∧ fr b < to a)
def later (m g : GD) : Bool := decide (au m = au g ∧ st g < st m) && over m g
def holds (l : List GD) (g : GD) : Bool := l.all (fun m => !later m g) && !decide (sg g = 0)
def ltk (a b : GD) : Bool := decide (au a < au b ∨ au a = au b ∧ st a < st b)
def ins (m : GD) : List GD → List GD
  | [] => [m]
  | x :: r => if ltk x m = true then x :: ins m r else if x = m then x :: r else m :: x :: r
def srt (l : List GD) : List GD := l.foldl (fun o m => ins m o) []
def held (l : List GD) : List GD := (srt l).filter (holds l)
def inFrame (film frame : Int) (g : GD) : Bool := decide (fi g = film ∧ fr g ≤ frame ∧ frame ≤ to g - 1)
def at' (l : List GD) (film frame : Int) : List GD := (held l).filter (inFrame film frame)
def better (o : List Int) (s : Int) : List Int := if o ≠ [] ∧ size s < size (nth o 0) then [s] else if o = [] ∨ size s = size (nth o 0) then o ++ [s] else o
def stepS (l : List GD) (o : List Int) (n : Nat) : List Int := if agrees n l = true then better o n else o
def smallest (s : Int) (l : List GD) : List Int := (List.range (2 ^ s.toNat)).foldl (stepS l) []
def least (s : Int) (l : List GD) : Int := size (nth (smallest s l) 0)
def frameErr (f : FD) (l : List GD) (film frame : Int) : Int := if check f l ≠ 0 then check f l else if 0 ≤ film ∧ film ≤ f.1.length - 1 ∧ 0 ≤ frame ∧ frame ≤ nth f.1 film.toNat - 1 then 0 else 1
def by' (l : List GD) (a : Int) : Int := match l.find? (fun g => decide (au g = a)) with | some g => sg g | none => 0
def areAuthors (a b : Int) : Bool := decide (0 ≤ a ∧ a ≤ 7 ∧ 0 ≤ b ∧ b ≤ 7 ∧ a ≠ b)
end U

def sp19 : Spec := ⟨[.val .int], [.int], false, fun _ => [], fun d => (U.size d.1, ())⟩
def an19 : Ann := fun r => match r with
  | 3 => some fun σ => { X := Nat, sl := fun i => [(3, .dat .int (U.sizeTo (gd .int σ 0) i)), (4, .dat .int (i : Int))], ob := fun _ => [], inv := fun i => i ≤ 10, mu := fun i => 10 - i }
  | _ => none
def vc19 : Prop :=
  ∀ (d : Int × Unit),
  (∃ (x : Nat), (((0 : Int) = U.sizeTo d.fst x ∧ (0 : Int) = (↑x : Int) ∧ True) ∧ True) ∧ x ≤ (10 : Nat)) ∧
  ∀ (x : Nat),
  x ≤ (10 : Nat) →
  (decide ((↑x : Int) < (10 : Int)) = true →
  (0 : Int) ≤ (↑x : Int) ∧
  (↑x : Int) ≤ (18446744073709551615 : Int) ∧
  (0 : Int) ≤ (↑x : Int) ∧
  (↑x : Int) ≤ (64 : Int) ∧
  In64 (U.sizeTo d.fst x + band (d.fst / (2 : Int) ^ (↑x : Int).toNat) (1 : Int)) ∧
  In64 ((↑x : Int) + (1 : Int)) ∧
  ∃ (x' : Nat),
  (((↑x : Int) + (1 : Int) = (↑x' : Int) ∧ U.sizeTo d.fst x + band (d.fst / (2 : Int) ^ (↑x : Int).toNat) (1 : Int) = U.sizeTo d.fst x' ∧ True) ∧ True) ∧ x' ≤ (10 : Nat) ∧ (10 : Nat) - x' < (10 : Nat) - x) ∧
  (decide ((↑x : Int) < (10 : Int)) = false → (U.sizeTo d.fst x, ()) = (U.size d.fst, ()))

theorem vc19_eq : fnVC (ctx 17 [] []) (an19) Try.f19 (bodyOf Try.f19) sp19 = vc19 := by kernel_rfl


def sp23 : Spec := ⟨[.val .int, .val (.slice tG)], [.bool], false, fun _ => [], fun d => (U.agrees d.1 d.2.1, ())⟩
def an23 : Ann := fun r => match r with
  | 2 => some fun σ => { X := Nat, sl := fun i => [(5, .dat .int (i : Int))], ob := fun _ => [], inv := fun i => i ≤ (gd (.slice tG) σ 1).length ∧ U.agrees (gd .int σ 0) ((gd (.slice tG) σ 1).take i) = true, mu := fun i => (gd (.slice tG) σ 1).length - i }
  | _ => none
def vc23 : Prop :=
  ∀ (d : Int × List (Int × Int × Int × Int × Int × Int × Unit) × Unit),
  (∃ (x : Nat), (((0 : Int) = (↑x : Int) ∧ True) ∧ True) ∧ x ≤ d.snd.fst.length ∧ U.agrees d.fst (List.take x d.snd.fst) = true) ∧
  ∀ (x : Nat),
  x ≤ d.snd.fst.length ∧ U.agrees d.fst (List.take x d.snd.fst) = true →
  d.snd.fst.length < (4611686018427387904 : Nat) →
  (decide ((↑x : Int) < (↑d.snd.fst.length : Int)) = true →
  (0 : Int) ≤ (↑x : Int) ∧
  (↑x : Int) < (↑d.snd.fst.length : Int) ∧
  (decide (band d.fst (nth d.snd.fst (↑x : Int).toNat).snd.snd.snd.snd.snd.fst = (0 : Int)) = true → (false, ()) = (U.agrees d.fst d.snd.fst, ())) ∧
  (decide (band d.fst (nth d.snd.fst (↑x : Int).toNat).snd.snd.snd.snd.snd.fst = (0 : Int)) = false →
  In64 ((↑x : Int) + (1 : Int)) ∧
  ∃ (x' : Nat), (((↑x : Int) + (1 : Int) = (↑x' : Int) ∧ True) ∧ True) ∧ (x' ≤ d.snd.fst.length ∧ U.agrees d.fst (List.take x' d.snd.fst) = true) ∧ d.snd.fst.length - x' < d.snd.fst.length - x)) ∧
  (decide ((↑x : Int) < (↑d.snd.fst.length : Int)) = false → (true, ()) = (U.agrees d.fst d.snd.fst, ()))

theorem vc23_eq : fnVC (ctx 20 [] []) (an23) Try.f23 (bodyOf Try.f23) sp23 = vc23 := by kernel_rfl


def sp85 : Spec := ⟨[.val tG, .val tG], [.bool], false, fun _ => [], fun d => (U.over d.1 d.2.1, ())⟩
def vc85 : Prop :=
  ∀ (d : (Int × Int × Int × Int × Int × Int × Unit) × (Int × Int × Int × Int × Int × Int × Unit) × Unit),
  (decide (d.fst.snd.snd.fst = d.snd.fst.snd.snd.fst) && decide (d.fst.snd.snd.snd.fst < d.snd.fst.snd.snd.snd.snd.fst) && decide (d.snd.fst.snd.snd.snd.fst < d.fst.snd.snd.snd.snd.fst), ()) = (U.over d.fst d.snd.fst, ())

theorem vc85_eq : fnVC (ctx 24 [] []) (fun _ => none) Try.f85 (bodyOf Try.f85) sp85 = vc85 := by kernel_rfl


def sp67 : Spec := ⟨[.val (.slice tG), .val tG], [.bool], false, fun _ => [], fun d => (U.holds d.1 d.2.1, ())⟩
def an67 : Ann := fun r => match r with
  | 2 => some fun σ => { X := Nat, sl := fun i => [(5, .dat .int (i : Int))], ob := fun _ => [], inv := fun i => i ≤ (gd (.slice tG) σ 0).length ∧ ∀ b : Nat, b < i → U.later (nth (gd (.slice tG) σ 0) b) (gd tG σ 1) = false, mu := fun i => (gd (.slice tG) σ 0).length - i }
  | _ => none
def vc67 : Prop :=
  ∀ (d : List (Int × Int × Int × Int × Int × Int × Unit) × (Int × Int × Int × Int × Int × Int × Unit) × Unit),
  (∃ (x : Nat), (((0 : Int) = (↑x : Int) ∧ True) ∧ True) ∧ x ≤ d.fst.length ∧ ∀ (b : Nat), b < x → U.later (nth d.fst b) d.snd.fst = false) ∧
  ∀ (x : Nat),
  (x ≤ d.fst.length ∧ ∀ (b : Nat), b < x → U.later (nth d.fst b) d.snd.fst = false) →
  d.fst.length < (4611686018427387904 : Nat) →
  (decide ((↑x : Int) < (↑d.fst.length : Int)) = true →
  (0 : Int) ≤ (↑x : Int) ∧
  (↑x : Int) < (↑d.fst.length : Int) ∧
  ((decide ((nth d.fst (↑x : Int).toNat).fst = d.snd.fst.fst) && decide (d.snd.fst.snd.fst < (nth d.fst (↑x : Int).toNat).snd.fst) &&
  U.over
  ((nth d.fst (↑x : Int).toNat).fst, (nth d.fst (↑x : Int).toNat).snd.fst, (nth d.fst (↑x : Int).toNat).snd.snd.fst, (nth d.fst (↑x : Int).toNat).snd.snd.snd.fst, (nth d.fst (↑x : Int).toNat).snd.snd.snd.snd.fst,
  (nth d.fst (↑x : Int).toNat).snd.snd.snd.snd.snd.fst, ())
  (d.snd.fst.fst, d.snd.fst.snd.fst, d.snd.fst.snd.snd.fst, d.snd.fst.snd.snd.snd.fst, d.snd.fst.snd.snd.snd.snd.fst, d.snd.fst.snd.snd.snd.snd.snd.fst, ())) =
  true →
  (false, ()) = (U.holds d.fst d.snd.fst, ())) ∧
  ((decide ((nth d.fst (↑x : Int).toNat).fst = d.snd.fst.fst) && decide (d.snd.fst.snd.fst < (nth d.fst (↑x : Int).toNat).snd.fst) &&
  U.over
  ((nth d.fst (↑x : Int).toNat).fst, (nth d.fst (↑x : Int).toNat).snd.fst, (nth d.fst (↑x : Int).toNat).snd.snd.fst, (nth d.fst (↑x : Int).toNat).snd.snd.snd.fst, (nth d.fst (↑x : Int).toNat).snd.snd.snd.snd.fst,
  (nth d.fst (↑x : Int).toNat).snd.snd.snd.snd.snd.fst, ())
  (d.snd.fst.fst, d.snd.fst.snd.fst, d.snd.fst.snd.snd.fst, d.snd.fst.snd.snd.snd.fst, d.snd.fst.snd.snd.snd.snd.fst, d.snd.fst.snd.snd.snd.snd.snd.fst, ())) =
  false →
  In64 ((↑x : Int) + (1 : Int)) ∧
  ∃ (x' : Nat), (((↑x : Int) + (1 : Int) = (↑x' : Int) ∧ True) ∧ True) ∧ (x' ≤ d.fst.length ∧ ∀ (b : Nat), b < x' → U.later (nth d.fst b) d.snd.fst = false) ∧ d.fst.length - x' < d.fst.length - x)) ∧
  (decide ((↑x : Int) < (↑d.fst.length : Int)) = false → (decide (d.snd.fst.snd.snd.snd.snd.snd.fst ≠ (0 : Int)), ()) = (U.holds d.fst d.snd.fst, ()))

theorem vc67_eq : fnVC (ctx 37 [(85, sp85)] []) (an67) Try.f67 (bodyOf Try.f67) sp67 = vc67 := by kernel_rfl


def sp66 : Spec := ⟨[.val (.slice tG)], [.slice tG], false, fun d => [d.1.length ≤ 100000], fun d => (U.srt d.1, ())⟩
def an66 : Ann := fun r => match r with
  | 3 => some fun σ => { X := Nat, sl := fun i => [(3, .own 3 tG), (4, .dat .int (i : Int))], ob := fun i => [(3, some (.row 27 tG false .yes (U.srt ((gd (.slice tG) σ 0).take i))))], inv := fun i => i ≤ (gd (.slice tG) σ 0).length, mu := fun i => (gd (.slice tG) σ 0).length - i }
  | 6 => some fun σ => { X := Nat, sl := fun k => [(5, .dat .int (k : Int))], ob := fun _ => [], inv := fun k => k ≤ (U.srt ((gd (.slice tG) σ 0).take (gd .int σ 4).toNat)).length ∧ ∀ b : Nat, b < k → U.ltk (nth (U.srt ((gd (.slice tG) σ 0).take (gd .int σ 4).toNat)) b) (nth (gd (.slice tG) σ 0) (gd .int σ 4).toNat) = true, mu := fun k => (U.srt ((gd (.slice tG) σ 0).take (gd .int σ 4).toNat)).length - k }
  | _ => none
def vc66 : Prop :=
  ∀ (d : List (Int × Int × Int × Int × Int × Int × Unit) × Unit),
  d.fst.length ≤ (100000 : Nat) →
  (∃ (x : Nat), ((True ∧ (0 : Int) = (↑x : Int) ∧ True) ∧ U.srt (List.take x d.fst) = [] ∧ True) ∧ x ≤ d.fst.length) ∧
  ∀ (x : Nat),
  x ≤ d.fst.length →
  d.fst.length < (4611686018427387904 : Nat) →
  (decide ((↑x : Int) < (↑d.fst.length : Int)) = true →
  (∃ (x_4 : Nat),
  (((0 : Int) = (↑x_4 : Int) ∧ True) ∧ True) ∧
  x_4 ≤ (U.srt (List.take (↑x : Int).toNat d.fst)).length ∧ ∀ (b : Nat), b < x_4 → U.ltk (nth (U.srt (List.take (↑x : Int).toNat d.fst)) b) (nth d.fst (↑x : Int).toNat) = true) ∧
  ∀ (x_4 : Nat),
  (x_4 ≤ (U.srt (List.take (↑x : Int).toNat d.fst)).length ∧ ∀ (b : Nat), b < x_4 → U.ltk (nth (U.srt (List.take (↑x : Int).toNat d.fst)) b) (nth d.fst (↑x : Int).toNat) = true) →
  (decide ((↑x_4 : Int) < (↑(U.srt (List.take x d.fst)).length : Int)) = true → (0 : Int) ≤ (↑x_4 : Int)) ∧
  (decide ((↑x_4 : Int) < (↑(U.srt (List.take x d.fst)).length : Int)) = true → (↑x_4 : Int) < (↑(U.srt (List.take x d.fst)).length : Int)) ∧
  (decide ((↑x_4 : Int) < (↑(U.srt (List.take x d.fst)).length : Int)) = true → (0 : Int) ≤ (↑x : Int)) ∧
  (decide ((↑x_4 : Int) < (↑(U.srt (List.take x d.fst)).length : Int)) = true → (↑x : Int) < (↑d.fst.length : Int)) ∧
  ((decide ((↑x_4 : Int) < (↑(U.srt (List.take x d.fst)).length : Int)) && !decide ((nth (U.srt (List.take x d.fst)) (↑x_4 : Int).toNat).fst < (nth d.fst (↑x : Int).toNat).fst)) = true →
  (0 : Int) ≤ (↑x_4 : Int)) ∧
  ((decide ((↑x_4 : Int) < (↑(U.srt (List.take x d.fst)).length : Int)) && !decide ((nth (U.srt (List.take x d.fst)) (↑x_4 : Int).toNat).fst < (nth d.fst (↑x : Int).toNat).fst)) = true →
  (↑x_4 : Int) < (↑(U.srt (List.take x d.fst)).length : Int)) ∧
  ((decide ((↑x_4 : Int) < (↑(U.srt (List.take x d.fst)).length : Int)) && !decide ((nth (U.srt (List.take x d.fst)) (↑x_4 : Int).toNat).fst < (nth d.fst (↑x : Int).toNat).fst)) = true →
  (0 : Int) ≤ (↑x : Int)) ∧
  ((decide ((↑x_4 : Int) < (↑(U.srt (List.take x d.fst)).length : Int)) && !decide ((nth (U.srt (List.take x d.fst)) (↑x_4 : Int).toNat).fst < (nth d.fst (↑x : Int).toNat).fst)) = true →
  (↑x : Int) < (↑d.fst.length : Int)) ∧
  ((decide ((↑x_4 : Int) < (↑(U.srt (List.take x d.fst)).length : Int)) && !decide ((nth (U.srt (List.take x d.fst)) (↑x_4 : Int).toNat).fst < (nth d.fst (↑x : Int).toNat).fst) &&
  decide ((nth (U.srt (List.take x d.fst)) (↑x_4 : Int).toNat).fst = (nth d.fst (↑x : Int).toNat).fst)) =
  true →
  (0 : Int) ≤ (↑x_4 : Int)) ∧
  ((decide ((↑x_4 : Int) < (↑(U.srt (List.take x d.fst)).length : Int)) && !decide ((nth (U.srt (List.take x d.fst)) (↑x_4 : Int).toNat).fst < (nth d.fst (↑x : Int).toNat).fst) &&
  decide ((nth (U.srt (List.take x d.fst)) (↑x_4 : Int).toNat).fst = (nth d.fst (↑x : Int).toNat).fst)) =
  true →
  (↑x_4 : Int) < (↑(U.srt (List.take x d.fst)).length : Int)) ∧
  ((decide ((↑x_4 : Int) < (↑(U.srt (List.take x d.fst)).length : Int)) && !decide ((nth (U.srt (List.take x d.fst)) (↑x_4 : Int).toNat).fst < (nth d.fst (↑x : Int).toNat).fst) &&
  decide ((nth (U.srt (List.take x d.fst)) (↑x_4 : Int).toNat).fst = (nth d.fst (↑x : Int).toNat).fst)) =
  true →
  (0 : Int) ≤ (↑x : Int)) ∧
  ((decide ((↑x_4 : Int) < (↑(U.srt (List.take x d.fst)).length : Int)) && !decide ((nth (U.srt (List.take x d.fst)) (↑x_4 : Int).toNat).fst < (nth d.fst (↑x : Int).toNat).fst) &&
  decide ((nth (U.srt (List.take x d.fst)) (↑x_4 : Int).toNat).fst = (nth d.fst (↑x : Int).toNat).fst)) =
  true →
  (↑x : Int) < (↑d.fst.length : Int)) ∧
  ((decide ((↑x_4 : Int) < (↑(U.srt (List.take x d.fst)).length : Int)) &&
  (decide ((nth (U.srt (List.take x d.fst)) (↑x_4 : Int).toNat).fst < (nth d.fst (↑x : Int).toNat).fst) ||
  decide ((nth (U.srt (List.take x d.fst)) (↑x_4 : Int).toNat).fst = (nth d.fst (↑x : Int).toNat).fst) &&
  decide ((nth (U.srt (List.take x d.fst)) (↑x_4 : Int).toNat).snd.fst < (nth d.fst (↑x : Int).toNat).snd.fst))) =
  true →
  In64 ((↑x_4 : Int) + (1 : Int)) ∧
  ∃ (x' : Nat),
  (((↑x_4 : Int) + (1 : Int) = (↑x' : Int) ∧ True) ∧ True) ∧
  (x' ≤ (U.srt (List.take (↑x : Int).toNat d.fst)).length ∧ ∀ (b : Nat), b < x' → U.ltk (nth (U.srt (List.take (↑x : Int).toNat d.fst)) b) (nth d.fst (↑x : Int).toNat) = true) ∧
  (U.srt (List.take (↑x : Int).toNat d.fst)).length - x' < (U.srt (List.take (↑x : Int).toNat d.fst)).length - x_4) ∧
  ((decide ((↑x_4 : Int) < (↑(U.srt (List.take x d.fst)).length : Int)) &&
  (decide ((nth (U.srt (List.take x d.fst)) (↑x_4 : Int).toNat).fst < (nth d.fst (↑x : Int).toNat).fst) ||
  decide ((nth (U.srt (List.take x d.fst)) (↑x_4 : Int).toNat).fst = (nth d.fst (↑x : Int).toNat).fst) &&
  decide ((nth (U.srt (List.take x d.fst)) (↑x_4 : Int).toNat).snd.fst < (nth d.fst (↑x : Int).toNat).snd.fst))) =
  false →
  ((!decide ((↑x_4 : Int) = (↑(U.srt (List.take x d.fst)).length : Int))) = true → (0 : Int) ≤ (↑x_4 : Int)) ∧
  ((!decide ((↑x_4 : Int) = (↑(U.srt (List.take x d.fst)).length : Int))) = true → (↑x_4 : Int) < (↑(U.srt (List.take x d.fst)).length : Int)) ∧
  ((!decide ((↑x_4 : Int) = (↑(U.srt (List.take x d.fst)).length : Int))) = true → (0 : Int) ≤ (↑x : Int)) ∧
  ((!decide ((↑x_4 : Int) = (↑(U.srt (List.take x d.fst)).length : Int))) = true → (↑x : Int) < (↑d.fst.length : Int)) ∧
  ((decide ((↑x_4 : Int) = (↑(U.srt (List.take x d.fst)).length : Int)) || !decide (nth (U.srt (List.take x d.fst)) (↑x_4 : Int).toNat = nth d.fst (↑x : Int).toNat)) = true →
  (0 : Int) ≤ (0 : Int) ∧
  (0 : Int) ≤ (↑x_4 : Int) ∧
  (↑x_4 : Int) ≤ (↑(U.srt (List.take x d.fst)).length : Int) ∧
  (0 : Int) ≤ (↑x : Int) ∧
  (↑x : Int) < (↑d.fst.length : Int) ∧
  (0 : Int) ≤ (↑x_4 : Int) ∧
  (↑x_4 : Int) ≤ (↑(U.srt (List.take x d.fst)).length : Int) ∧
  (↑(U.srt (List.take x d.fst)).length : Int) ≤ (↑(U.srt (List.take x d.fst)).length : Int) ∧
  ([nth d.fst (↑x : Int).toNat].length +
  (List.take ((↑(U.srt (List.take x d.fst)).length : Int).toNat - (↑x_4 : Int).toNat) (List.drop (↑x_4 : Int).toNat (U.srt (List.take x d.fst)))).length) *
  (48 : Nat) ≤
  (140737488355328 : Nat) ∧
  ((↑x_4 : Int).toNat - Int.toNat (0 : Int) +
  (nth d.fst (↑x : Int).toNat ::
  List.take ((↑(U.srt (List.take x d.fst)).length : Int).toNat - (↑x_4 : Int).toNat)
  (List.drop (↑x_4 : Int).toNat (U.srt (List.take x d.fst)))).length) *
  (48 : Nat) ≤
  (140737488355328 : Nat) ∧
  In64 ((↑x : Int) + (1 : Int)) ∧
  ∃ (x' : Nat),
  (((↑x : Int) + (1 : Int) = (↑x' : Int) ∧ True ∧ True) ∧
  List.take ((↑x_4 : Int).toNat - Int.toNat (0 : Int)) (U.srt (List.take x d.fst)) ++
  nth d.fst (↑x : Int).toNat ::
  List.take ((↑(U.srt (List.take x d.fst)).length : Int).toNat - (↑x_4 : Int).toNat)
  (List.drop (↑x_4 : Int).toNat (U.srt (List.take x d.fst))) =
  U.srt (List.take x' d.fst) ∧
  True) ∧
  x' ≤ d.fst.length ∧ d.fst.length - x' < d.fst.length - x) ∧
  ((decide ((↑x_4 : Int) = (↑(U.srt (List.take x d.fst)).length : Int)) || !decide (nth (U.srt (List.take x d.fst)) (↑x_4 : Int).toNat = nth d.fst (↑x : Int).toNat)) = false →
  In64 ((↑x : Int) + (1 : Int)) ∧
  ∃ (x' : Nat),
  ((True ∧ (↑x : Int) + (1 : Int) = (↑x' : Int) ∧ True) ∧ U.srt (List.take x d.fst) = U.srt (List.take x' d.fst) ∧ True) ∧
  x' ≤ d.fst.length ∧ d.fst.length - x' < d.fst.length - x))) ∧
  (decide ((↑x : Int) < (↑d.fst.length : Int)) = false → (U.srt (List.take x d.fst), ()) = (U.srt d.fst, ()))

theorem vc66_eq : fnVC (ctx 86 [] []) (an66) Try.f66 (bodyOf Try.f66) sp66 = vc66 := by kernel_rfl


def sp43 : Spec := ⟨[.val (.slice tG)], [.slice tG], false, fun d => [d.1.length ≤ 100000], fun d => (U.held d.1, ())⟩
def an43 : Ann := fun r => match r with
  | 4 => some fun σ => { X := Nat, sl := fun i => [(3, .own 3 tG), (5, .dat .int (i : Int))], ob := fun i => [(3, some (.row 27 tG false .yes (((gd (.slice tG) σ 4).take i).filter (U.holds (gd (.slice tG) σ 0)))))], inv := fun i => i ≤ (gd (.slice tG) σ 4).length, mu := fun i => (gd (.slice tG) σ 4).length - i }
  | _ => none
def vc43 : Prop :=
  ∀ (d : List (Int × Int × Int × Int × Int × Int × Unit) × Unit),
  d.fst.length ≤ (100000 : Nat) →
  d.fst.length ≤ (100000 : Nat) ∧
  (∃ (x : Nat), ((True ∧ (0 : Int) = (↑x : Int) ∧ True) ∧ List.filter (U.holds d.fst) (List.take x (U.srt d.fst)) = [] ∧ True) ∧ x ≤ (U.srt d.fst).length) ∧
  ∀ (x : Nat),
  x ≤ (U.srt d.fst).length →
  (U.srt d.fst).length < (4611686018427387904 : Nat) →
  (decide ((↑x : Int) < (↑(U.srt d.fst).length : Int)) = true →
  (0 : Int) ≤ (↑x : Int) ∧
  (↑x : Int) < (↑(U.srt d.fst).length : Int) ∧
  (U.holds d.fst (nth (U.srt d.fst) (↑x : Int).toNat) = true →
  (0 : Int) ≤ (↑x : Int) ∧
  (↑x : Int) < (↑(U.srt d.fst).length : Int) ∧
  ((List.filter (U.holds d.fst) (List.take x (U.srt d.fst))).length + [nth (U.srt d.fst) (↑x : Int).toNat].length) * (48 : Nat) ≤ (140737488355328 : Nat) ∧
  In64 ((↑x : Int) + (1 : Int)) ∧
  ∃ (x' : Nat),
  (((↑x : Int) + (1 : Int) = (↑x' : Int) ∧ True ∧ True) ∧
  List.filter (U.holds d.fst) (List.take x (U.srt d.fst)) ++ [nth (U.srt d.fst) (↑x : Int).toNat] = List.filter (U.holds d.fst) (List.take x' (U.srt d.fst)) ∧ True) ∧
  x' ≤ (U.srt d.fst).length ∧ (U.srt d.fst).length - x' < (U.srt d.fst).length - x) ∧
  (U.holds d.fst (nth (U.srt d.fst) (↑x : Int).toNat) = false →
  In64 ((↑x : Int) + (1 : Int)) ∧
  ∃ (x' : Nat),
  ((True ∧ (↑x : Int) + (1 : Int) = (↑x' : Int) ∧ True) ∧ List.filter (U.holds d.fst) (List.take x (U.srt d.fst)) = List.filter (U.holds d.fst) (List.take x' (U.srt d.fst)) ∧ True) ∧
  x' ≤ (U.srt d.fst).length ∧ (U.srt d.fst).length - x' < (U.srt d.fst).length - x)) ∧
  (decide ((↑x : Int) < (↑(U.srt d.fst).length : Int)) = false → (List.filter (U.holds d.fst) (List.take x (U.srt d.fst)), ()) = (U.held d.fst, ()))

theorem vc43_eq : fnVC (ctx 28 [(66, sp66), (67, sp67)] []) (an43) Try.f43 (bodyOf Try.f43) sp43 = vc43 := by kernel_rfl


def sp16 : Spec := ⟨[.val (.slice tG), .val .int, .val .int], [.slice tG], false, fun d => [d.1.length ≤ 100000, ∀ g ∈ d.1, 0 < U.to g ∧ U.to g ≤ 1000], fun d => (U.at' d.1 d.2.1 d.2.2.1, ())⟩
def an16 : Ann := fun r => match r with
  | 4 => some fun σ => { X := Nat, sl := fun i => [(7, .own 7 tG), (9, .dat .int (i : Int))], ob := fun i => [(7, some (.row 27 tG false .yes (((gd (.slice tG) σ 8).take i).filter (U.inFrame (gd .int σ 1) (gd .int σ 2)))))], inv := fun i => i ≤ (gd (.slice tG) σ 8).length, mu := fun i => (gd (.slice tG) σ 8).length - i }
  | _ => none
def vc16 : Prop :=
  ∀ (d : List (Int × Int × Int × Int × Int × Int × Unit) × Int × Int × Unit),
  d.fst.length ≤ (100000 : Nat) →
  (∀ (g : Int × Int × Int × Int × Int × Int × Unit), g ∈ d.fst → (0 : Int) < U.to g ∧ U.to g ≤ (1000 : Int)) →
  d.fst.length ≤ (100000 : Nat) ∧
  (∃ (x : Nat), ((True ∧ (0 : Int) = (↑x : Int) ∧ True) ∧ List.filter (U.inFrame d.snd.fst d.snd.snd.fst) (List.take x (U.held d.fst)) = [] ∧ True) ∧ x ≤ (U.held d.fst).length) ∧
  ∀ (x : Nat),
  x ≤ (U.held d.fst).length →
  (U.held d.fst).length < (4611686018427387904 : Nat) →
  (decide ((↑x : Int) < (↑(U.held d.fst).length : Int)) = true →
  (0 : Int) ≤ (↑x : Int) ∧
  (↑x : Int) < (↑(U.held d.fst).length : Int) ∧
  (decide ((nth (U.held d.fst) (↑x : Int).toNat).snd.snd.fst = d.snd.fst) = true → (0 : Int) ≤ (↑x : Int)) ∧
  (decide ((nth (U.held d.fst) (↑x : Int).toNat).snd.snd.fst = d.snd.fst) = true → (↑x : Int) < (↑(U.held d.fst).length : Int)) ∧
  (decide ((nth (U.held d.fst) (↑x : Int).toNat).snd.snd.fst = d.snd.fst) = true → (0 : Int) ≤ (↑x : Int)) ∧
  (decide ((nth (U.held d.fst) (↑x : Int).toNat).snd.snd.fst = d.snd.fst) = true → (↑x : Int) < (↑(U.held d.fst).length : Int)) ∧
  (decide ((nth (U.held d.fst) (↑x : Int).toNat).snd.snd.fst = d.snd.fst) = true → In64 ((nth (U.held d.fst) (↑x : Int).toNat).snd.snd.snd.snd.fst - (1 : Int))) ∧
  ((decide ((nth (U.held d.fst) (↑x : Int).toNat).snd.snd.fst = d.snd.fst) &&
  decide ((nth (U.held d.fst) (↑x : Int).toNat).snd.snd.snd.fst ≤ d.snd.snd.fst ∧ d.snd.snd.fst ≤ (nth (U.held d.fst) (↑x : Int).toNat).snd.snd.snd.snd.fst - (1 : Int))) =
  true →
  (0 : Int) ≤ (↑x : Int) ∧
  (↑x : Int) < (↑(U.held d.fst).length : Int) ∧
  ((List.filter (U.inFrame d.snd.fst d.snd.snd.fst) (List.take x (U.held d.fst))).length + [nth (U.held d.fst) (↑x : Int).toNat].length) * (48 : Nat) ≤ (140737488355328 : Nat) ∧
  In64 ((↑x : Int) + (1 : Int)) ∧
  ∃ (x' : Nat),
  (((↑x : Int) + (1 : Int) = (↑x' : Int) ∧ True ∧ True) ∧
  List.filter (U.inFrame d.snd.fst d.snd.snd.fst) (List.take x (U.held d.fst)) ++ [nth (U.held d.fst) (↑x : Int).toNat] =
  List.filter (U.inFrame d.snd.fst d.snd.snd.fst) (List.take x' (U.held d.fst)) ∧
  True) ∧
  x' ≤ (U.held d.fst).length ∧ (U.held d.fst).length - x' < (U.held d.fst).length - x) ∧
  ((decide ((nth (U.held d.fst) (↑x : Int).toNat).snd.snd.fst = d.snd.fst) &&
  decide ((nth (U.held d.fst) (↑x : Int).toNat).snd.snd.snd.fst ≤ d.snd.snd.fst ∧ d.snd.snd.fst ≤ (nth (U.held d.fst) (↑x : Int).toNat).snd.snd.snd.snd.fst - (1 : Int))) =
  false →
  In64 ((↑x : Int) + (1 : Int)) ∧
  ∃ (x' : Nat),
  ((True ∧ (↑x : Int) + (1 : Int) = (↑x' : Int) ∧ True) ∧
  List.filter (U.inFrame d.snd.fst d.snd.snd.fst) (List.take x (U.held d.fst)) = List.filter (U.inFrame d.snd.fst d.snd.snd.fst) (List.take x' (U.held d.fst)) ∧ True) ∧
  x' ≤ (U.held d.fst).length ∧ (U.held d.fst).length - x' < (U.held d.fst).length - x)) ∧
  (decide ((↑x : Int) < (↑(U.held d.fst).length : Int)) = false → (List.filter (U.inFrame d.snd.fst d.snd.snd.fst) (List.take x (U.held d.fst)), ()) = (U.at' d.fst d.snd.fst d.snd.snd.fst, ()))

theorem vc16_eq : fnVC (ctx 48 [(43, sp43), (41, sp41)] []) (an16) Try.f16 (bodyOf Try.f16) sp16 = vc16 := by kernel_rfl


def sp51 : Spec := ⟨[.val tF, .val (.slice tG)], [.slice .int], false, fun d => [1 ≤ d.1.2.1 ∧ d.1.2.1 ≤ 10], fun d => (U.smallest d.1.2.1 d.2.1, ())⟩
def an51 : Ann := fun r => match r with
  | 3 => some fun σ => { X := Nat, sl := fun i => [(5, .own 5 .int), (6, .dat .int (i : Int))], ob := fun i => [(5, some (.row 3 .int false .yes ((List.range i).foldl (U.stepS (gd (.slice tG) σ 1)) [])))], inv := fun i => i ≤ 2 ^ (gd tF σ 0).2.1.toNat, mu := fun i => 2 ^ (gd tF σ 0).2.1.toNat - i }
  | _ => none
def vc51 : Prop :=
  ∀ (d : (List Int × Int × Unit) × List (Int × Int × Int × Int × Int × Int × Unit) × Unit),
  (1 : Int) ≤ d.fst.snd.fst ∧ d.fst.snd.fst ≤ (10 : Int) →
  (∃ (x : Nat), ((True ∧ (0 : Int) = (↑x : Int) ∧ True) ∧ List.foldl (U.stepS d.snd.fst) [] (List.range x) = [] ∧ True) ∧ x ≤ (2 : Nat) ^ d.fst.snd.fst.toNat) ∧
  ∀ (x : Nat),
  x ≤ (2 : Nat) ^ d.fst.snd.fst.toNat →
  (0 : Int) ≤ d.fst.snd.fst ∧
  d.fst.snd.fst ≤ (18446744073709551615 : Int) ∧
  (0 : Int) ≤ d.fst.snd.fst ∧
  d.fst.snd.fst ≤ (64 : Int) ∧
  In64 ((1 : Int) * (2 : Int) ^ d.fst.snd.fst.toNat) ∧
  (decide ((↑x : Int) < (1 : Int) * (2 : Int) ^ d.fst.snd.fst.toNat) = true →
  ((!U.agrees (↑x : Int) d.snd.fst) = true →
  In64 ((↑x : Int) + (1 : Int)) ∧
  ∃ (x' : Nat),
  ((True ∧ (↑x : Int) + (1 : Int) = (↑x' : Int) ∧ True) ∧ List.foldl (U.stepS d.snd.fst) [] (List.range x) = List.foldl (U.stepS d.snd.fst) [] (List.range x') ∧ True) ∧
  x' ≤ (2 : Nat) ^ d.fst.snd.fst.toNat ∧ (2 : Nat) ^ d.fst.snd.fst.toNat - x' < (2 : Nat) ^ d.fst.snd.fst.toNat - x) ∧
  ((!U.agrees (↑x : Int) d.snd.fst) = false →
  (decide ((0 : Int) < (↑(List.foldl (U.stepS d.snd.fst) [] (List.range x)).length : Int)) = true → (0 : Int) ≤ (0 : Int)) ∧
  (decide ((0 : Int) < (↑(List.foldl (U.stepS d.snd.fst) [] (List.range x)).length : Int)) = true → (0 : Int) < (↑(List.foldl (U.stepS d.snd.fst) [] (List.range x)).length : Int)) ∧
  ((decide ((0 : Int) < (↑(List.foldl (U.stepS d.snd.fst) [] (List.range x)).length : Int)) &&
  decide (U.size (↑x : Int) < U.size (nth (List.foldl (U.stepS d.snd.fst) [] (List.range x)) (Int.toNat (0 : Int))))) =
  true →
  ((!decide ((↑(0 : Nat) : Int) = (0 : Int))) = true → False) ∧
  ((decide ((↑(0 : Nat) : Int) = (0 : Int)) || decide (U.size (↑x : Int) = U.size (0 : Int))) = true →
  [(↑x : Int)].length * (8 : Nat) ≤ (140737488355328 : Nat) ∧
  In64 ((↑x : Int) + (1 : Int)) ∧
  ∃ (x' : Nat),
  (((↑x : Int) + (1 : Int) = (↑x' : Int) ∧ True ∧ True) ∧ [(↑x : Int)] = List.foldl (U.stepS d.snd.fst) [] (List.range x') ∧ True) ∧
  x' ≤ (2 : Nat) ^ d.fst.snd.fst.toNat ∧ (2 : Nat) ^ d.fst.snd.fst.toNat - x' < (2 : Nat) ^ d.fst.snd.fst.toNat - x) ∧
  ((decide ((↑(0 : Nat) : Int) = (0 : Int)) || decide (U.size (↑x : Int) = U.size (0 : Int))) = false →
  In64 ((↑x : Int) + (1 : Int)) ∧
  ∃ (x' : Nat),
  (((↑x : Int) + (1 : Int) = (↑x' : Int) ∧ False ∧ True) ∧ List.foldl (U.stepS d.snd.fst) [] (List.range x) = List.foldl (U.stepS d.snd.fst) [] (List.range x') ∧ True) ∧
  x' ≤ (2 : Nat) ^ d.fst.snd.fst.toNat ∧ (2 : Nat) ^ d.fst.snd.fst.toNat - x' < (2 : Nat) ^ d.fst.snd.fst.toNat - x)) ∧
  ((decide ((0 : Int) < (↑(List.foldl (U.stepS d.snd.fst) [] (List.range x)).length : Int)) &&
  decide (U.size (↑x : Int) < U.size (nth (List.foldl (U.stepS d.snd.fst) [] (List.range x)) (Int.toNat (0 : Int))))) =
  false →
  ((!decide ((↑(List.foldl (U.stepS d.snd.fst) [] (List.range x)).length : Int) = (0 : Int))) = true → (0 : Int) ≤ (0 : Int)) ∧
  ((!decide ((↑(List.foldl (U.stepS d.snd.fst) [] (List.range x)).length : Int) = (0 : Int))) = true → (0 : Int) < (↑(List.foldl (U.stepS d.snd.fst) [] (List.range x)).length : Int)) ∧
  ((decide ((↑(List.foldl (U.stepS d.snd.fst) [] (List.range x)).length : Int) = (0 : Int)) ||
  decide (U.size (↑x : Int) = U.size (nth (List.foldl (U.stepS d.snd.fst) [] (List.range x)) (Int.toNat (0 : Int))))) =
  true →
  ((List.foldl (U.stepS d.snd.fst) [] (List.range x)).length + [(↑x : Int)].length) * (8 : Nat) ≤ (140737488355328 : Nat) ∧
  In64 ((↑x : Int) + (1 : Int)) ∧
  ∃ (x' : Nat),
  (((↑x : Int) + (1 : Int) = (↑x' : Int) ∧ True ∧ True) ∧ List.foldl (U.stepS d.snd.fst) [] (List.range x) ++ [(↑x : Int)] = List.foldl (U.stepS d.snd.fst) [] (List.range x') ∧ True) ∧
  x' ≤ (2 : Nat) ^ d.fst.snd.fst.toNat ∧ (2 : Nat) ^ d.fst.snd.fst.toNat - x' < (2 : Nat) ^ d.fst.snd.fst.toNat - x) ∧
  ((decide ((↑(List.foldl (U.stepS d.snd.fst) [] (List.range x)).length : Int) = (0 : Int)) ||
  decide (U.size (↑x : Int) = U.size (nth (List.foldl (U.stepS d.snd.fst) [] (List.range x)) (Int.toNat (0 : Int))))) =
  false →
  In64 ((↑x : Int) + (1 : Int)) ∧
  ∃ (x' : Nat),
  ((True ∧ (↑x : Int) + (1 : Int) = (↑x' : Int) ∧ True) ∧ List.foldl (U.stepS d.snd.fst) [] (List.range x) = List.foldl (U.stepS d.snd.fst) [] (List.range x') ∧ True) ∧
  x' ≤ (2 : Nat) ^ d.fst.snd.fst.toNat ∧ (2 : Nat) ^ d.fst.snd.fst.toNat - x' < (2 : Nat) ^ d.fst.snd.fst.toNat - x)))) ∧
  (decide ((↑x : Int) < (1 : Int) * (2 : Int) ^ d.fst.snd.fst.toNat) = false → (List.foldl (U.stepS d.snd.fst) [] (List.range x), ()) = (U.smallest d.fst.snd.fst d.snd.fst, ()))

theorem vc51_eq : fnVC (ctx 48 [(23, sp23), (19, sp19)] []) (an51) Try.f51 (bodyOf Try.f51) sp51 = vc51 := by kernel_rfl


def sp31 : Spec := ⟨[.val tF, .val (.slice tG)], [.int], false, fun d => [1 ≤ d.1.2.1 ∧ d.1.2.1 ≤ 10, U.smallest d.1.2.1 d.2.1 ≠ []], fun d => (U.least d.1.2.1 d.2.1, ())⟩
def vc31 : Prop :=
  ∀ (d : (List Int × Int × Unit) × List (Int × Int × Int × Int × Int × Int × Unit) × Unit),
  (1 : Int) ≤ d.fst.snd.fst ∧ d.fst.snd.fst ≤ (10 : Int) →
  U.smallest d.fst.snd.fst d.snd.fst ≠ [] →
  ((1 : Int) ≤ d.fst.snd.fst ∧ d.fst.snd.fst ≤ (10 : Int)) ∧
  (0 : Int) ≤ (0 : Int) ∧ (0 : Int) < (↑(U.smallest d.fst.snd.fst d.snd.fst).length : Int) ∧ (U.size (nth (U.smallest d.fst.snd.fst d.snd.fst) (Int.toNat (0 : Int))), ()) = (U.least d.fst.snd.fst d.snd.fst, ())

theorem vc31_eq : fnVC (ctx 11 [(51, sp51), (19, sp19)] []) (fun _ => none) Try.f31 (bodyOf Try.f31) sp31 = vc31 := by kernel_rfl


def sp14 : Spec := ⟨[.val tF, .val (.slice tG), .val .int, .val .int], [.int], false, fun _ => [], fun d => (U.frameErr d.1 d.2.1 d.2.2.1 d.2.2.2.1, ())⟩
def vc14 : Prop :=
  ∀ (d : (List Int × Int × Unit) × List (Int × Int × Int × Int × Int × Int × Unit) × Int × Int × Unit),
  (decide (U.check (d.fst.fst, d.fst.snd.fst, ()) d.snd.fst ≠ (0 : Int)) = true → (U.check (d.fst.fst, d.fst.snd.fst, ()) d.snd.fst, ()) = (U.frameErr d.fst d.snd.fst d.snd.snd.fst d.snd.snd.snd.fst, ())) ∧
  (decide (U.check (d.fst.fst, d.fst.snd.fst, ()) d.snd.fst ≠ (0 : Int)) = false →
  d.fst.fst.length < (4611686018427387904 : Nat) →
  In64 ((↑d.fst.fst.length : Int) - (1 : Int)) ∧
  ((!!decide ((0 : Int) ≤ d.snd.snd.fst ∧ d.snd.snd.fst ≤ (↑d.fst.fst.length : Int) - (1 : Int))) = true → (0 : Int) ≤ d.snd.snd.fst) ∧
  ((!!decide ((0 : Int) ≤ d.snd.snd.fst ∧ d.snd.snd.fst ≤ (↑d.fst.fst.length : Int) - (1 : Int))) = true → d.snd.snd.fst < (↑d.fst.fst.length : Int)) ∧
  ((!!decide ((0 : Int) ≤ d.snd.snd.fst ∧ d.snd.snd.fst ≤ (↑d.fst.fst.length : Int) - (1 : Int))) = true → In64 (nth d.fst.fst d.snd.snd.fst.toNat - (1 : Int))) ∧
  ((!decide ((0 : Int) ≤ d.snd.snd.fst ∧ d.snd.snd.fst ≤ (↑d.fst.fst.length : Int) - (1 : Int)) || !decide ((0 : Int) ≤ d.snd.snd.snd.fst ∧ d.snd.snd.snd.fst ≤ nth d.fst.fst d.snd.snd.fst.toNat - (1 : Int))) = true →
  ((1 : Int), ()) = (U.frameErr d.fst d.snd.fst d.snd.snd.fst d.snd.snd.snd.fst, ())) ∧
  ((!decide ((0 : Int) ≤ d.snd.snd.fst ∧ d.snd.snd.fst ≤ (↑d.fst.fst.length : Int) - (1 : Int)) || !decide ((0 : Int) ≤ d.snd.snd.snd.fst ∧ d.snd.snd.snd.fst ≤ nth d.fst.fst d.snd.snd.fst.toNat - (1 : Int))) = false →
  ((0 : Int), ()) = (U.frameErr d.fst d.snd.fst d.snd.snd.fst d.snd.snd.snd.fst, ())))

theorem vc14_eq : fnVC (ctx 34 [(38, sp38), (41, sp41)] []) (fun _ => none) Try.f14 (bodyOf Try.f14) sp14 = vc14 := by kernel_rfl


def sp20 : Spec := ⟨[.val .int, .val .int], [.bool], false, fun _ => [], fun d => (U.areAuthors d.1 d.2.1, ())⟩
def vc20 : Prop :=
  ∀ (d : Int × Int × Unit), (decide ((0 : Int) ≤ d.fst ∧ d.fst ≤ (7 : Int)) && decide ((0 : Int) ≤ d.snd.fst ∧ d.snd.fst ≤ (7 : Int)) && decide (d.fst ≠ d.snd.fst), ()) = (U.areAuthors d.fst d.snd.fst, ())

theorem vc20_eq : fnVC (ctx 16 [(41, sp41)] []) (fun _ => none) Try.f20 (bodyOf Try.f20) sp20 = vc20 := by kernel_rfl


def sp52 : Spec := ⟨[.val (.slice tG), .val .int], [.int], false, fun _ => [], fun d => (U.by' d.1 d.2.1, ())⟩
def an52 : Ann := fun r => match r with
  | 2 => some fun σ => { X := Nat, sl := fun i => [(5, .dat .int (i : Int))], ob := fun _ => [], inv := fun i => i ≤ (gd (.slice tG) σ 0).length ∧ ∀ g ∈ (gd (.slice tG) σ 0).take i, ¬ U.au g = gd .int σ 1, mu := fun i => (gd (.slice tG) σ 0).length - i }
  | _ => none
def vc52 : Prop :=
  ∀ (d : List (Int × Int × Int × Int × Int × Int × Unit) × Int × Unit),
  (∃ (x : Nat), (((0 : Int) = (↑x : Int) ∧ True) ∧ True) ∧ x ≤ d.fst.length ∧ ∀ (g : Int × Int × Int × Int × Int × Int × Unit), g ∈ List.take x d.fst → ¬U.au g = d.snd.fst) ∧
  ∀ (x : Nat),
  (x ≤ d.fst.length ∧ ∀ (g : Int × Int × Int × Int × Int × Int × Unit), g ∈ List.take x d.fst → ¬U.au g = d.snd.fst) →
  d.fst.length < (4611686018427387904 : Nat) →
  (decide ((↑x : Int) < (↑d.fst.length : Int)) = true →
  (0 : Int) ≤ (↑x : Int) ∧
  (↑x : Int) < (↑d.fst.length : Int) ∧
  (decide ((nth d.fst (↑x : Int).toNat).fst = d.snd.fst) = true → (0 : Int) ≤ (↑x : Int) ∧ (↑x : Int) < (↑d.fst.length : Int) ∧ ((nth d.fst (↑x : Int).toNat).snd.snd.snd.snd.snd.fst, ()) = (U.by' d.fst d.snd.fst, ())) ∧
  (decide ((nth d.fst (↑x : Int).toNat).fst = d.snd.fst) = false →
  In64 ((↑x : Int) + (1 : Int)) ∧
  ∃ (x' : Nat),
  (((↑x : Int) + (1 : Int) = (↑x' : Int) ∧ True) ∧ True) ∧
  (x' ≤ d.fst.length ∧ ∀ (g : Int × Int × Int × Int × Int × Int × Unit), g ∈ List.take x' d.fst → ¬U.au g = d.snd.fst) ∧ d.fst.length - x' < d.fst.length - x)) ∧
  (decide ((↑x : Int) < (↑d.fst.length : Int)) = false → ((0 : Int), ()) = (U.by' d.fst d.snd.fst, ()))

theorem vc52_eq : fnVC (ctx 24 [] []) (an52) Try.f52 (bodyOf Try.f52) sp52 = vc52 := by kernel_rfl


end Go.X
/-
  The functions of the specification of layer 2 return what they are asked to (2).
-/
namespace Go.X
open Go.Proofs

namespace L
theorem not_false {b : Bool} (h : (!b) = false) : b = true := by cases b; cases h; rfl
theorem not_true {b : Bool} (h : (!b) = true) : b = false := by cases b; rfl; cases h
theorem filter_take_pos {α : Type} [Inhabited α] {l : List α} {i : Nat} {p : α → Bool} (h : i < l.length) (hp : p (nth l i) = true) : (l.take (i + 1)).filter p = (l.take i).filter p ++ [nth l i] := by
  rw [take_succ h, List.filter_append]; simp [hp]
theorem filter_take_neg {α : Type} [Inhabited α] {l : List α} {i : Nat} {p : α → Bool} (h : i < l.length) (hp : p (nth l i) = false) : (l.take (i + 1)).filter p = (l.take i).filter p := by
  rw [take_succ h, List.filter_append]; simp [hp]
theorem filter_take_all {α : Type} {l : List α} {i : Nat} {p : α → Bool} (h : l.length ≤ i) : (l.take i).filter p = l.filter p := by
  rw [List.take_of_length_le h]
theorem filter_take_len {α : Type} {l : List α} {i : Nat} {p : α → Bool} : ((l.take i).filter p).length ≤ l.length :=
  Nat.le_trans (List.length_filter_le _ _) (by rw [List.length_take]; omega)
end L

theorem band_one (x : Int) : band x 1 = x % 2 := by
  unfold band
  have h1 : (BitVec.ofInt 64 1) = 1#64 := rfl
  rw [h1]
  have h : (BitVec.ofInt 64 x &&& 1#64).toNat = (BitVec.ofInt 64 x).toNat % 2 := by
    rw [BitVec.toNat_and]; simp [Nat.and_one_is_mod]
  rw [h]
  have h2 : ((BitVec.ofInt 64 x).toNat : Int) = x % (2 ^ 64 : Nat) := by
    rw [BitVec.toNat_ofInt]
    exact Int.toNat_of_nonneg (Int.emod_nonneg _ (by decide))
  have h3 : (((BitVec.ofInt 64 x).toNat % 2 : Nat) : Int) = x % 2 := by
    rw [Int.natCast_emod, h2]; simp only [Nat.reducePow]; omega
  rw [h3]
  have : x % 2 = 0 ∨ x % 2 = 1 := by omega
  rcases this with h | h <;> rw [h] <;> rfl

theorem sizeTo_bound (s : Int) (n : Nat) : 0 ≤ U.sizeTo s n ∧ U.sizeTo s n ≤ n := by
  induction n with
  | zero => simp [U.sizeTo]
  | succ n ih => simp only [U.sizeTo, U.bit]; omega

theorem h19 : vc19 := by
  intro d
  refine ⟨⟨0, ⟨⟨rfl, rfl, trivial⟩, trivial⟩, by omega⟩, fun i hi => ⟨fun h => ?_, fun h => ?_⟩⟩
  · have h : i < 10 := by simp at h; omega
    have hb := sizeTo_bound d.1 i
    rw [band_one]
    simp only [Int.toNat_natCast]
    have hs : U.sizeTo d.1 (i + 1) = U.sizeTo d.1 i + d.1 / 2 ^ i % 2 := rfl
    have := Int.emod_two_eq (d.1 / 2 ^ i)
    refine ⟨by omega, by omega, by omega, by omega, by unfold In64; omega, by unfold In64; omega, i + 1, ⟨⟨by simp, hs.symm, trivial⟩, trivial⟩, by omega, by omega⟩
  · have h : i = 10 := by simp at h; omega
    subst h; rfl

theorem ok19 : FnOK PR 19 sp19 := mkFn (vc19_eq.mpr h19) Try.func19 (by kernel_rfl) (by kernel_rfl) (by kernel_rfl) (by kernel_rfl) trivial trivial

theorem h23 : vc23 := by
  rintro ⟨s, l, ⟨⟩⟩
  refine ⟨⟨0, ⟨⟨rfl, trivial⟩, trivial⟩, Nat.zero_le _, by simp [U.agrees]⟩, fun i hi hl => ⟨fun h => ?_, fun h => ?_⟩⟩
  · have h : i < l.length := by simpa using h
    simp only [Int.toNat_natCast] at *
    refine ⟨by omega, by omega, fun hb => ?_, fun hb => ⟨L.in64 (by omega) (by omega), i + 1, ⟨⟨by simp, trivial⟩, trivial⟩, ⟨by omega, ?_⟩, by omega⟩⟩
    · have : U.agrees s l = false := L.all_false h (by rw [show U.sg (nth l i) = (nth l i).2.2.2.2.2.1 from rfl, hb]; rfl)
      rw [this]
    · exact L.all_take h hi.2 (by rw [show U.sg (nth l i) = (nth l i).2.2.2.2.2.1 from rfl, hb]; rfl)
  · have h : l.length ≤ i := by simpa using h
    rw [show U.agrees s l = true from L.all_of_take h hi.2]

theorem ok23 : FnOK PR 23 sp23 := mkFn (vc23_eq.mpr h23) Try.func23 (by kernel_rfl) (by kernel_rfl) (by kernel_rfl) (by kernel_rfl) trivial trivial

theorem h85 : vc85 := by
  rintro ⟨a, b, ⟨⟩⟩
  congr 1
  rw [Bool.eq_iff_iff]
  simp only [Bool.and_eq_true, decide_eq_true_eq, and_assoc]
  exact ⟨fun h => decide_eq_true h, fun h => of_decide_eq_true h⟩

theorem ok85 : FnOK PR 85 sp85 := mkFn (vc85_eq.mpr h85) Try.func85 (by kernel_rfl) (by kernel_rfl) (by kernel_rfl) (by kernel_rfl) trivial trivial

theorem holds_all {l : List GD} {g : GD} {i : Nat} (hi : i < l.length) (h : U.later (nth l i) g = true) : U.holds l g = false := by
  unfold U.holds
  rw [L.all_false hi (by rw [h]; rfl)]; rfl

theorem h67 : vc67 := by
  rintro ⟨l, g, ⟨⟩⟩
  refine ⟨⟨0, ⟨⟨rfl, trivial⟩, trivial⟩, Nat.zero_le _, fun b hb => by omega⟩, fun i hi hl => ⟨fun h => ?_, fun h => ?_⟩⟩
  · have h : i < l.length := by simpa using h
    simp only [Int.toNat_natCast] at *
    have key : (decide ((nth l i).1 = g.1) && decide (g.2.1 < (nth l i).2.1) && U.over (nth l i) g) = U.later (nth l i) g := by
      unfold U.later U.au U.st; rw [Bool.decide_and]
    refine ⟨by omega, by omega, fun hb => ?_, fun hb => ⟨L.in64 (by omega) (by omega), i + 1, ⟨⟨by simp, trivial⟩, trivial⟩, ⟨by omega, fun b hb' => ?_⟩, by omega⟩⟩
    · rw [holds_all h (key.symm.trans hb)]
    · by_cases e : b = i
      · subst e; exact key.symm.trans hb
      · exact hi.2 b (by omega)
  · have h : l.length ≤ i := by simpa using h
    have : l.all (fun m => !U.later m g) = true := by
      rw [List.all_eq_true]
      intro m hm
      obtain ⟨k, hk, rfl⟩ := L.mem_iff.1 hm
      rw [hi.2 k (by omega)]; rfl
    unfold U.holds
    rw [this, Bool.true_and]
    congr 1
    rw [Bool.eq_iff_iff]
    simp only [Bool.not_eq_true', decide_eq_true_eq]
    exact ⟨fun h => decide_eq_false h, fun h => of_decide_eq_false h⟩

theorem ok67 : FnOK PR 67 sp67 := mkFn (vc67_eq.mpr h67) Try.func67 (by kernel_rfl) (by kernel_rfl) (by kernel_rfl) (by kernel_rfl) ⟨fun _ => ok85, trivial⟩ trivial

/-! ### the sorted row -/

theorem ins_len (m : GD) (o : List GD) : (U.ins m o).length ≤ o.length + 1 := by
  induction o with
  | nil => simp [U.ins]
  | cons x r ih => unfold U.ins; split; · simp; omega
                   · split <;> simp

theorem srt_succ {l : List GD} {i : Nat} (h : i < l.length) : U.srt (l.take (i + 1)) = U.ins (nth l i) (U.srt (l.take i)) := by
  unfold U.srt; rw [L.take_succ h, List.foldl_append]; rfl

theorem srt_len (l : List GD) : (U.srt l).length ≤ l.length := by
  unfold U.srt
  suffices h : ∀ (l o : List GD), (l.foldl (fun o m => U.ins m o) o).length ≤ o.length + l.length by simpa using h l []
  intro l
  induction l with
  | nil => intro o; simp
  | cons x r ih => intro o; have := ih (U.ins x o); have := ins_len x o; simp only [List.foldl_cons, List.length_cons]; omega

theorem ltk_irrefl (m : GD) : U.ltk m m = false := by unfold U.ltk; simp

theorem ins_at (m : GD) : ∀ (o : List GD) (k : Nat), k ≤ o.length → (∀ b, b < k → U.ltk (nth o b) m = true) → (k = o.length ∨ U.ltk (nth o k) m = false) →
    ((k = o.length ∨ nth o k ≠ m) → U.ins m o = o.take k ++ m :: o.drop k) ∧ (k < o.length → nth o k = m → U.ins m o = o) := by
  intro o
  induction o with
  | nil => intro k hk _ _; simp at hk; subst hk; simp [U.ins]
  | cons x r ih =>
    intro k hk hlt hge
    cases k with
    | zero =>
      have hx : nth (x :: r) 0 = x := rfl
      rw [hx] at *
      have hx0 : U.ltk x m = false := by rcases hge with h | h; · simp at h
                                         · exact h
      refine ⟨fun h => ?_, fun _ h => ?_⟩
      · have hne : x ≠ m := by rcases h with h | h; · simp at h
                               · exact h
        simp [U.ins, hx0, hne]
      · subst h; simp [U.ins, hx0]
    | succ k =>
      have hx : U.ltk x m = true := hlt 0 (by omega)
      have hn : ∀ b, nth (x :: r) (b + 1) = nth r b := fun b => rfl
      have := ih k (by simpa using hk) (fun b hb => hlt (b + 1) (by omega)) (by rcases hge with h | h; · left; simpa using h
                                                                                · right; exact h)
      rw [hn]
      refine ⟨fun h => ?_, fun h1 h2 => ?_⟩
      · have := this.1 (by rcases h with h | h; · left; simpa using h
                           · right; exact h)
        simp [U.ins, hx, this]
      · have := this.2 (by simpa using h1) h2
        simp [U.ins, hx, this]

theorem h66 : vc66 := by
  rintro ⟨l, ⟨⟩⟩ hsm
  have hsm : l.length ≤ 100000 := hsm
  refine ⟨⟨0, ⟨⟨trivial, rfl, trivial⟩, rfl, trivial⟩, Nat.zero_le _⟩, fun i hi hl => ⟨fun h => ?_, fun h => ?_⟩⟩
  · have h : i < l.length := by simpa using h
    simp only [Int.toNat_natCast, Int.toNat_zero, Nat.sub_zero]
    have hs := srt_succ h
    have hlen : (U.srt (l.take i)).length ≤ 100000 := Nat.le_trans (srt_len _) (by rw [List.length_take]; omega)
    generalize U.srt (l.take i) = o at *
    refine ⟨⟨0, ⟨⟨rfl, trivial⟩, trivial⟩, Nat.zero_le _, fun b hb => by omega⟩, fun k hk => ?_⟩
    have hltk : U.ltk (nth o k) (nth l i) = (decide ((nth o k).1 < (nth l i).1) || decide ((nth o k).1 = (nth l i).1) && decide ((nth o k).2.1 < (nth l i).2.1)) := by
      rw [Bool.eq_iff_iff]
      simp only [Bool.or_eq_true, Bool.and_eq_true, decide_eq_true_eq]
      exact ⟨fun h => of_decide_eq_true h, fun h => decide_eq_true h⟩
    rw [← hltk]
    have hat := ins_at (nth l i) o k hk.1 hk.2
    simp only [Bool.and_eq_true, Bool.or_eq_true, Bool.not_eq_true', decide_eq_true_eq, decide_eq_false_iff_not, Bool.and_eq_false_iff, Bool.or_eq_false_iff]
    refine ⟨by omega, by omega, by omega, by omega, by omega, by omega, by omega, by omega, by omega, by omega, by omega, by omega, fun hc => ⟨L.in64 (by omega) (by omega), k + 1, ⟨⟨by simp, trivial⟩, trivial⟩, ⟨by omega, fun b hb => ?_⟩, by omega⟩, fun hc => ?_⟩
    · by_cases e : b = k
      · subst e; exact hc.2
      · exact hk.2 b (by omega)
    · have hge : k = o.length ∨ U.ltk (nth o k) (nth l i) = false := by
        rcases hc with hc | hc
        · left; omega
        · right; exact hc
      have hat := hat hge
      refine ⟨by omega, by omega, by omega, by omega, fun hn => ?_, fun hn => ⟨L.in64 (by omega) (by omega), i + 1, ⟨⟨trivial, by simp, trivial⟩, ?_, trivial⟩, by omega, by omega⟩⟩
      · have hn : k = o.length ∨ nth o k ≠ nth l i := by
          rcases hn with hn | hn
          · left; omega
          · right; exact hn
        have e : List.take (o.length - k) (o.drop k) = o.drop k := List.take_of_length_le (by simp)
        rw [e]
        refine ⟨by omega, by omega, by omega, by omega, by omega, by omega, by omega, by omega, ?_, ?_, L.in64 (by omega) (by omega), i + 1, ⟨⟨by simp, trivial, trivial⟩, ?_, trivial⟩, by omega, by omega⟩
        · simp only [List.length_cons, List.length_nil, List.length_drop]; omega
        · simp only [List.length_cons, List.length_drop]; omega
        · rw [hs]; exact (hat.1 hn).symm
      · rw [hs]; exact (hat.2 (by omega) (of_decide_eq_true (L.not_false hn.2))).symm
  · have h : l.length ≤ i := by simpa using h
    simp only [List.take_of_length_le h]

theorem ok66 : FnOK PR 66 sp66 := mkFn (vc66_eq.mpr h66) Try.func66 (by kernel_rfl) (by kernel_rfl) (by kernel_rfl) (by kernel_rfl) trivial trivial

theorem h43 : vc43 := by
  rintro ⟨l, ⟨⟩⟩ hsm
  have hsm : l.length ≤ 100000 := hsm
  have hlen := srt_len l
  refine ⟨hsm, ⟨0, ⟨⟨trivial, rfl, trivial⟩, rfl, trivial⟩, Nat.zero_le _⟩, fun i hi hl => ⟨fun h => ?_, fun h => ?_⟩⟩
  · have h : i < (U.srt l).length := by simpa using h
    simp only [Int.toNat_natCast] at *
    have hf := L.filter_take_len (l := U.srt l) (i := i) (p := U.holds l)
    refine ⟨by omega, by omega, fun hb => ⟨by omega, by omega, ?_, L.in64 (by omega) (by omega), i + 1, ⟨⟨by simp, trivial, trivial⟩, ?_, trivial⟩, by omega, by omega⟩, fun hb => ⟨L.in64 (by omega) (by omega), i + 1, ⟨⟨trivial, by simp, trivial⟩, ?_, trivial⟩, by omega, by omega⟩⟩
    · simp only [List.length_cons, List.length_nil]; omega
    · exact (L.filter_take_pos h hb).symm
    · exact (L.filter_take_neg h hb).symm
  · have h : (U.srt l).length ≤ i := by simpa using h
    simp only [L.filter_take_all h]; rfl

theorem ok43 : FnOK PR 43 sp43 := mkFn (vc43_eq.mpr h43) Try.func43 (by kernel_rfl) (by kernel_rfl) (by kernel_rfl) (by kernel_rfl) ⟨fun _ => ok66, fun _ => ok67, trivial⟩ trivial

theorem held_len (l : List GD) : (U.held l).length ≤ l.length := Nat.le_trans (List.length_filter_le _ _) (srt_len l)

theorem mem_ins {m x : GD} {o : List GD} (h : x ∈ U.ins m o) : x = m ∨ x ∈ o := by
  induction o with
  | nil => simpa [U.ins] using h
  | cons y r ih =>
    unfold U.ins at h
    split at h
    · rcases List.mem_cons.1 h with h | h
      · right; simp [h]
      · rcases ih h with h | h
        · exact .inl h
        · right; simp [h]
    · split at h
      · right; exact h
      · rcases List.mem_cons.1 h with h | h
        · exact .inl h
        · exact .inr h

theorem mem_srt {x : GD} {l : List GD} (h : x ∈ U.srt l) : x ∈ l := by
  unfold U.srt at h
  suffices g : ∀ (l o : List GD), x ∈ l.foldl (fun o m => U.ins m o) o → x ∈ o ∨ x ∈ l by
    rcases g l [] h with g | g
    · cases g
    · exact g
  intro l
  induction l with
  | nil => intro o h; exact .inl h
  | cons y r ih =>
    intro o h
    rcases ih _ h with h | h
    · rcases mem_ins h with h | h
      · right; simp [h]
      · exact .inl h
    · right; simp [h]

theorem mem_held {x : GD} {l : List GD} (h : x ∈ U.held l) : x ∈ l := mem_srt (List.mem_filter.1 h).1

theorem h16 : vc16 := by
  rintro ⟨l, film, frame, ⟨⟩⟩ hsm hto
  have hsm : l.length ≤ 100000 := hsm
  have hto : ∀ g ∈ l, 0 < U.to g ∧ U.to g ≤ 1000 := hto
  have hlen := held_len l
  refine ⟨hsm, ⟨0, ⟨⟨trivial, rfl, trivial⟩, rfl, trivial⟩, Nat.zero_le _⟩, fun i hi hl => ⟨fun h => ?_, fun h => ?_⟩⟩
  · have h : i < (U.held l).length := by simpa using h
    simp only [Int.toNat_natCast] at *
    have hf := L.filter_take_len (l := U.held l) (i := i) (p := U.inFrame film frame)
    have ht := hto _ (mem_held (L.mem_nth h))
    have key : (decide ((nth (U.held l) i).2.2.1 = film) && decide ((nth (U.held l) i).2.2.2.1 ≤ frame ∧ frame ≤ (nth (U.held l) i).2.2.2.2.1 - 1)) = U.inFrame film frame (nth (U.held l) i) := by
      rw [Bool.eq_iff_iff]
      simp only [Bool.and_eq_true, decide_eq_true_eq]
      exact ⟨fun h => decide_eq_true h, fun h => of_decide_eq_true h⟩
    refine ⟨by omega, by omega, fun _ => by omega, fun _ => by omega, fun _ => by omega, fun _ => by omega, fun _ => ?_, fun hb => ⟨by omega, by omega, ?_, L.in64 (by omega) (by omega), i + 1, ⟨⟨by simp, trivial, trivial⟩, ?_, trivial⟩, by omega, by omega⟩, fun hb => ⟨L.in64 (by omega) (by omega), i + 1, ⟨⟨trivial, by simp, trivial⟩, ?_, trivial⟩, by omega, by omega⟩⟩
    · have e : U.to (nth (U.held l) i) = (nth (U.held l) i).2.2.2.2.1 := rfl
      rw [e] at ht; unfold In64; omega
    · simp only [List.length_cons, List.length_nil]; omega
    · exact (L.filter_take_pos h (key.symm.trans hb)).symm
    · exact (L.filter_take_neg h (key.symm.trans hb)).symm
  · have h : (U.held l).length ≤ i := by simpa using h
    simp only [L.filter_take_all h]; rfl

theorem ok16 : FnOK PR 16 sp16 := mkFn (vc16_eq.mpr h16) Try.func16 (by kernel_rfl) (by kernel_rfl) (by kernel_rfl) (by kernel_rfl) ⟨fun _ => ok43, fun _ => ok41, trivial⟩ trivial

/-! ### the smallest sets -/

theorem small_succ (l : List GD) (i : Nat) : (List.range (i + 1)).foldl (U.stepS l) [] = U.stepS l ((List.range i).foldl (U.stepS l) []) i := by
  rw [List.range_succ, List.foldl_append]; rfl

theorem better_len (o : List Int) (s : Int) : (U.better o s).length ≤ o.length + 1 := by
  unfold U.better; split
  · simp
  · split <;> simp

theorem small_len (l : List GD) (i : Nat) : ((List.range i).foldl (U.stepS l) []).length ≤ i := by
  induction i with
  | zero => simp
  | succ i ih =>
    rw [small_succ]
    generalize (List.range i).foldl (U.stepS l) [] = o at *
    unfold U.stepS; split
    · have := better_len o i; omega
    · omega

theorem h51 : vc51 := by
  rintro ⟨⟨fr, s, ⟨⟩⟩, l, ⟨⟩⟩ hs
  have hs : 1 ≤ s ∧ s ≤ 10 := hs
  have hp := pow_in (by omega) hs.2
  have hpn : (((2 : Nat) ^ s.toNat : Nat) : Int) = (2 : Int) ^ s.toNat := by simp
  simp only [Int.one_mul]
  refine ⟨⟨0, ⟨⟨trivial, rfl, trivial⟩, rfl, trivial⟩, Nat.zero_le _⟩, fun i hi => ⟨by omega, by omega, by omega, by omega, by unfold In64; omega, fun h => ?_, fun h => ?_⟩⟩
  · have h : i < 2 ^ s.toNat := by have := of_decide_eq_true h; omega
    have hlen := small_len l i
    have hsucc := small_succ l i
    generalize hn : (2 : Nat) ^ s.toNat = n at *
    generalize List.foldl (U.stepS l) [] (List.range i) = o at *
    have hi64 : In64 ((i : Int) + 1) := by unfold In64; omega
    refine ⟨fun hb => ⟨hi64, i + 1, ⟨⟨trivial, by simp, trivial⟩, ?_, trivial⟩, by omega, by omega⟩, fun hb => ?_⟩
    · have hb : U.agrees (i : Int) l = false := by simpa using hb
      rw [hsucc, U.stepS, if_neg (by rw [hb]; intro h; cases h)]
    · have hb : U.agrees (i : Int) l = true := by simpa using hb
      have hst : U.stepS l o i = U.better o i := by rw [U.stepS, if_pos hb]
      rw [hst] at hsucc
      refine ⟨fun _ => by omega, fun h => of_decide_eq_true h, fun hc => ⟨fun h0 => ?_, fun _ => ⟨by simp only [List.length_cons, List.length_nil]; omega, hi64, i + 1, ⟨⟨by simp, trivial, trivial⟩, ?_, trivial⟩, by omega, by omega⟩, fun h0 => ?_⟩, fun hc => ⟨fun _ => by omega, fun h0 => ?_, fun hd => ⟨?_, hi64, i + 1, ⟨⟨by simp, trivial, trivial⟩, ?_, trivial⟩, by omega, by omega⟩, fun hd => ⟨hi64, i + 1, ⟨⟨trivial, by simp, trivial⟩, ?_, trivial⟩, by omega, by omega⟩⟩⟩
      · simp at h0
      · rw [hsucc, U.better, if_pos]
        simp only [Bool.and_eq_true, decide_eq_true_eq] at hc
        exact ⟨fun e => by subst e; simp at hc, hc.2⟩
      · simp at h0
      · have h0 := of_decide_eq_false (L.not_true h0); omega
      · simp only [List.length_cons, List.length_nil]; omega
      · have hn : ¬ (o ≠ [] ∧ U.size i < U.size (nth o 0)) := by
          rintro ⟨h1, h2⟩
          have := List.length_pos_iff.mpr h1
          simp only [Bool.and_eq_false_iff, decide_eq_false_iff_not] at hc
          rcases hc with hc | hc
          · omega
          · exact hc h2
        rw [hsucc, U.better, if_neg hn, if_pos]
        simp only [Bool.or_eq_true, decide_eq_true_eq] at hd
        rcases hd with hd | hd
        · left; exact List.length_eq_zero_iff.mp (by omega)
        · right; exact hd
      · have hn : ¬ (o ≠ [] ∧ U.size i < U.size (nth o 0)) := by
          rintro ⟨h1, h2⟩
          have := List.length_pos_iff.mpr h1
          simp only [Bool.and_eq_false_iff, decide_eq_false_iff_not] at hc
          rcases hc with hc | hc
          · omega
          · exact hc h2
        rw [hsucc, U.better, if_neg hn, if_neg]
        simp only [Bool.or_eq_false_iff, decide_eq_false_iff_not] at hd
        rintro (h | h)
        · subst h; simp at hd
        · exact hd.2 h
  · have h : 2 ^ s.toNat ≤ i := by have := of_decide_eq_false h; omega
    have : i = 2 ^ s.toNat := by omega
    subst this; rfl

theorem ok51 : FnOK PR 51 sp51 := mkFn (vc51_eq.mpr h51) Try.func51 (by kernel_rfl) (by kernel_rfl) (by kernel_rfl) (by kernel_rfl) ⟨fun _ => ok23, fun _ => ok19, trivial⟩ trivial

theorem h31 : vc31 := by
  rintro ⟨⟨fr, s, ⟨⟩⟩, l, ⟨⟩⟩ hs hne
  have : 0 < (U.smallest s l).length := List.length_pos_iff.mpr hne
  exact ⟨hs, by omega, by simpa using this, rfl⟩

theorem ok31 : FnOK PR 31 sp31 := mkFn (vc31_eq.mpr h31) Try.func31 (by kernel_rfl) (by kernel_rfl) (by kernel_rfl) (by kernel_rfl) ⟨fun _ => ok51, fun _ => ok19, trivial⟩ trivial

theorem check_films {f : FD} {l : List GD} (h : U.check f l = 0) : U.okFilms f = true ∧ l.all (U.okGloss f) = true ∧ l.length ≤ 40 ∧ U.clash l = false := by
  unfold U.check at h
  split at h
  case isFalse => cases h
  rename_i h1
  split at h
  case isFalse => cases h
  rename_i h2
  split at h
  · cases h
  · rename_i h3
    simp only [Bool.and_eq_true, decide_eq_true_eq] at h2
    exact ⟨h1, h2.1, h2.2, by simpa using h3⟩

theorem film_len {f : FD} (h : U.okFilms f = true) {i : Nat} (hi : i < f.1.length) : 1 ≤ nth f.1 i ∧ nth f.1 i ≤ 200 := (okFilms_iff.1 h).1 _ (L.mem_nth hi)

theorem h14 : vc14 := by
  rintro ⟨⟨fr, s, ⟨⟩⟩, l, film, frame, ⟨⟩⟩
  simp only
  refine ⟨fun h => ?_, fun h hl => ?_⟩
  · have h : U.check (fr, s, ()) l ≠ 0 := of_decide_eq_true h
    unfold U.frameErr; rw [if_pos h]
  · have h : ¬ U.check (fr, s, ()) l ≠ 0 := of_decide_eq_false h
    have hc := check_films (Classical.not_not.1 h)
    have hlen := (okFilms_iff.1 hc.1).2.1
    have hlen2 := (okFilms_iff.1 hc.1).2.2.1
    have hfl : 0 ≤ film → film < fr.length → 1 ≤ nth fr film.toNat ∧ nth fr film.toNat ≤ 200 := fun h0 h1 => film_len hc.1 (i := film.toNat) (by show film.toNat < fr.length; omega)
    unfold U.frameErr
    rw [if_neg h]
    simp only [Bool.not_eq_true', Bool.not_eq_false', Bool.or_eq_true, Bool.or_eq_false_iff, decide_eq_true_eq, decide_eq_false_iff_not, Bool.not_not] at *
    generalize nth fr film.toNat = n at *
    refine ⟨by unfold In64; omega, fun hb => hb.1, fun hb => by omega, fun hb => by unfold In64; omega, fun hb => ?_, fun hb => ?_⟩
    · rw [if_neg (by omega)]
    · rw [if_pos (by omega)]

theorem w14 : fnVC (ctx 34 [(38, sp38), (41, sp41)] []) (fun _ => none) Try.f14 (bodyOf Try.f14) sp14 := by rw [vc14_eq]; exact h14

theorem ok14 : FnOK PR 14 sp14 := mkFn w14 Try.func14 (by kernel_rfl) (by kernel_rfl) (by kernel_rfl) (by kernel_rfl) ⟨fun _ => ok38, fun _ => ok41, trivial⟩ trivial

theorem h52 : vc52 := by
  rintro ⟨l, a, ⟨⟩⟩
  refine ⟨⟨0, ⟨⟨rfl, trivial⟩, trivial⟩, Nat.zero_le _, fun g hg => by simp at hg⟩, fun i hi hl => ⟨fun h => ?_, fun h => ?_⟩⟩
  · have h : i < l.length := by simpa using h
    simp only [Int.toNat_natCast] at *
    refine ⟨by omega, by omega, fun hb => ⟨by omega, by omega, ?_⟩, fun hb => ⟨L.in64 (by omega) (by omega), i + 1, ⟨⟨by simp, trivial⟩, trivial⟩, ⟨by omega, ?_⟩, by omega⟩⟩
    · have hb : U.au (nth l i) = a := of_decide_eq_true hb
      have : l.find? (fun g => decide (U.au g = a)) = some (nth l i) := by
        have e : l = l.take i ++ nth l i :: l.drop (i + 1) := by
          rw [L.nth_lt h, ← List.drop_eq_getElem_cons h, List.take_append_drop]
        rw [e, List.find?_append, List.find?_eq_none.2 (fun g hg => by simpa using hi.2 g hg)]
        rw [← e]
        simp [List.find?, hb]
      unfold U.by'; rw [this]; rfl
    · have hb : ¬ U.au (nth l i) = a := of_decide_eq_false hb
      intro g hg
      rw [L.take_succ h] at hg
      rcases List.mem_append.1 hg with hg | hg
      · exact hi.2 g hg
      · simp at hg; subst hg; exact hb
  · have h : l.length ≤ i := by simpa using h
    have : l.find? (fun g => decide (U.au g = a)) = none := List.find?_eq_none.2 (fun g hg => by simpa using hi.2 g (by rw [List.take_of_length_le h]; exact hg))
    unfold U.by'; rw [this]

theorem ok52 : FnOK PR 52 sp52 := mkFn (vc52_eq.mpr h52) Try.func52 (by kernel_rfl) (by kernel_rfl) (by kernel_rfl) (by kernel_rfl) trivial trivial

theorem h20 : vc20 := by
  rintro ⟨a, b, ⟨⟩⟩
  congr 1
  rw [Bool.eq_iff_iff]
  simp only [Bool.and_eq_true, decide_eq_true_eq, and_assoc]
  exact ⟨fun h => decide_eq_true h, fun h => of_decide_eq_true h⟩

theorem ok20 : FnOK PR 20 sp20 := mkFn (vc20_eq.mpr h20) Try.func20 (by kernel_rfl) (by kernel_rfl) (by kernel_rfl) (by kernel_rfl) ⟨fun _ => ok41, trivial⟩ trivial

end Go.X
