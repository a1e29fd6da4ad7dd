/-
  Two lists of glosses are the same: what is asked.
-/
import Derived.Test.YtoijahccalbjiaaG9
namespace Go.X
open Go.Proofs

abbrev tL : Ty := .slice tG
abbrev LG : Type := List GD

namespace U
def sameL : LG → LG → Bool
  | [], [] => true
  | a :: x, b :: y => decide (a = b) && sameL x y
  | _, _ => false
end U

def sp33 : Spec := ⟨[.val tL, .val tL], [.bool], false, fun d => [d.1.length ≤ 100000], fun d => (U.sameL d.1 d.2.1, ())⟩
def an33 : Ann := fun r => match r with
  | 4 => some fun σ => { X := Nat, sl := fun i => [(5, .dat .int (i : Int))], ob := fun _ => [], inv := fun i => i ≤ (gd tL σ 0).length ∧ (gd tL σ 0).take i = (gd tL σ 1).take i, mu := fun i => (gd tL σ 0).length - i }
  | _ => none
def vc33 : Prop :=
  ∀ (d : List (Int × Int × Int × Int × Int × Int × Unit) × List (Int × Int × Int × Int × Int × Int × Unit) × Unit),
  d.fst.length ≤ (100000 : Nat) →
  d.fst.length < (4611686018427387904 : Nat) →
  d.snd.fst.length < (4611686018427387904 : Nat) →
  (decide ((↑d.fst.length : Int) ≠ (↑d.snd.fst.length : Int)) = true → (false, ()) = (U.sameL d.fst d.snd.fst, ())) ∧
  (decide ((↑d.fst.length : Int) ≠ (↑d.snd.fst.length : Int)) = false →
  (∃ (x : Nat), (((0 : Int) = (↑x : Int) ∧ True) ∧ True) ∧ x ≤ d.fst.length ∧ List.take x d.fst = List.take x d.snd.fst) ∧
  ∀ (x : Nat),
  x ≤ d.fst.length ∧ List.take x d.fst = List.take x d.snd.fst →
  d.fst.length < (4611686018427387904 : Nat) →
  (decide ((↑x : Int) < (↑d.fst.length : Int)) = true →
  (0 : Int) ≤ (↑x : Int) ∧
  (↑x : Int) < (↑d.fst.length : Int) ∧
  (0 : Int) ≤ (↑x : Int) ∧
  (↑x : Int) < (↑d.snd.fst.length : Int) ∧
  ((!decide (nth d.fst (↑x : Int).toNat = nth d.snd.fst (↑x : Int).toNat)) = true → (false, ()) = (U.sameL d.fst d.snd.fst, ())) ∧
  ((!decide (nth d.fst (↑x : Int).toNat = nth d.snd.fst (↑x : Int).toNat)) = false →
  In64 ((↑x : Int) + (1 : Int)) ∧
  ∃ (x' : Nat), (((↑x : Int) + (1 : Int) = (↑x' : Int) ∧ True) ∧ True) ∧ (x' ≤ d.fst.length ∧ List.take x' d.fst = List.take x' d.snd.fst) ∧ d.fst.length - x' < d.fst.length - x)) ∧
  (decide ((↑x : Int) < (↑d.fst.length : Int)) = false → (true, ()) = (U.sameL d.fst d.snd.fst, ())))

theorem vc33_eq : fnVC (ctx 26 [] []) (an33) Try.f33 (bodyOf Try.f33) sp33 = vc33 := by kernel_rfl


end Go.X
/-
  Two lists of glosses are the same.
-/
namespace Go.X
open Go.Proofs

theorem sameL_iff : ∀ {a b : LG}, U.sameL a b = true ↔ a = b
  | [], [] => by simp [U.sameL]
  | [], _ :: _ => by simp [U.sameL]
  | _ :: _, [] => by simp [U.sameL]
  | a :: x, b :: y => by
    unfold U.sameL
    rw [Bool.and_eq_true, decide_eq_true_iff, sameL_iff, List.cons.injEq]

theorem h33 : vc33 := by
  rintro ⟨a, b, ⟨⟩⟩ hlen _ _
  simp only at hlen ⊢
  refine ⟨fun h => ?_, fun h => ?_⟩
  · have h : (a.length : Int) ≠ (b.length : Int) := of_decide_eq_true h
    have : U.sameL a b = false := by
      rw [Bool.eq_false_iff]
      intro e
      rw [sameL_iff] at e
      subst e; exact h rfl
    rw [this]
  · have h : (a.length : Int) = (b.length : Int) := Classical.byContradiction (of_decide_eq_false h)
    refine ⟨⟨0, ⟨⟨rfl, trivial⟩, trivial⟩, Nat.zero_le _, rfl⟩, fun x hx _ => ⟨fun hc => ?_, fun hc => ?_⟩⟩
    · have hc : x < a.length := by have := of_decide_eq_true hc; omega
      simp only [Int.toNat_natCast]
      refine ⟨by omega, by omega, by omega, by omega, fun hb => ?_, fun hb => ?_⟩
      · have hb : ¬ nth a x = nth b x := by simpa using hb
        have : U.sameL a b = false := by
          rw [Bool.eq_false_iff]
          intro e
          rw [sameL_iff] at e
          exact hb (by rw [e])
        rw [this]
      · have hb : nth a x = nth b x := by simpa using hb
        exact ⟨L.in64 (by omega) (by omega), x + 1, ⟨⟨by simp, trivial⟩, trivial⟩, ⟨by omega, by rw [L.take_succ (by omega), L.take_succ (by omega), hx.2, hb]⟩, by omega⟩
    · have hc : a.length ≤ x := by have := of_decide_eq_false hc; omega
      have h2 := hx.2
      rw [List.take_of_length_le (by omega), List.take_of_length_le (by omega)] at h2
      rw [sameL_iff.2 h2]

theorem ok33 : FnOK PR 33 sp33 := mkFn (vc33_eq.mpr h33) Try.func33 (by kernel_rfl) (by kernel_rfl) (by kernel_rfl) (by kernel_rfl) trivial trivial

end Go.X
/-
  The statement 'GlossesOrder': what is asked of the functions that it reaches.
-/
namespace Go.X
open Go.Proofs

abbrev tMix : Ty := .st [.int, .int, .bool]
abbrev XD : Type := Int × Int × Bool × Unit

namespace U
/-- at most 12 different messages -/
def few (l : LG) : Prop := (fillAll [l]).1.length ≤ 12
def turnedTo (l : LG) (a : Int) (i : Nat) : LG := (List.range i).map (fun (k : Nat) => nth l (((k : Int) + a).tmod (l.length : Int)).toNat)
def turned (l : LG) (x : XD) : LG := turnedTo l x.1 l.length ++ (if x.2.2.1 = true then l else [])
def heldP (f : FD) (l : LG) : LG := if check f l = 0 then heldG l else []
def flatTo (l : List LG) (i : Nat) : LG := (l.take i).flatten
def flat (l : List LG) : LG := l.flatten
def noG : LG := []
def count1 (m : List (GD × Int)) (g : GD) : List (GD × Int) := mput tG g (mvalD 0 (mfind tG g m) + 1) m
def countTo (l : LG) (i : Nat) : List (GD × Int) := (l.take i).foldl count1 []
def mergeErr (f : FD) (a b : LG) : Int := if check f a ≠ 0 then check f a else if check f b ≠ 0 then check f b else if 40 < (countTo (flat [a, b]) (flat [a, b]).length).length then 2 else if 0 < (fillAll [a, b]).2.1 then 22 else 0
def merged (f : FD) (a b : LG) : LG := if mergeErr f a b = 0 then isort cmpF (vals (fillAll [a, b]).1) else []
end U

def sp34 : Spec := ⟨[.val tL, .val tMix], [tL], false, fun d => [0 ≤ d.2.1.1 ∧ d.2.1.1 ≤ 1000, d.1.length ≤ 1000], fun d => (U.turned d.1 d.2.1, ())⟩
def an34 : Ann := fun r => match r with
  | 3 => some fun σ => { X := Nat, sl := fun i => [(5, .own 5 tG), (6, .dat .int (i : Int))], ob := fun i => [(5, some (.row 27 tG false .yes (U.turnedTo (gd tL σ 0) (gd tMix σ 1).1 i)))], inv := fun i => i ≤ (gd tL σ 0).length, mu := fun i => (gd tL σ 0).length - i }
  | _ => none
def vc34 : Prop :=
  ∀ (d : List (Int × Int × Int × Int × Int × Int × Unit) × (Int × Int × Bool × Unit) × Unit),
  (0 : Int) ≤ d.snd.fst.fst ∧ d.snd.fst.fst ≤ (1000 : Int) →
  d.fst.length ≤ (1000 : Nat) →
  (∃ (x : Nat), ((True ∧ (0 : Int) = (↑x : Int) ∧ True) ∧ U.turnedTo d.fst d.snd.fst.fst x = [] ∧ True) ∧ x ≤ d.fst.length) ∧
  ∀ (x : Nat),
  x ≤ d.fst.length →
  d.fst.length < (4611686018427387904 : Nat) →
  (decide ((↑x : Int) < (↑d.fst.length : Int)) = true →
  In64 ((↑x : Int) + d.snd.fst.fst) ∧
  (d.fst.length < (4611686018427387904 : Nat) →
  (↑d.fst.length : Int) ≠ (0 : Int) ∧
  (0 : Int) ≤ ((↑x : Int) + d.snd.fst.fst).tmod (↑d.fst.length : Int) ∧
  ((↑x : Int) + d.snd.fst.fst).tmod (↑d.fst.length : Int) < (↑d.fst.length : Int) ∧
  (List.length (U.turnedTo d.fst d.snd.fst.fst x) + [nth d.fst (((↑x : Int) + d.snd.fst.fst).tmod (↑d.fst.length : Int)).toNat].length) * (48 : Nat) ≤ (140737488355328 : Nat) ∧
  In64 ((↑x : Int) + (1 : Int)) ∧
  ∃ (x' : Nat),
  (((↑x : Int) + (1 : Int) = (↑x' : Int) ∧ True ∧ True) ∧
  U.turnedTo d.fst d.snd.fst.fst x ++ [nth d.fst (((↑x : Int) + d.snd.fst.fst).tmod (↑d.fst.length : Int)).toNat] = U.turnedTo d.fst d.snd.fst.fst x' ∧ True) ∧
  x' ≤ d.fst.length ∧ d.fst.length - x' < d.fst.length - x)) ∧
  (decide ((↑x : Int) < (↑d.fst.length : Int)) = false →
  (d.snd.fst.snd.snd.fst = true → (List.length (U.turnedTo d.fst d.snd.fst.fst x) + d.fst.length) * (48 : Nat) ≤ (140737488355328 : Nat) ∧ (U.turnedTo d.fst d.snd.fst.fst x ++ d.fst, ()) = (U.turned d.fst d.snd.fst, ())) ∧
  (d.snd.fst.snd.snd.fst = false → (U.turnedTo d.fst d.snd.fst.fst x, ()) = (U.turned d.fst d.snd.fst, ())))

theorem vc34_eq : fnVC (ctx 32 [] []) (an34) Try.f34 (bodyOf Try.f34) sp34 = vc34 := by kernel_rfl


def sp45w : Spec := ⟨[.val tL], [tL], false, fun d => [U.few d.1, ∀ g ∈ d.1, U.small g, d.1.length ≤ 1000], fun d => (U.heldG d.1, ())⟩
def vc45w : Prop :=
  ∀ (d : List (Int × Int × Int × Int × Int × Int × Unit) × Unit),
    U.few d.fst →
      (∀ (g : Int × Int × Int × Int × Int × Int × Unit), g ∈ d.fst → U.small g) →
        d.fst.length ≤ (1000 : Nat) →
          [d.fst].length ≤ (2 : Nat) ∧
            (∀ (l : List (Int × Int × Int × Int × Int × Int × Unit)), l ∈ [d.fst] → l.length ≤ (40000 : Nat)) ∧
              U.okMap (U.fillAll [d.fst]).fst ∧
                (U.isort U.cmpF (U.vals (U.fillAll [d.fst]).fst)).length ≤ (100000 : Nat) ∧
                  (U.isort U.cmpF (U.vals (U.fillAll [d.fst]).fst)).length ≤ (100000 : Nat) ∧
                    (∀ (g : Int × Int × Int × Int × Int × Int × Unit), g ∈ U.isort U.cmpF (U.vals (U.fillAll [d.fst]).fst) → U.allP []) ∧
                      (List.filter (U.keeps fun (x : (Int × Int × Int × Int × Int × Int × Unit) × Unit) => (U.drops (U.isort U.cmpF (U.vals (U.fillAll [d.fst]).fst)) x.fst, ())) (U.isort U.cmpF (U.vals (U.fillAll [d.fst]).fst)), ()) =
                        (U.heldG d.fst, ())

theorem vc45w_eq : fnVC (ctx 12 [(70, sp70)] [(59, so59), (60, so60), (69, so69), (68, so68)]) (fun _ => none) Try.f45 (bodyOf Try.f45) sp45w = vc45w := by kernel_rfl


def sp17w : Spec := ⟨[.val tF, .val (.slice tG), .val .int], [.slice tR, .int], false, fun d => [U.check d.1 d.2.1 = 0 → U.few d.2.1], fun d => (U.readings d.1 d.2.1 d.2.2.1, U.filmErr d.1 d.2.1 d.2.2.1, ())⟩
def vc17w : Prop :=
  ∀ (d : (List Int × Int × Unit) × List (Int × Int × Int × Int × Int × Int × Unit) × Int × Unit),
    (U.check d.fst d.snd.fst = (0 : Int) → U.few d.snd.fst) →
      (decide (U.check (d.fst.fst, d.fst.snd.fst, ()) d.snd.fst ≠ (0 : Int)) = true → ([], U.check (d.fst.fst, d.fst.snd.fst, ()) d.snd.fst, ()) = (U.readings d.fst d.snd.fst d.snd.snd.fst, U.filmErr d.fst d.snd.fst d.snd.snd.fst, ())) ∧
        (decide (U.check (d.fst.fst, d.fst.snd.fst, ()) d.snd.fst ≠ (0 : Int)) = false →
          ((!decide ((0 : Int) ≤ d.snd.snd.fst ∧ d.snd.snd.fst < (↑d.fst.fst.length : Int))) = true → ([], (1 : Int), ()) = (U.readings d.fst d.snd.fst d.snd.snd.fst, U.filmErr d.fst d.snd.fst d.snd.snd.fst, ())) ∧
            ((!decide ((0 : Int) ≤ d.snd.snd.fst ∧ d.snd.snd.fst < (↑d.fst.fst.length : Int))) = false →
              U.few d.snd.fst ∧
                (∀ (g : Int × Int × Int × Int × Int × Int × Unit), g ∈ d.snd.fst → U.small g) ∧
                  d.snd.fst.length ≤ (1000 : Nat) ∧
                    (0 : Int) ≤ d.snd.snd.fst ∧
                      d.snd.snd.fst < (↑d.fst.fst.length : Int) ∧
                        (∃ (x : Nat), (((0 : Int) = (↑x : Int) ∧ True ∧ True) ∧ U.readsTo (U.setAt d.fst.snd.fst (U.heldG d.snd.fst) d.snd.snd.fst) x = [] ∧ True) ∧ x ≤ (nth d.fst.fst d.snd.snd.fst.toNat).toNat) ∧
                          ∀ (x : Nat),
                            x ≤ (nth d.fst.fst d.snd.snd.fst.toNat).toNat →
                              (decide ((↑x : Int) < nth d.fst.fst d.snd.snd.fst.toNat) = true →
                                  (U.heldG d.snd.fst).length ≤ (100000 : Nat) ∧
                                    ((1 : Int) ≤ d.fst.snd.fst ∧ d.fst.snd.fst ≤ (10 : Int)) ∧
                                      (0 : Int) ≤ (0 : Int) ∧
                                        (0 : Int) < (↑(U.smallest d.fst.snd.fst (List.filter (U.inFrame d.snd.snd.fst (↑x : Int)) (U.heldG d.snd.fst))).length : Int) ∧
                                          (decide (nth (U.smallest d.fst.snd.fst (List.filter (U.inFrame d.snd.snd.fst (↑x : Int)) (U.heldG d.snd.fst))) (Int.toNat (0 : Int)) = (0 : Int)) = true →
                                              In64 ((↑x : Int) + (1 : Int)) ∧
                                                ∃ (x' : Nat),
                                                  ((True ∧ (↑x : Int) + (1 : Int) = (↑x' : Int) ∧ True) ∧
                                                      U.readsTo (U.setAt d.fst.snd.fst (U.heldG d.snd.fst) d.snd.snd.fst) x = U.readsTo (U.setAt d.fst.snd.fst (U.heldG d.snd.fst) d.snd.snd.fst) x' ∧ True) ∧
                                                    x' ≤ (nth d.fst.fst d.snd.snd.fst.toNat).toNat ∧ (nth d.fst.fst d.snd.snd.fst.toNat).toNat - x' < (nth d.fst.fst d.snd.snd.fst.toNat).toNat - x) ∧
                                            (decide (nth (U.smallest d.fst.snd.fst (List.filter (U.inFrame d.snd.snd.fst (↑x : Int)) (U.heldG d.snd.fst))) (Int.toNat (0 : Int)) = (0 : Int)) = false →
                                              (U.readsTo (U.setAt d.fst.snd.fst (U.heldG d.snd.fst) d.snd.snd.fst) x).length < (4611686018427387904 : Nat) →
                                                In64 ((↑(U.readsTo (U.setAt d.fst.snd.fst (U.heldG d.snd.fst) d.snd.snd.fst) x).length : Int) - (1 : Int)) ∧
                                                  (decide ((0 : Int) ≤ (↑(U.readsTo (U.setAt d.fst.snd.fst (U.heldG d.snd.fst) d.snd.snd.fst) x).length : Int) - (1 : Int)) = true →
                                                      (0 : Int) ≤ (↑(U.readsTo (U.setAt d.fst.snd.fst (U.heldG d.snd.fst) d.snd.snd.fst) x).length : Int) - (1 : Int)) ∧
                                                    (decide ((0 : Int) ≤ (↑(U.readsTo (U.setAt d.fst.snd.fst (U.heldG d.snd.fst) d.snd.snd.fst) x).length : Int) - (1 : Int)) = true →
                                                        (↑(U.readsTo (U.setAt d.fst.snd.fst (U.heldG d.snd.fst) d.snd.snd.fst) x).length : Int) - (1 : Int) <
                                                          (↑(U.readsTo (U.setAt d.fst.snd.fst (U.heldG d.snd.fst) d.snd.snd.fst) x).length : Int)) ∧
                                                      ((decide ((0 : Int) ≤ (↑(U.readsTo (U.setAt d.fst.snd.fst (U.heldG d.snd.fst) d.snd.snd.fst) x).length : Int) - (1 : Int)) &&
                                                              decide
                                                                ((nth (U.readsTo (U.setAt d.fst.snd.fst (U.heldG d.snd.fst) d.snd.snd.fst) x)
                                                                        ((↑(U.readsTo (U.setAt d.fst.snd.fst (U.heldG d.snd.fst) d.snd.snd.fst) x).length : Int) - (1 : Int)).toNat).snd.fst =
                                                                  (↑x : Int))) =
                                                            true →
                                                          (0 : Int) ≤ (↑(U.readsTo (U.setAt d.fst.snd.fst (U.heldG d.snd.fst) d.snd.snd.fst) x).length : Int) - (1 : Int)) ∧
                                                        ((decide ((0 : Int) ≤ (↑(U.readsTo (U.setAt d.fst.snd.fst (U.heldG d.snd.fst) d.snd.snd.fst) x).length : Int) - (1 : Int)) &&
                                                                decide
                                                                  ((nth (U.readsTo (U.setAt d.fst.snd.fst (U.heldG d.snd.fst) d.snd.snd.fst) x)
                                                                          ((↑(U.readsTo (U.setAt d.fst.snd.fst (U.heldG d.snd.fst) d.snd.snd.fst) x).length : Int) - (1 : Int)).toNat).snd.fst =
                                                                    (↑x : Int))) =
                                                              true →
                                                            (↑(U.readsTo (U.setAt d.fst.snd.fst (U.heldG d.snd.fst) d.snd.snd.fst) x).length : Int) - (1 : Int) <
                                                              (↑(U.readsTo (U.setAt d.fst.snd.fst (U.heldG d.snd.fst) d.snd.snd.fst) x).length : Int)) ∧
                                                          ((decide ((0 : Int) ≤ (↑(U.readsTo (U.setAt d.fst.snd.fst (U.heldG d.snd.fst) d.snd.snd.fst) x).length : Int) - (1 : Int)) &&
                                                                    decide
                                                                      ((nth (U.readsTo (U.setAt d.fst.snd.fst (U.heldG d.snd.fst) d.snd.snd.fst) x)
                                                                              ((↑(U.readsTo (U.setAt d.fst.snd.fst (U.heldG d.snd.fst) d.snd.snd.fst) x).length : Int) - (1 : Int)).toNat).snd.fst =
                                                                        (↑x : Int)) &&
                                                                  decide
                                                                    ((nth (U.readsTo (U.setAt d.fst.snd.fst (U.heldG d.snd.fst) d.snd.snd.fst) x)
                                                                              ((↑(U.readsTo (U.setAt d.fst.snd.fst (U.heldG d.snd.fst) d.snd.snd.fst) x).length : Int) - (1 : Int)).toNat).snd.snd.fst =
                                                                      nth (U.smallest d.fst.snd.fst (List.filter (U.inFrame d.snd.snd.fst (↑x : Int)) (U.heldG d.snd.fst))) (Int.toNat (0 : Int)))) =
                                                                true →
                                                              (0 : Int) ≤ (↑(U.readsTo (U.setAt d.fst.snd.fst (U.heldG d.snd.fst) d.snd.snd.fst) x).length : Int) - (1 : Int) ∧
                                                                (↑(U.readsTo (U.setAt d.fst.snd.fst (U.heldG d.snd.fst) d.snd.snd.fst) x).length : Int) - (1 : Int) <
                                                                    (↑(U.readsTo (U.setAt d.fst.snd.fst (U.heldG d.snd.fst) d.snd.snd.fst) x).length : Int) ∧
                                                                  In64
                                                                      ((nth (U.readsTo (U.setAt d.fst.snd.fst (U.heldG d.snd.fst) d.snd.snd.fst) x)
                                                                              ((↑(U.readsTo (U.setAt d.fst.snd.fst (U.heldG d.snd.fst) d.snd.snd.fst) x).length : Int) - (1 : Int)).toNat).snd.fst +
                                                                        (1 : Int)) ∧
                                                                    (0 : Int) ≤ (↑(U.readsTo (U.setAt d.fst.snd.fst (U.heldG d.snd.fst) d.snd.snd.fst) x).length : Int) - (1 : Int) ∧
                                                                      (↑(U.readsTo (U.setAt d.fst.snd.fst (U.heldG d.snd.fst) d.snd.snd.fst) x).length : Int) - (1 : Int) <
                                                                          (↑(U.readsTo (U.setAt d.fst.snd.fst (U.heldG d.snd.fst) d.snd.snd.fst) x).length : Int) ∧
                                                                        In64 ((↑x : Int) + (1 : Int)) ∧
                                                                          ∃ (x' : Nat),
                                                                            ((True ∧ (↑x : Int) + (1 : Int) = (↑x' : Int) ∧ True) ∧
                                                                                (U.readsTo (U.setAt d.fst.snd.fst (U.heldG d.snd.fst) d.snd.snd.fst) x).set
                                                                                      ((↑(U.readsTo (U.setAt d.fst.snd.fst (U.heldG d.snd.fst) d.snd.snd.fst) x).length : Int) - (1 : Int)).toNat
                                                                                      ((nth (U.readsTo (U.setAt d.fst.snd.fst (U.heldG d.snd.fst) d.snd.snd.fst) x)
                                                                                            ((↑(U.readsTo (U.setAt d.fst.snd.fst (U.heldG d.snd.fst) d.snd.snd.fst) x).length : Int) - (1 : Int)).toNat).fst,
                                                                                        (nth (U.readsTo (U.setAt d.fst.snd.fst (U.heldG d.snd.fst) d.snd.snd.fst) x)
                                                                                                ((↑(U.readsTo (U.setAt d.fst.snd.fst (U.heldG d.snd.fst) d.snd.snd.fst) x).length : Int) - (1 : Int)).toNat).snd.fst +
                                                                                          (1 : Int),
                                                                                        (nth (U.readsTo (U.setAt d.fst.snd.fst (U.heldG d.snd.fst) d.snd.snd.fst) x)
                                                                                              ((↑(U.readsTo (U.setAt d.fst.snd.fst (U.heldG d.snd.fst) d.snd.snd.fst) x).length : Int) - (1 : Int)).toNat).snd.snd) =
                                                                                    U.readsTo (U.setAt d.fst.snd.fst (U.heldG d.snd.fst) d.snd.snd.fst) x' ∧
                                                                                  True) ∧
                                                                              x' ≤ (nth d.fst.fst d.snd.snd.fst.toNat).toNat ∧ (nth d.fst.fst d.snd.snd.fst.toNat).toNat - x' < (nth d.fst.fst d.snd.snd.fst.toNat).toNat - x) ∧
                                                            ((decide ((0 : Int) ≤ (↑(U.readsTo (U.setAt d.fst.snd.fst (U.heldG d.snd.fst) d.snd.snd.fst) x).length : Int) - (1 : Int)) &&
                                                                    decide
                                                                      ((nth (U.readsTo (U.setAt d.fst.snd.fst (U.heldG d.snd.fst) d.snd.snd.fst) x)
                                                                              ((↑(U.readsTo (U.setAt d.fst.snd.fst (U.heldG d.snd.fst) d.snd.snd.fst) x).length : Int) - (1 : Int)).toNat).snd.fst =
                                                                        (↑x : Int)) &&
                                                                  decide
                                                                    ((nth (U.readsTo (U.setAt d.fst.snd.fst (U.heldG d.snd.fst) d.snd.snd.fst) x)
                                                                              ((↑(U.readsTo (U.setAt d.fst.snd.fst (U.heldG d.snd.fst) d.snd.snd.fst) x).length : Int) - (1 : Int)).toNat).snd.snd.fst =
                                                                      nth (U.smallest d.fst.snd.fst (List.filter (U.inFrame d.snd.snd.fst (↑x : Int)) (U.heldG d.snd.fst))) (Int.toNat (0 : Int)))) =
                                                                false →
                                                              In64 ((↑x : Int) + (1 : Int)) ∧
                                                                ((U.readsTo (U.setAt d.fst.snd.fst (U.heldG d.snd.fst) d.snd.snd.fst) x).length +
                                                                        [((↑x : Int), (↑x : Int) + (1 : Int), nth (U.smallest d.fst.snd.fst (List.filter (U.inFrame d.snd.snd.fst (↑x : Int)) (U.heldG d.snd.fst))) (Int.toNat (0 : Int)),
                                                                              ())].length) *
                                                                      (24 : Nat) ≤
                                                                    (140737488355328 : Nat) ∧
                                                                  In64 ((↑x : Int) + (1 : Int)) ∧
                                                                    ∃ (x' : Nat),
                                                                      (((↑x : Int) + (1 : Int) = (↑x' : Int) ∧ True ∧ True) ∧
                                                                          U.readsTo (U.setAt d.fst.snd.fst (U.heldG d.snd.fst) d.snd.snd.fst) x ++
                                                                                [((↑x : Int), (↑x : Int) + (1 : Int), nth (U.smallest d.fst.snd.fst (List.filter (U.inFrame d.snd.snd.fst (↑x : Int)) (U.heldG d.snd.fst))) (Int.toNat (0 : Int)),
                                                                                    ())] =
                                                                              U.readsTo (U.setAt d.fst.snd.fst (U.heldG d.snd.fst) d.snd.snd.fst) x' ∧
                                                                            True) ∧
                                                                        x' ≤ (nth d.fst.fst d.snd.snd.fst.toNat).toNat ∧ (nth d.fst.fst d.snd.snd.fst.toNat).toNat - x' < (nth d.fst.fst d.snd.snd.fst.toNat).toNat - x))) ∧
                                (decide ((↑x : Int) < nth d.fst.fst d.snd.snd.fst.toNat) = false →
                                  (U.readsTo (U.setAt d.fst.snd.fst (U.heldG d.snd.fst) d.snd.snd.fst) x, (0 : Int), ()) = (U.readings d.fst d.snd.fst d.snd.snd.fst, U.filmErr d.fst d.snd.fst d.snd.snd.fst, ()))))

theorem vc17w_eq : fnVC (ctx 88 [(37, sp37), (44, sp44), (45, sp45w), (47, sp47), (46, sp46)] []) (an17) Try.f17 (bodyOf Try.f17) sp17w = vc17w := by kernel_rfl


def sp35 : Spec := ⟨[.val tF, .val tL], [tL, .int], false, fun d => [U.check d.1 d.2.1 = 0 → U.few d.2.1], fun d => (U.heldP d.1 d.2.1, U.check d.1 d.2.1, ())⟩
def vc35 : Prop :=
  ∀ (d : (List Int × Int × Unit) × List (Int × Int × Int × Int × Int × Int × Unit) × Unit),
  (U.check d.fst d.snd.fst = (0 : Int) → U.few d.snd.fst) →
  (decide (U.check (d.fst.fst, d.fst.snd.fst, ()) d.snd.fst ≠ (0 : Int)) = true → ([], U.check (d.fst.fst, d.fst.snd.fst, ()) d.snd.fst, ()) = (U.heldP d.fst d.snd.fst, U.check d.fst d.snd.fst, ())) ∧
  (decide (U.check (d.fst.fst, d.fst.snd.fst, ()) d.snd.fst ≠ (0 : Int)) = false →
  U.few d.snd.fst ∧ (∀ (g : Int × Int × Int × Int × Int × Int × Unit), g ∈ d.snd.fst → U.small g) ∧ d.snd.fst.length ≤ (1000 : Nat) ∧ (U.heldG d.snd.fst, (0 : Int), ()) = (U.heldP d.fst d.snd.fst, U.check d.fst d.snd.fst, ()))

theorem vc35_eq : fnVC (ctx 15 [(37, sp37), (45, sp45w)] []) (fun _ => none) Try.f35 (bodyOf Try.f35) sp35 = vc35 := by kernel_rfl


def so77 : OSpec := ⟨[.nil, .val .int], [.cl (.row 27 tG .unk)], fun d => [0 ≤ d.2.1 ∧ d.2.1 ≤ 100000], fun _ => ((U.noG, ()), ())⟩
def vc77 : Prop :=
  ∀ (d : Unit × Int × Unit),
  (0 : Int) ≤ d.snd.fst ∧ d.snd.fst ≤ (100000 : Int) →
  (decide (d.snd.fst < (0 : Int)) = true → False) ∧
  (decide (d.snd.fst < (0 : Int)) = false →
  In64 ((0 : Int) - (↑(0 : Nat) : Int)) ∧
  In64 (d.snd.fst - ((0 : Int) - (↑(0 : Nat) : Int))) ∧
  (decide ((0 : Int) < d.snd.fst - ((0 : Int) - (↑(0 : Nat) : Int))) = true →
  (0 : Int) ≤ (0 : Int) ∧
  (0 : Int) ≤ (0 : Int) ∧
  (0 : Int) ≤ (0 : Int) ∧
  (0 : Int) < d.snd.fst - ((0 : Int) - (↑(0 : Nat) : Int)) ∧
  (d.snd.fst - ((0 : Int) - (↑(0 : Nat) : Int))).toNat * (48 : Nat) ≤ (140737488355328 : Nat) ∧
  (0 : Int) ≤ (0 : Int) ∧
  (0 : Int) ≤ (↑(0 : Nat) : Int) ∧
  (↑(0 : Nat) : Int) ≤ (↑(List.replicate (d.snd.fst - ((0 : Int) - (↑(0 : Nat) : Int))).toNat ((0 : Int), (0 : Int), (0 : Int), (0 : Int), (0 : Int), (0 : Int), ())).length : Int) ∧
  (List.take ((↑(0 : Nat) : Int).toNat - Int.toNat (0 : Int)) (List.replicate (d.snd.fst - ((0 : Int) - (↑(0 : Nat) : Int))).toNat ((0 : Int), (0 : Int), (0 : Int), (0 : Int), (0 : Int), (0 : Int), ())), ()) =
  (U.noG, ()) ∧
  () = ()) ∧
  (decide ((0 : Int) < d.snd.fst - ((0 : Int) - (↑(0 : Nat) : Int))) = false → ([], ()) = (U.noG, ()) ∧ () = ()))

theorem vc77_eq : ofnVC (ctx 27 [] []) (fun _ => none) Try.f77 (bodyOf Try.f77) so77 = vc77 := by kernel_rfl


def sp58 : Spec := ⟨[.val (.slice tL)], [tL], false, fun d => [d.1.length ≤ 100, ∀ x ∈ d.1, x.length ≤ 1000], fun d => (U.flat d.1, ())⟩
def an58 : Ann := fun r => match r with
  | 3 => some fun σ => { X := Nat, sl := fun i => [(11, .dat .int (i : Int)), (3, .dat .int (((U.flatTo (gd (.slice tL) σ 0) i).length : Nat) : Int))], ob := fun _ => [], inv := fun i => i ≤ (gd (.slice tL) σ 0).length, mu := fun i => (gd (.slice tL) σ 0).length - i }
  | 11 => some fun σ => { X := Nat, sl := fun i => [(27, .dat .int (i : Int)), (6, .own 6 tG)], ob := fun i => [(6, some (.row 27 tG false .unk (U.flatTo (gd (.slice tL) σ 0) i)))], inv := fun i => i ≤ (gd (.slice tL) σ 0).length, mu := fun i => (gd (.slice tL) σ 0).length - i }
  | _ => none
def vc58 : Prop :=
  ∀ (d : List (List (Int × Int × Int × Int × Int × Int × Unit)) × Unit),
  d.fst.length ≤ (100 : Nat) →
  (∀ (x : List (Int × Int × Int × Int × Int × Int × Unit)), x ∈ d.fst → x.length ≤ (1000 : Nat)) →
  d.fst.length < (4611686018427387904 : Nat) →
  (∃ (x : Nat), (((0 : Int) = (↑x : Int) ∧ (0 : Int) = (↑(List.length (U.flatTo d.fst x)) : Int) ∧ True) ∧ True) ∧ x ≤ d.fst.length) ∧
  ∀ (x : Nat),
  x ≤ d.fst.length →
  (decide ((↑x : Int) < (↑d.fst.length : Int)) = true →
  (0 : Int) ≤ (↑x : Int) ∧
  (↑x : Int) < (↑d.fst.length : Int) ∧
  ((nth d.fst (↑x : Int).toNat).length < (4611686018427387904 : Nat) →
  In64 ((↑(List.length (U.flatTo d.fst x)) : Int) + (↑(nth d.fst (↑x : Int).toNat).length : Int)) ∧
  (decide ((↑(List.length (U.flatTo d.fst x)) : Int) + (↑(nth d.fst (↑x : Int).toNat).length : Int) < (0 : Int)) = true → False) ∧
  (decide ((↑(List.length (U.flatTo d.fst x)) : Int) + (↑(nth d.fst (↑x : Int).toNat).length : Int) < (0 : Int)) = false →
  In64 ((↑x : Int) + (1 : Int)) ∧
  ∃ (x' : Nat),
  (((↑x : Int) + (1 : Int) = (↑x' : Int) ∧ (↑(List.length (U.flatTo d.fst x)) : Int) + (↑(nth d.fst (↑x : Int).toNat).length : Int) = (↑(List.length (U.flatTo d.fst x')) : Int) ∧ True) ∧ True) ∧
  x' ≤ d.fst.length ∧ d.fst.length - x' < d.fst.length - x))) ∧
  (decide ((↑x : Int) < (↑d.fst.length : Int)) = false →
  ((0 : Int) ≤ (↑(List.length (U.flatTo d.fst x)) : Int) ∧ (↑(List.length (U.flatTo d.fst x)) : Int) ≤ (100000 : Int)) ∧
  (d.fst.length < (4611686018427387904 : Nat) →
  (∃ (x : Nat), (((0 : Int) = (↑x : Int) ∧ True ∧ True) ∧ U.noG = U.flatTo d.fst x ∧ True) ∧ x ≤ d.fst.length) ∧
  ∀ (x : Nat),
  x ≤ d.fst.length →
  (decide ((↑x : Int) < (↑d.fst.length : Int)) = true →
  (0 : Int) ≤ (↑x : Int) ∧
  (↑x : Int) < (↑d.fst.length : Int) ∧
  (List.length (U.flatTo d.fst x) + (nth d.fst (↑x : Int).toNat).length) * (48 : Nat) ≤ (140737488355328 : Nat) ∧
  In64 ((↑x : Int) + (1 : Int)) ∧
  ∃ (x' : Nat),
  (((↑x : Int) + (1 : Int) = (↑x' : Int) ∧ True ∧ True) ∧ U.flatTo d.fst x ++ nth d.fst (↑x : Int).toNat = U.flatTo d.fst x' ∧ True) ∧ x' ≤ d.fst.length ∧ d.fst.length - x' < d.fst.length - x) ∧
  (decide ((↑x : Int) < (↑d.fst.length : Int)) = false → (U.flatTo d.fst x, ()) = (U.flat d.fst, ()))))

theorem vc58_eq : fnVC (ctx 36 [] [(77, so77)]) (an58) Try.f58 (bodyOf Try.f58) sp58 = vc58 := by kernel_rfl


def sp36 : Spec := ⟨[.val tF, .val tL, .val tL], [tL, .int], false, fun d => [U.check d.1 d.2.1 = 0 → U.check d.1 d.2.2.1 = 0 → (U.fillAll [d.2.1, d.2.2.1]).1.length ≤ 12], fun d => (U.merged d.1 d.2.1 d.2.2.1, U.mergeErr d.1 d.2.1 d.2.2.1, ())⟩
def an36 : Ann := fun r => match r with
  | 2 => some fun σ => { X := Nat, sl := fun i => [(19, .dat .int (i : Int))], ob := fun _ => [], inv := fun i => i ≤ 2 ∧ (0 < i → U.check (gd tF σ 0) (gd tL σ 1) = 0) ∧ (1 < i → U.check (gd tF σ 0) (gd tL σ 2) = 0), mu := fun i => 2 - i }
  | 10 => some fun σ => { X := Nat, sl := fun i => [(36, .dat .int (i : Int))], ob := fun i => [(30, some (.map false tG .int (U.countTo (gd tL σ 34) i)))], inv := fun i => i ≤ (gd tL σ 34).length, mu := fun i => (gd tL σ 34).length - i }
  | _ => none
def vc36 : Prop :=
  ∀ (d : (List Int × Int × Unit) × List (Int × Int × Int × Int × Int × Int × Unit) × List (Int × Int × Int × Int × Int × Int × Unit) × Unit),
  (U.check d.fst d.snd.fst = (0 : Int) → U.check d.fst d.snd.snd.fst = (0 : Int) → (U.fillAll [d.snd.fst, d.snd.snd.fst]).fst.length ≤ (12 : Nat)) →
  [d.snd.fst, d.snd.snd.fst].length < (4611686018427387904 : Nat) →
  (∃ (x : Nat), (((0 : Int) = (↑x : Int) ∧ True) ∧ True) ∧ x ≤ (2 : Nat) ∧ ((0 : Nat) < x → U.check d.fst d.snd.fst = (0 : Int)) ∧ ((1 : Nat) < x → U.check d.fst d.snd.snd.fst = (0 : Int))) ∧
  ∀ (x : Nat),
  x ≤ (2 : Nat) ∧ ((0 : Nat) < x → U.check d.fst d.snd.fst = (0 : Int)) ∧ ((1 : Nat) < x → U.check d.fst d.snd.snd.fst = (0 : Int)) →
  (decide ((↑x : Int) < (↑[d.snd.fst, d.snd.snd.fst].length : Int)) = true →
  (0 : Int) ≤ (↑x : Int) ∧
  (↑x : Int) < (↑[d.snd.fst, d.snd.snd.fst].length : Int) ∧
  (decide (U.check (d.fst.fst, d.fst.snd.fst, ()) (nth [d.snd.fst, d.snd.snd.fst] (↑x : Int).toNat) ≠ (0 : Int)) = true →
  ([], U.check (d.fst.fst, d.fst.snd.fst, ()) (nth [d.snd.fst, d.snd.snd.fst] (↑x : Int).toNat), ()) = (U.merged d.fst d.snd.fst d.snd.snd.fst, U.mergeErr d.fst d.snd.fst d.snd.snd.fst, ())) ∧
  (decide (U.check (d.fst.fst, d.fst.snd.fst, ()) (nth [d.snd.fst, d.snd.snd.fst] (↑x : Int).toNat) ≠ (0 : Int)) = false →
  In64 ((↑x : Int) + (1 : Int)) ∧
  ∃ (x' : Nat),
  (((↑x : Int) + (1 : Int) = (↑x' : Int) ∧ True) ∧ True) ∧
  (x' ≤ (2 : Nat) ∧ ((0 : Nat) < x' → U.check d.fst d.snd.fst = (0 : Int)) ∧ ((1 : Nat) < x' → U.check d.fst d.snd.snd.fst = (0 : Int))) ∧ (2 : Nat) - x' < (2 : Nat) - x)) ∧
  (decide ((↑x : Int) < (↑[d.snd.fst, d.snd.snd.fst].length : Int)) = false →
  [d.snd.fst, d.snd.snd.fst].length ≤ (100 : Nat) ∧
  (∀ (x : List (Int × Int × Int × Int × Int × Int × Unit)), x ∈ [d.snd.fst, d.snd.snd.fst] → x.length ≤ (1000 : Nat)) ∧
  (List.length (U.flat [d.snd.fst, d.snd.snd.fst]) < (4611686018427387904 : Nat) →
  (∃ (x : Nat), (((0 : Int) = (↑x : Int) ∧ True) ∧ [] = U.countTo (U.flat [d.snd.fst, d.snd.snd.fst]) x ∧ True) ∧ x ≤ List.length (U.flat [d.snd.fst, d.snd.snd.fst])) ∧
  ∀ (x : Nat),
  x ≤ List.length (U.flat [d.snd.fst, d.snd.snd.fst]) →
  (decide ((↑x : Int) < (↑(List.length (U.flat [d.snd.fst, d.snd.snd.fst])) : Int)) = true →
  (0 : Int) ≤ (↑x : Int) ∧
  (↑x : Int) < (↑(List.length (U.flat [d.snd.fst, d.snd.snd.fst])) : Int) ∧
  ((((In64
  (mvalD (0 : Int)
  (mfind (Ty.int.pair (Ty.int.pair (Ty.int.pair (Ty.int.pair (Ty.int.pair (Ty.int.pair Ty.unit))))))
  ((nth (U.flat [d.snd.fst, d.snd.snd.fst]) (↑x : Int).toNat).fst, (nth (U.flat [d.snd.fst, d.snd.snd.fst]) (↑x : Int).toNat).snd.fst,
  (nth (U.flat [d.snd.fst, d.snd.snd.fst]) (↑x : Int).toNat).snd.snd.fst, (nth (U.flat [d.snd.fst, d.snd.snd.fst]) (↑x : Int).toNat).snd.snd.snd.fst,
  (nth (U.flat [d.snd.fst, d.snd.snd.fst]) (↑x : Int).toNat).snd.snd.snd.snd.fst, (nth (U.flat [d.snd.fst, d.snd.snd.fst]) (↑x : Int).toNat).snd.snd.snd.snd.snd.fst, ())
  (U.countTo (U.flat [d.snd.fst, d.snd.snd.fst]) x)) +
  (1 : Int)) ∧
  (∀ (s : Int),
  ((s = s ∧
  In64 ((↑x : Int) + (1 : Int)) ∧
  ∃ (x' : Nat),
  (((↑x : Int) + (1 : Int) = (↑x' : Int) ∧ True) ∧
  mput (Ty.int.pair (Ty.int.pair (Ty.int.pair (Ty.int.pair (Ty.int.pair (Ty.int.pair Ty.unit))))))
  ((nth (U.flat [d.snd.fst, d.snd.snd.fst]) (↑x : Int).toNat).fst, (nth (U.flat [d.snd.fst, d.snd.snd.fst]) (↑x : Int).toNat).snd.fst,
  (nth (U.flat [d.snd.fst, d.snd.snd.fst]) (↑x : Int).toNat).snd.snd.fst, (nth (U.flat [d.snd.fst, d.snd.snd.fst]) (↑x : Int).toNat).snd.snd.snd.fst,
  (nth (U.flat [d.snd.fst, d.snd.snd.fst]) (↑x : Int).toNat).snd.snd.snd.snd.fst, (nth (U.flat [d.snd.fst, d.snd.snd.fst]) (↑x : Int).toNat).snd.snd.snd.snd.snd.fst, ())
  (mvalD (0 : Int)
  (mfind (Ty.int.pair (Ty.int.pair (Ty.int.pair (Ty.int.pair (Ty.int.pair (Ty.int.pair Ty.unit))))))
  ((nth (U.flat [d.snd.fst, d.snd.snd.fst]) (↑x : Int).toNat).fst, (nth (U.flat [d.snd.fst, d.snd.snd.fst]) (↑x : Int).toNat).snd.fst,
  (nth (U.flat [d.snd.fst, d.snd.snd.fst]) (↑x : Int).toNat).snd.snd.fst, (nth (U.flat [d.snd.fst, d.snd.snd.fst]) (↑x : Int).toNat).snd.snd.snd.fst,
  (nth (U.flat [d.snd.fst, d.snd.snd.fst]) (↑x : Int).toNat).snd.snd.snd.snd.fst,
  (nth (U.flat [d.snd.fst, d.snd.snd.fst]) (↑x : Int).toNat).snd.snd.snd.snd.snd.fst, ())
  (U.countTo (U.flat [d.snd.fst, d.snd.snd.fst]) x)) +
  (1 : Int))
  (U.countTo (U.flat [d.snd.fst, d.snd.snd.fst]) x) =
  U.countTo (U.flat [d.snd.fst, d.snd.snd.fst]) x' ∧
  True) ∧
  x' ≤ List.length (U.flat [d.snd.fst, d.snd.snd.fst]) ∧ List.length (U.flat [d.snd.fst, d.snd.snd.fst]) - x' < List.length (U.flat [d.snd.fst, d.snd.snd.fst]) - x) ∧
  True) ∧
  True) ∧
  True) ∧
  (∀ (s : Int),
  (In64
  (mvalD (0 : Int)
  (mfind (Ty.int.pair (Ty.int.pair (Ty.int.pair (Ty.int.pair (Ty.int.pair (Ty.int.pair Ty.unit))))))
  ((nth (U.flat [d.snd.fst, d.snd.snd.fst]) (↑x : Int).toNat).fst, (nth (U.flat [d.snd.fst, d.snd.snd.fst]) (↑x : Int).toNat).snd.fst,
  (nth (U.flat [d.snd.fst, d.snd.snd.fst]) (↑x : Int).toNat).snd.snd.fst, (nth (U.flat [d.snd.fst, d.snd.snd.fst]) (↑x : Int).toNat).snd.snd.snd.fst,
  (nth (U.flat [d.snd.fst, d.snd.snd.fst]) (↑x : Int).toNat).snd.snd.snd.snd.fst, (nth (U.flat [d.snd.fst, d.snd.snd.fst]) (↑x : Int).toNat).snd.snd.snd.snd.snd.fst, ())
  (U.countTo (U.flat [d.snd.fst, d.snd.snd.fst]) x)) +
  (1 : Int)) ∧
  ((s = s ∧
  In64 ((↑x : Int) + (1 : Int)) ∧
  ∃ (x' : Nat),
  (((↑x : Int) + (1 : Int) = (↑x' : Int) ∧ True) ∧
  mput (Ty.int.pair (Ty.int.pair (Ty.int.pair (Ty.int.pair (Ty.int.pair (Ty.int.pair Ty.unit))))))
  ((nth (U.flat [d.snd.fst, d.snd.snd.fst]) (↑x : Int).toNat).fst, (nth (U.flat [d.snd.fst, d.snd.snd.fst]) (↑x : Int).toNat).snd.fst,
  (nth (U.flat [d.snd.fst, d.snd.snd.fst]) (↑x : Int).toNat).snd.snd.fst, (nth (U.flat [d.snd.fst, d.snd.snd.fst]) (↑x : Int).toNat).snd.snd.snd.fst,
  (nth (U.flat [d.snd.fst, d.snd.snd.fst]) (↑x : Int).toNat).snd.snd.snd.snd.fst, (nth (U.flat [d.snd.fst, d.snd.snd.fst]) (↑x : Int).toNat).snd.snd.snd.snd.snd.fst,
  ())
  (mvalD (0 : Int)
  (mfind (Ty.int.pair (Ty.int.pair (Ty.int.pair (Ty.int.pair (Ty.int.pair (Ty.int.pair Ty.unit))))))
  ((nth (U.flat [d.snd.fst, d.snd.snd.fst]) (↑x : Int).toNat).fst, (nth (U.flat [d.snd.fst, d.snd.snd.fst]) (↑x : Int).toNat).snd.fst,
  (nth (U.flat [d.snd.fst, d.snd.snd.fst]) (↑x : Int).toNat).snd.snd.fst, (nth (U.flat [d.snd.fst, d.snd.snd.fst]) (↑x : Int).toNat).snd.snd.snd.fst,
  (nth (U.flat [d.snd.fst, d.snd.snd.fst]) (↑x : Int).toNat).snd.snd.snd.snd.fst,
  (nth (U.flat [d.snd.fst, d.snd.snd.fst]) (↑x : Int).toNat).snd.snd.snd.snd.snd.fst, ())
  (U.countTo (U.flat [d.snd.fst, d.snd.snd.fst]) x)) +
  (1 : Int))
  (U.countTo (U.flat [d.snd.fst, d.snd.snd.fst]) x) =
  U.countTo (U.flat [d.snd.fst, d.snd.snd.fst]) x' ∧
  True) ∧
  x' ≤ List.length (U.flat [d.snd.fst, d.snd.snd.fst]) ∧ List.length (U.flat [d.snd.fst, d.snd.snd.fst]) - x' < List.length (U.flat [d.snd.fst, d.snd.snd.fst]) - x) ∧
  True) ∧
  True) ∧
  ((In64
  (mvalD (0 : Int)
  (mfind (Ty.int.pair (Ty.int.pair (Ty.int.pair (Ty.int.pair (Ty.int.pair (Ty.int.pair Ty.unit))))))
  ((nth (U.flat [d.snd.fst, d.snd.snd.fst]) (↑x : Int).toNat).fst, (nth (U.flat [d.snd.fst, d.snd.snd.fst]) (↑x : Int).toNat).snd.fst,
  (nth (U.flat [d.snd.fst, d.snd.snd.fst]) (↑x : Int).toNat).snd.snd.fst, (nth (U.flat [d.snd.fst, d.snd.snd.fst]) (↑x : Int).toNat).snd.snd.snd.fst,
  (nth (U.flat [d.snd.fst, d.snd.snd.fst]) (↑x : Int).toNat).snd.snd.snd.snd.fst, (nth (U.flat [d.snd.fst, d.snd.snd.fst]) (↑x : Int).toNat).snd.snd.snd.snd.snd.fst, ())
  (U.countTo (U.flat [d.snd.fst, d.snd.snd.fst]) x)) +
  (1 : Int)) ∧
  (s = s ∧
  In64 ((↑x : Int) + (1 : Int)) ∧
  ∃ (x' : Nat),
  (((↑x : Int) + (1 : Int) = (↑x' : Int) ∧ True) ∧
  mput (Ty.int.pair (Ty.int.pair (Ty.int.pair (Ty.int.pair (Ty.int.pair (Ty.int.pair Ty.unit))))))
  ((nth (U.flat [d.snd.fst, d.snd.snd.fst]) (↑x : Int).toNat).fst, (nth (U.flat [d.snd.fst, d.snd.snd.fst]) (↑x : Int).toNat).snd.fst,
  (nth (U.flat [d.snd.fst, d.snd.snd.fst]) (↑x : Int).toNat).snd.snd.fst, (nth (U.flat [d.snd.fst, d.snd.snd.fst]) (↑x : Int).toNat).snd.snd.snd.fst,
  (nth (U.flat [d.snd.fst, d.snd.snd.fst]) (↑x : Int).toNat).snd.snd.snd.snd.fst, (nth (U.flat [d.snd.fst, d.snd.snd.fst]) (↑x : Int).toNat).snd.snd.snd.snd.snd.fst,
  ())
  (mvalD (0 : Int)
  (mfind (Ty.int.pair (Ty.int.pair (Ty.int.pair (Ty.int.pair (Ty.int.pair (Ty.int.pair Ty.unit))))))
  ((nth (U.flat [d.snd.fst, d.snd.snd.fst]) (↑x : Int).toNat).fst, (nth (U.flat [d.snd.fst, d.snd.snd.fst]) (↑x : Int).toNat).snd.fst,
  (nth (U.flat [d.snd.fst, d.snd.snd.fst]) (↑x : Int).toNat).snd.snd.fst, (nth (U.flat [d.snd.fst, d.snd.snd.fst]) (↑x : Int).toNat).snd.snd.snd.fst,
  (nth (U.flat [d.snd.fst, d.snd.snd.fst]) (↑x : Int).toNat).snd.snd.snd.snd.fst,
  (nth (U.flat [d.snd.fst, d.snd.snd.fst]) (↑x : Int).toNat).snd.snd.snd.snd.snd.fst, ())
  (U.countTo (U.flat [d.snd.fst, d.snd.snd.fst]) x)) +
  (1 : Int))
  (U.countTo (U.flat [d.snd.fst, d.snd.snd.fst]) x) =
  U.countTo (U.flat [d.snd.fst, d.snd.snd.fst]) x' ∧
  True) ∧
  x' ≤ List.length (U.flat [d.snd.fst, d.snd.snd.fst]) ∧ List.length (U.flat [d.snd.fst, d.snd.snd.fst]) - x' < List.length (U.flat [d.snd.fst, d.snd.snd.fst]) - x) ∧
  True) ∧
  True) ∧
  True) ∧
  True) ∧
  (∀ (s : Int),
  ((In64
  (mvalD (0 : Int)
  (mfind (Ty.int.pair (Ty.int.pair (Ty.int.pair (Ty.int.pair (Ty.int.pair (Ty.int.pair Ty.unit))))))
  ((nth (U.flat [d.snd.fst, d.snd.snd.fst]) (↑x : Int).toNat).fst, (nth (U.flat [d.snd.fst, d.snd.snd.fst]) (↑x : Int).toNat).snd.fst,
  (nth (U.flat [d.snd.fst, d.snd.snd.fst]) (↑x : Int).toNat).snd.snd.fst, (nth (U.flat [d.snd.fst, d.snd.snd.fst]) (↑x : Int).toNat).snd.snd.snd.fst,
  (nth (U.flat [d.snd.fst, d.snd.snd.fst]) (↑x : Int).toNat).snd.snd.snd.snd.fst, (nth (U.flat [d.snd.fst, d.snd.snd.fst]) (↑x : Int).toNat).snd.snd.snd.snd.snd.fst, ())
  (mput (Ty.int.pair (Ty.int.pair (Ty.int.pair (Ty.int.pair (Ty.int.pair (Ty.int.pair Ty.unit))))))
  ((nth (U.flat [d.snd.fst, d.snd.snd.fst]) (↑x : Int).toNat).fst, (nth (U.flat [d.snd.fst, d.snd.snd.fst]) (↑x : Int).toNat).snd.fst,
  (nth (U.flat [d.snd.fst, d.snd.snd.fst]) (↑x : Int).toNat).snd.snd.fst, (nth (U.flat [d.snd.fst, d.snd.snd.fst]) (↑x : Int).toNat).snd.snd.snd.fst,
  (nth (U.flat [d.snd.fst, d.snd.snd.fst]) (↑x : Int).toNat).snd.snd.snd.snd.fst, (nth (U.flat [d.snd.fst, d.snd.snd.fst]) (↑x : Int).toNat).snd.snd.snd.snd.snd.fst, ())
  (mvalD (0 : Int)
  (mfind (Ty.int.pair (Ty.int.pair (Ty.int.pair (Ty.int.pair (Ty.int.pair (Ty.int.pair Ty.unit))))))
  ((nth (U.flat [d.snd.fst, d.snd.snd.fst]) (↑x : Int).toNat).fst, (nth (U.flat [d.snd.fst, d.snd.snd.fst]) (↑x : Int).toNat).snd.fst,
  (nth (U.flat [d.snd.fst, d.snd.snd.fst]) (↑x : Int).toNat).snd.snd.fst, (nth (U.flat [d.snd.fst, d.snd.snd.fst]) (↑x : Int).toNat).snd.snd.snd.fst,
  (nth (U.flat [d.snd.fst, d.snd.snd.fst]) (↑x : Int).toNat).snd.snd.snd.snd.fst, (nth (U.flat [d.snd.fst, d.snd.snd.fst]) (↑x : Int).toNat).snd.snd.snd.snd.snd.fst, ())
  (U.countTo (U.flat [d.snd.fst, d.snd.snd.fst]) x)))
  (U.countTo (U.flat [d.snd.fst, d.snd.snd.fst]) x))) +
  (1 : Int)) ∧
  ((s = s ∧
  In64 ((↑x : Int) + (1 : Int)) ∧
  ∃ (x' : Nat),
  (((↑x : Int) + (1 : Int) = (↑x' : Int) ∧ True) ∧
  mput (Ty.int.pair (Ty.int.pair (Ty.int.pair (Ty.int.pair (Ty.int.pair (Ty.int.pair Ty.unit))))))
  ((nth (U.flat [d.snd.fst, d.snd.snd.fst]) (↑x : Int).toNat).fst, (nth (U.flat [d.snd.fst, d.snd.snd.fst]) (↑x : Int).toNat).snd.fst,
  (nth (U.flat [d.snd.fst, d.snd.snd.fst]) (↑x : Int).toNat).snd.snd.fst, (nth (U.flat [d.snd.fst, d.snd.snd.fst]) (↑x : Int).toNat).snd.snd.snd.fst,
  (nth (U.flat [d.snd.fst, d.snd.snd.fst]) (↑x : Int).toNat).snd.snd.snd.snd.fst, (nth (U.flat [d.snd.fst, d.snd.snd.fst]) (↑x : Int).toNat).snd.snd.snd.snd.snd.fst,
  ())
  (mvalD (0 : Int)
  (mfind (Ty.int.pair (Ty.int.pair (Ty.int.pair (Ty.int.pair (Ty.int.pair (Ty.int.pair Ty.unit))))))
  ((nth (U.flat [d.snd.fst, d.snd.snd.fst]) (↑x : Int).toNat).fst, (nth (U.flat [d.snd.fst, d.snd.snd.fst]) (↑x : Int).toNat).snd.fst,
  (nth (U.flat [d.snd.fst, d.snd.snd.fst]) (↑x : Int).toNat).snd.snd.fst, (nth (U.flat [d.snd.fst, d.snd.snd.fst]) (↑x : Int).toNat).snd.snd.snd.fst,
  (nth (U.flat [d.snd.fst, d.snd.snd.fst]) (↑x : Int).toNat).snd.snd.snd.snd.fst,
  (nth (U.flat [d.snd.fst, d.snd.snd.fst]) (↑x : Int).toNat).snd.snd.snd.snd.snd.fst, ())
  (mput (Ty.int.pair (Ty.int.pair (Ty.int.pair (Ty.int.pair (Ty.int.pair (Ty.int.pair Ty.unit))))))
  ((nth (U.flat [d.snd.fst, d.snd.snd.fst]) (↑x : Int).toNat).fst, (nth (U.flat [d.snd.fst, d.snd.snd.fst]) (↑x : Int).toNat).snd.fst,
  (nth (U.flat [d.snd.fst, d.snd.snd.fst]) (↑x : Int).toNat).snd.snd.fst, (nth (U.flat [d.snd.fst, d.snd.snd.fst]) (↑x : Int).toNat).snd.snd.snd.fst,
  (nth (U.flat [d.snd.fst, d.snd.snd.fst]) (↑x : Int).toNat).snd.snd.snd.snd.fst,
  (nth (U.flat [d.snd.fst, d.snd.snd.fst]) (↑x : Int).toNat).snd.snd.snd.snd.snd.fst, ())
  (mvalD (0 : Int)
  (mfind (Ty.int.pair (Ty.int.pair (Ty.int.pair (Ty.int.pair (Ty.int.pair (Ty.int.pair Ty.unit))))))
  ((nth (U.flat [d.snd.fst, d.snd.snd.fst]) (↑x : Int).toNat).fst, (nth (U.flat [d.snd.fst, d.snd.snd.fst]) (↑x : Int).toNat).snd.fst,
  (nth (U.flat [d.snd.fst, d.snd.snd.fst]) (↑x : Int).toNat).snd.snd.fst, (nth (U.flat [d.snd.fst, d.snd.snd.fst]) (↑x : Int).toNat).snd.snd.snd.fst,
  (nth (U.flat [d.snd.fst, d.snd.snd.fst]) (↑x : Int).toNat).snd.snd.snd.snd.fst,
  (nth (U.flat [d.snd.fst, d.snd.snd.fst]) (↑x : Int).toNat).snd.snd.snd.snd.snd.fst, ())
  (U.countTo (U.flat [d.snd.fst, d.snd.snd.fst]) x)))
  (U.countTo (U.flat [d.snd.fst, d.snd.snd.fst]) x))) +
  (1 : Int))
  (U.countTo (U.flat [d.snd.fst, d.snd.snd.fst]) x) =
  U.countTo (U.flat [d.snd.fst, d.snd.snd.fst]) x' ∧
  True) ∧
  x' ≤ List.length (U.flat [d.snd.fst, d.snd.snd.fst]) ∧ List.length (U.flat [d.snd.fst, d.snd.snd.fst]) - x' < List.length (U.flat [d.snd.fst, d.snd.snd.fst]) - x) ∧
  True) ∧
  True) ∧
  ((In64
  (mvalD (0 : Int)
  (mfind (Ty.int.pair (Ty.int.pair (Ty.int.pair (Ty.int.pair (Ty.int.pair (Ty.int.pair Ty.unit))))))
  ((nth (U.flat [d.snd.fst, d.snd.snd.fst]) (↑x : Int).toNat).fst, (nth (U.flat [d.snd.fst, d.snd.snd.fst]) (↑x : Int).toNat).snd.fst,
  (nth (U.flat [d.snd.fst, d.snd.snd.fst]) (↑x : Int).toNat).snd.snd.fst, (nth (U.flat [d.snd.fst, d.snd.snd.fst]) (↑x : Int).toNat).snd.snd.snd.fst,
  (nth (U.flat [d.snd.fst, d.snd.snd.fst]) (↑x : Int).toNat).snd.snd.snd.snd.fst, (nth (U.flat [d.snd.fst, d.snd.snd.fst]) (↑x : Int).toNat).snd.snd.snd.snd.snd.fst, ())
  (mput (Ty.int.pair (Ty.int.pair (Ty.int.pair (Ty.int.pair (Ty.int.pair (Ty.int.pair Ty.unit))))))
  ((nth (U.flat [d.snd.fst, d.snd.snd.fst]) (↑x : Int).toNat).fst, (nth (U.flat [d.snd.fst, d.snd.snd.fst]) (↑x : Int).toNat).snd.fst,
  (nth (U.flat [d.snd.fst, d.snd.snd.fst]) (↑x : Int).toNat).snd.snd.fst, (nth (U.flat [d.snd.fst, d.snd.snd.fst]) (↑x : Int).toNat).snd.snd.snd.fst,
  (nth (U.flat [d.snd.fst, d.snd.snd.fst]) (↑x : Int).toNat).snd.snd.snd.snd.fst, (nth (U.flat [d.snd.fst, d.snd.snd.fst]) (↑x : Int).toNat).snd.snd.snd.snd.snd.fst, ())
  (mvalD (0 : Int)
  (mfind (Ty.int.pair (Ty.int.pair (Ty.int.pair (Ty.int.pair (Ty.int.pair (Ty.int.pair Ty.unit))))))
  ((nth (U.flat [d.snd.fst, d.snd.snd.fst]) (↑x : Int).toNat).fst, (nth (U.flat [d.snd.fst, d.snd.snd.fst]) (↑x : Int).toNat).snd.fst,
  (nth (U.flat [d.snd.fst, d.snd.snd.fst]) (↑x : Int).toNat).snd.snd.fst, (nth (U.flat [d.snd.fst, d.snd.snd.fst]) (↑x : Int).toNat).snd.snd.snd.fst,
  (nth (U.flat [d.snd.fst, d.snd.snd.fst]) (↑x : Int).toNat).snd.snd.snd.snd.fst, (nth (U.flat [d.snd.fst, d.snd.snd.fst]) (↑x : Int).toNat).snd.snd.snd.snd.snd.fst, ())
  (U.countTo (U.flat [d.snd.fst, d.snd.snd.fst]) x)))
  (U.countTo (U.flat [d.snd.fst, d.snd.snd.fst]) x))) +
  (1 : Int)) ∧
  (s = s ∧
  In64 ((↑x : Int) + (1 : Int)) ∧
  ∃ (x' : Nat),
  (((↑x : Int) + (1 : Int) = (↑x' : Int) ∧ True) ∧
  mput (Ty.int.pair (Ty.int.pair (Ty.int.pair (Ty.int.pair (Ty.int.pair (Ty.int.pair Ty.unit))))))
  ((nth (U.flat [d.snd.fst, d.snd.snd.fst]) (↑x : Int).toNat).fst, (nth (U.flat [d.snd.fst, d.snd.snd.fst]) (↑x : Int).toNat).snd.fst,
  (nth (U.flat [d.snd.fst, d.snd.snd.fst]) (↑x : Int).toNat).snd.snd.fst, (nth (U.flat [d.snd.fst, d.snd.snd.fst]) (↑x : Int).toNat).snd.snd.snd.fst,
  (nth (U.flat [d.snd.fst, d.snd.snd.fst]) (↑x : Int).toNat).snd.snd.snd.snd.fst, (nth (U.flat [d.snd.fst, d.snd.snd.fst]) (↑x : Int).toNat).snd.snd.snd.snd.snd.fst,
  ())
  (mvalD (0 : Int)
  (mfind (Ty.int.pair (Ty.int.pair (Ty.int.pair (Ty.int.pair (Ty.int.pair (Ty.int.pair Ty.unit))))))
  ((nth (U.flat [d.snd.fst, d.snd.snd.fst]) (↑x : Int).toNat).fst, (nth (U.flat [d.snd.fst, d.snd.snd.fst]) (↑x : Int).toNat).snd.fst,
  (nth (U.flat [d.snd.fst, d.snd.snd.fst]) (↑x : Int).toNat).snd.snd.fst, (nth (U.flat [d.snd.fst, d.snd.snd.fst]) (↑x : Int).toNat).snd.snd.snd.fst,
  (nth (U.flat [d.snd.fst, d.snd.snd.fst]) (↑x : Int).toNat).snd.snd.snd.snd.fst,
  (nth (U.flat [d.snd.fst, d.snd.snd.fst]) (↑x : Int).toNat).snd.snd.snd.snd.snd.fst, ())
  (mput (Ty.int.pair (Ty.int.pair (Ty.int.pair (Ty.int.pair (Ty.int.pair (Ty.int.pair Ty.unit))))))
  ((nth (U.flat [d.snd.fst, d.snd.snd.fst]) (↑x : Int).toNat).fst, (nth (U.flat [d.snd.fst, d.snd.snd.fst]) (↑x : Int).toNat).snd.fst,
  (nth (U.flat [d.snd.fst, d.snd.snd.fst]) (↑x : Int).toNat).snd.snd.fst, (nth (U.flat [d.snd.fst, d.snd.snd.fst]) (↑x : Int).toNat).snd.snd.snd.fst,
  (nth (U.flat [d.snd.fst, d.snd.snd.fst]) (↑x : Int).toNat).snd.snd.snd.snd.fst,
  (nth (U.flat [d.snd.fst, d.snd.snd.fst]) (↑x : Int).toNat).snd.snd.snd.snd.snd.fst, ())
  (mvalD (0 : Int)
  (mfind (Ty.int.pair (Ty.int.pair (Ty.int.pair (Ty.int.pair (Ty.int.pair (Ty.int.pair Ty.unit))))))
  ((nth (U.flat [d.snd.fst, d.snd.snd.fst]) (↑x : Int).toNat).fst, (nth (U.flat [d.snd.fst, d.snd.snd.fst]) (↑x : Int).toNat).snd.fst,
  (nth (U.flat [d.snd.fst, d.snd.snd.fst]) (↑x : Int).toNat).snd.snd.fst, (nth (U.flat [d.snd.fst, d.snd.snd.fst]) (↑x : Int).toNat).snd.snd.snd.fst,
  (nth (U.flat [d.snd.fst, d.snd.snd.fst]) (↑x : Int).toNat).snd.snd.snd.snd.fst,
  (nth (U.flat [d.snd.fst, d.snd.snd.fst]) (↑x : Int).toNat).snd.snd.snd.snd.snd.fst, ())
  (U.countTo (U.flat [d.snd.fst, d.snd.snd.fst]) x)))
  (U.countTo (U.flat [d.snd.fst, d.snd.snd.fst]) x))) +
  (1 : Int))
  (U.countTo (U.flat [d.snd.fst, d.snd.snd.fst]) x) =
  U.countTo (U.flat [d.snd.fst, d.snd.snd.fst]) x' ∧
  True) ∧
  x' ≤ List.length (U.flat [d.snd.fst, d.snd.snd.fst]) ∧ List.length (U.flat [d.snd.fst, d.snd.snd.fst]) - x' < List.length (U.flat [d.snd.fst, d.snd.snd.fst]) - x) ∧
  True) ∧
  True) ∧
  True) ∧
  (((In64
  (mvalD (0 : Int)
  (mfind (Ty.int.pair (Ty.int.pair (Ty.int.pair (Ty.int.pair (Ty.int.pair (Ty.int.pair Ty.unit))))))
  ((nth (U.flat [d.snd.fst, d.snd.snd.fst]) (↑x : Int).toNat).fst, (nth (U.flat [d.snd.fst, d.snd.snd.fst]) (↑x : Int).toNat).snd.fst,
  (nth (U.flat [d.snd.fst, d.snd.snd.fst]) (↑x : Int).toNat).snd.snd.fst, (nth (U.flat [d.snd.fst, d.snd.snd.fst]) (↑x : Int).toNat).snd.snd.snd.fst,
  (nth (U.flat [d.snd.fst, d.snd.snd.fst]) (↑x : Int).toNat).snd.snd.snd.snd.fst, (nth (U.flat [d.snd.fst, d.snd.snd.fst]) (↑x : Int).toNat).snd.snd.snd.snd.snd.fst, ())
  (mput (Ty.int.pair (Ty.int.pair (Ty.int.pair (Ty.int.pair (Ty.int.pair (Ty.int.pair Ty.unit))))))
  ((nth (U.flat [d.snd.fst, d.snd.snd.fst]) (↑x : Int).toNat).fst, (nth (U.flat [d.snd.fst, d.snd.snd.fst]) (↑x : Int).toNat).snd.fst,
  (nth (U.flat [d.snd.fst, d.snd.snd.fst]) (↑x : Int).toNat).snd.snd.fst, (nth (U.flat [d.snd.fst, d.snd.snd.fst]) (↑x : Int).toNat).snd.snd.snd.fst,
  (nth (U.flat [d.snd.fst, d.snd.snd.fst]) (↑x : Int).toNat).snd.snd.snd.snd.fst, (nth (U.flat [d.snd.fst, d.snd.snd.fst]) (↑x : Int).toNat).snd.snd.snd.snd.snd.fst, ())
  (mvalD (0 : Int)
  (mfind (Ty.int.pair (Ty.int.pair (Ty.int.pair (Ty.int.pair (Ty.int.pair (Ty.int.pair Ty.unit))))))
  ((nth (U.flat [d.snd.fst, d.snd.snd.fst]) (↑x : Int).toNat).fst, (nth (U.flat [d.snd.fst, d.snd.snd.fst]) (↑x : Int).toNat).snd.fst,
  (nth (U.flat [d.snd.fst, d.snd.snd.fst]) (↑x : Int).toNat).snd.snd.fst, (nth (U.flat [d.snd.fst, d.snd.snd.fst]) (↑x : Int).toNat).snd.snd.snd.fst,
  (nth (U.flat [d.snd.fst, d.snd.snd.fst]) (↑x : Int).toNat).snd.snd.snd.snd.fst, (nth (U.flat [d.snd.fst, d.snd.snd.fst]) (↑x : Int).toNat).snd.snd.snd.snd.snd.fst, ())
  (U.countTo (U.flat [d.snd.fst, d.snd.snd.fst]) x)))
  (U.countTo (U.flat [d.snd.fst, d.snd.snd.fst]) x))) +
  (1 : Int)) ∧
  (s = s ∧
  In64 ((↑x : Int) + (1 : Int)) ∧
  ∃ (x' : Nat),
  (((↑x : Int) + (1 : Int) = (↑x' : Int) ∧ True) ∧
  mput (Ty.int.pair (Ty.int.pair (Ty.int.pair (Ty.int.pair (Ty.int.pair (Ty.int.pair Ty.unit))))))
  ((nth (U.flat [d.snd.fst, d.snd.snd.fst]) (↑x : Int).toNat).fst, (nth (U.flat [d.snd.fst, d.snd.snd.fst]) (↑x : Int).toNat).snd.fst,
  (nth (U.flat [d.snd.fst, d.snd.snd.fst]) (↑x : Int).toNat).snd.snd.fst, (nth (U.flat [d.snd.fst, d.snd.snd.fst]) (↑x : Int).toNat).snd.snd.snd.fst,
  (nth (U.flat [d.snd.fst, d.snd.snd.fst]) (↑x : Int).toNat).snd.snd.snd.snd.fst, (nth (U.flat [d.snd.fst, d.snd.snd.fst]) (↑x : Int).toNat).snd.snd.snd.snd.snd.fst,
  ())
  (mvalD (0 : Int)
  (mfind (Ty.int.pair (Ty.int.pair (Ty.int.pair (Ty.int.pair (Ty.int.pair (Ty.int.pair Ty.unit))))))
  ((nth (U.flat [d.snd.fst, d.snd.snd.fst]) (↑x : Int).toNat).fst, (nth (U.flat [d.snd.fst, d.snd.snd.fst]) (↑x : Int).toNat).snd.fst,
  (nth (U.flat [d.snd.fst, d.snd.snd.fst]) (↑x : Int).toNat).snd.snd.fst, (nth (U.flat [d.snd.fst, d.snd.snd.fst]) (↑x : Int).toNat).snd.snd.snd.fst,
  (nth (U.flat [d.snd.fst, d.snd.snd.fst]) (↑x : Int).toNat).snd.snd.snd.snd.fst,
  (nth (U.flat [d.snd.fst, d.snd.snd.fst]) (↑x : Int).toNat).snd.snd.snd.snd.snd.fst, ())
  (mput (Ty.int.pair (Ty.int.pair (Ty.int.pair (Ty.int.pair (Ty.int.pair (Ty.int.pair Ty.unit))))))
  ((nth (U.flat [d.snd.fst, d.snd.snd.fst]) (↑x : Int).toNat).fst, (nth (U.flat [d.snd.fst, d.snd.snd.fst]) (↑x : Int).toNat).snd.fst,
  (nth (U.flat [d.snd.fst, d.snd.snd.fst]) (↑x : Int).toNat).snd.snd.fst, (nth (U.flat [d.snd.fst, d.snd.snd.fst]) (↑x : Int).toNat).snd.snd.snd.fst,
  (nth (U.flat [d.snd.fst, d.snd.snd.fst]) (↑x : Int).toNat).snd.snd.snd.snd.fst,
  (nth (U.flat [d.snd.fst, d.snd.snd.fst]) (↑x : Int).toNat).snd.snd.snd.snd.snd.fst, ())
  (mvalD (0 : Int)
  (mfind (Ty.int.pair (Ty.int.pair (Ty.int.pair (Ty.int.pair (Ty.int.pair (Ty.int.pair Ty.unit))))))
  ((nth (U.flat [d.snd.fst, d.snd.snd.fst]) (↑x : Int).toNat).fst, (nth (U.flat [d.snd.fst, d.snd.snd.fst]) (↑x : Int).toNat).snd.fst,
  (nth (U.flat [d.snd.fst, d.snd.snd.fst]) (↑x : Int).toNat).snd.snd.fst, (nth (U.flat [d.snd.fst, d.snd.snd.fst]) (↑x : Int).toNat).snd.snd.snd.fst,
  (nth (U.flat [d.snd.fst, d.snd.snd.fst]) (↑x : Int).toNat).snd.snd.snd.snd.fst,
  (nth (U.flat [d.snd.fst, d.snd.snd.fst]) (↑x : Int).toNat).snd.snd.snd.snd.snd.fst, ())
  (U.countTo (U.flat [d.snd.fst, d.snd.snd.fst]) x)))
  (U.countTo (U.flat [d.snd.fst, d.snd.snd.fst]) x))) +
  (1 : Int))
  (U.countTo (U.flat [d.snd.fst, d.snd.snd.fst]) x) =
  U.countTo (U.flat [d.snd.fst, d.snd.snd.fst]) x' ∧
  True) ∧
  x' ≤ List.length (U.flat [d.snd.fst, d.snd.snd.fst]) ∧ List.length (U.flat [d.snd.fst, d.snd.snd.fst]) - x' < List.length (U.flat [d.snd.fst, d.snd.snd.fst]) - x) ∧
  True) ∧
  True) ∧
  True) ∧
  True) ∧
  True) ∧
  True) ∧
  ((((In64
  (mvalD (0 : Int)
  (mfind (Ty.int.pair (Ty.int.pair (Ty.int.pair (Ty.int.pair (Ty.int.pair (Ty.int.pair Ty.unit))))))
  ((nth (U.flat [d.snd.fst, d.snd.snd.fst]) (↑x : Int).toNat).fst, (nth (U.flat [d.snd.fst, d.snd.snd.fst]) (↑x : Int).toNat).snd.fst,
  (nth (U.flat [d.snd.fst, d.snd.snd.fst]) (↑x : Int).toNat).snd.snd.fst, (nth (U.flat [d.snd.fst, d.snd.snd.fst]) (↑x : Int).toNat).snd.snd.snd.fst,
  (nth (U.flat [d.snd.fst, d.snd.snd.fst]) (↑x : Int).toNat).snd.snd.snd.snd.fst, (nth (U.flat [d.snd.fst, d.snd.snd.fst]) (↑x : Int).toNat).snd.snd.snd.snd.snd.fst, ())
  (U.countTo (U.flat [d.snd.fst, d.snd.snd.fst]) x)) +
  (1 : Int)) ∧
  (∀ (s : Int),
  ((s = s ∧
  In64 ((↑x : Int) + (1 : Int)) ∧
  ∃ (x' : Nat),
  (((↑x : Int) + (1 : Int) = (↑x' : Int) ∧ True) ∧
  mput (Ty.int.pair (Ty.int.pair (Ty.int.pair (Ty.int.pair (Ty.int.pair (Ty.int.pair Ty.unit))))))
  ((nth (U.flat [d.snd.fst, d.snd.snd.fst]) (↑x : Int).toNat).fst, (nth (U.flat [d.snd.fst, d.snd.snd.fst]) (↑x : Int).toNat).snd.fst,
  (nth (U.flat [d.snd.fst, d.snd.snd.fst]) (↑x : Int).toNat).snd.snd.fst, (nth (U.flat [d.snd.fst, d.snd.snd.fst]) (↑x : Int).toNat).snd.snd.snd.fst,
  (nth (U.flat [d.snd.fst, d.snd.snd.fst]) (↑x : Int).toNat).snd.snd.snd.snd.fst, (nth (U.flat [d.snd.fst, d.snd.snd.fst]) (↑x : Int).toNat).snd.snd.snd.snd.snd.fst,
  ())
  (mvalD (0 : Int)
  (mfind (Ty.int.pair (Ty.int.pair (Ty.int.pair (Ty.int.pair (Ty.int.pair (Ty.int.pair Ty.unit))))))
  ((nth (U.flat [d.snd.fst, d.snd.snd.fst]) (↑x : Int).toNat).fst, (nth (U.flat [d.snd.fst, d.snd.snd.fst]) (↑x : Int).toNat).snd.fst,
  (nth (U.flat [d.snd.fst, d.snd.snd.fst]) (↑x : Int).toNat).snd.snd.fst, (nth (U.flat [d.snd.fst, d.snd.snd.fst]) (↑x : Int).toNat).snd.snd.snd.fst,
  (nth (U.flat [d.snd.fst, d.snd.snd.fst]) (↑x : Int).toNat).snd.snd.snd.snd.fst,
  (nth (U.flat [d.snd.fst, d.snd.snd.fst]) (↑x : Int).toNat).snd.snd.snd.snd.snd.fst, ())
  (U.countTo (U.flat [d.snd.fst, d.snd.snd.fst]) x)) +
  (1 : Int))
  (U.countTo (U.flat [d.snd.fst, d.snd.snd.fst]) x) =
  U.countTo (U.flat [d.snd.fst, d.snd.snd.fst]) x' ∧
  True) ∧
  x' ≤ List.length (U.flat [d.snd.fst, d.snd.snd.fst]) ∧ List.length (U.flat [d.snd.fst, d.snd.snd.fst]) - x' < List.length (U.flat [d.snd.fst, d.snd.snd.fst]) - x) ∧
  True) ∧
  True) ∧
  True) ∧
  (∀ (s : Int),
  (In64
  (mvalD (0 : Int)
  (mfind (Ty.int.pair (Ty.int.pair (Ty.int.pair (Ty.int.pair (Ty.int.pair (Ty.int.pair Ty.unit))))))
  ((nth (U.flat [d.snd.fst, d.snd.snd.fst]) (↑x : Int).toNat).fst, (nth (U.flat [d.snd.fst, d.snd.snd.fst]) (↑x : Int).toNat).snd.fst,
  (nth (U.flat [d.snd.fst, d.snd.snd.fst]) (↑x : Int).toNat).snd.snd.fst, (nth (U.flat [d.snd.fst, d.snd.snd.fst]) (↑x : Int).toNat).snd.snd.snd.fst,
  (nth (U.flat [d.snd.fst, d.snd.snd.fst]) (↑x : Int).toNat).snd.snd.snd.snd.fst, (nth (U.flat [d.snd.fst, d.snd.snd.fst]) (↑x : Int).toNat).snd.snd.snd.snd.snd.fst, ())
  (U.countTo (U.flat [d.snd.fst, d.snd.snd.fst]) x)) +
  (1 : Int)) ∧
  ((s = s ∧
  In64 ((↑x : Int) + (1 : Int)) ∧
  ∃ (x' : Nat),
  (((↑x : Int) + (1 : Int) = (↑x' : Int) ∧ True) ∧
  mput (Ty.int.pair (Ty.int.pair (Ty.int.pair (Ty.int.pair (Ty.int.pair (Ty.int.pair Ty.unit))))))
  ((nth (U.flat [d.snd.fst, d.snd.snd.fst]) (↑x : Int).toNat).fst, (nth (U.flat [d.snd.fst, d.snd.snd.fst]) (↑x : Int).toNat).snd.fst,
  (nth (U.flat [d.snd.fst, d.snd.snd.fst]) (↑x : Int).toNat).snd.snd.fst, (nth (U.flat [d.snd.fst, d.snd.snd.fst]) (↑x : Int).toNat).snd.snd.snd.fst,
  (nth (U.flat [d.snd.fst, d.snd.snd.fst]) (↑x : Int).toNat).snd.snd.snd.snd.fst, (nth (U.flat [d.snd.fst, d.snd.snd.fst]) (↑x : Int).toNat).snd.snd.snd.snd.snd.fst,
  ())
  (mvalD (0 : Int)
  (mfind (Ty.int.pair (Ty.int.pair (Ty.int.pair (Ty.int.pair (Ty.int.pair (Ty.int.pair Ty.unit))))))
  ((nth (U.flat [d.snd.fst, d.snd.snd.fst]) (↑x : Int).toNat).fst, (nth (U.flat [d.snd.fst, d.snd.snd.fst]) (↑x : Int).toNat).snd.fst,
  (nth (U.flat [d.snd.fst, d.snd.snd.fst]) (↑x : Int).toNat).snd.snd.fst, (nth (U.flat [d.snd.fst, d.snd.snd.fst]) (↑x : Int).toNat).snd.snd.snd.fst,
  (nth (U.flat [d.snd.fst, d.snd.snd.fst]) (↑x : Int).toNat).snd.snd.snd.snd.fst,
  (nth (U.flat [d.snd.fst, d.snd.snd.fst]) (↑x : Int).toNat).snd.snd.snd.snd.snd.fst, ())
  (U.countTo (U.flat [d.snd.fst, d.snd.snd.fst]) x)) +
  (1 : Int))
  (U.countTo (U.flat [d.snd.fst, d.snd.snd.fst]) x) =
  U.countTo (U.flat [d.snd.fst, d.snd.snd.fst]) x' ∧
  True) ∧
  x' ≤ List.length (U.flat [d.snd.fst, d.snd.snd.fst]) ∧ List.length (U.flat [d.snd.fst, d.snd.snd.fst]) - x' < List.length (U.flat [d.snd.fst, d.snd.snd.fst]) - x) ∧
  True) ∧
  True) ∧
  ((In64
  (mvalD (0 : Int)
  (mfind (Ty.int.pair (Ty.int.pair (Ty.int.pair (Ty.int.pair (Ty.int.pair (Ty.int.pair Ty.unit))))))
  ((nth (U.flat [d.snd.fst, d.snd.snd.fst]) (↑x : Int).toNat).fst, (nth (U.flat [d.snd.fst, d.snd.snd.fst]) (↑x : Int).toNat).snd.fst,
  (nth (U.flat [d.snd.fst, d.snd.snd.fst]) (↑x : Int).toNat).snd.snd.fst, (nth (U.flat [d.snd.fst, d.snd.snd.fst]) (↑x : Int).toNat).snd.snd.snd.fst,
  (nth (U.flat [d.snd.fst, d.snd.snd.fst]) (↑x : Int).toNat).snd.snd.snd.snd.fst, (nth (U.flat [d.snd.fst, d.snd.snd.fst]) (↑x : Int).toNat).snd.snd.snd.snd.snd.fst, ())
  (U.countTo (U.flat [d.snd.fst, d.snd.snd.fst]) x)) +
  (1 : Int)) ∧
  (s = s ∧
  In64 ((↑x : Int) + (1 : Int)) ∧
  ∃ (x' : Nat),
  (((↑x : Int) + (1 : Int) = (↑x' : Int) ∧ True) ∧
  mput (Ty.int.pair (Ty.int.pair (Ty.int.pair (Ty.int.pair (Ty.int.pair (Ty.int.pair Ty.unit))))))
  ((nth (U.flat [d.snd.fst, d.snd.snd.fst]) (↑x : Int).toNat).fst, (nth (U.flat [d.snd.fst, d.snd.snd.fst]) (↑x : Int).toNat).snd.fst,
  (nth (U.flat [d.snd.fst, d.snd.snd.fst]) (↑x : Int).toNat).snd.snd.fst, (nth (U.flat [d.snd.fst, d.snd.snd.fst]) (↑x : Int).toNat).snd.snd.snd.fst,
  (nth (U.flat [d.snd.fst, d.snd.snd.fst]) (↑x : Int).toNat).snd.snd.snd.snd.fst,
  (nth (U.flat [d.snd.fst, d.snd.snd.fst]) (↑x : Int).toNat).snd.snd.snd.snd.snd.fst, ())
  (mvalD (0 : Int)
  (mfind (Ty.int.pair (Ty.int.pair (Ty.int.pair (Ty.int.pair (Ty.int.pair (Ty.int.pair Ty.unit))))))
  ((nth (U.flat [d.snd.fst, d.snd.snd.fst]) (↑x : Int).toNat).fst, (nth (U.flat [d.snd.fst, d.snd.snd.fst]) (↑x : Int).toNat).snd.fst,
  (nth (U.flat [d.snd.fst, d.snd.snd.fst]) (↑x : Int).toNat).snd.snd.fst, (nth (U.flat [d.snd.fst, d.snd.snd.fst]) (↑x : Int).toNat).snd.snd.snd.fst,
  (nth (U.flat [d.snd.fst, d.snd.snd.fst]) (↑x : Int).toNat).snd.snd.snd.snd.fst,
  (nth (U.flat [d.snd.fst, d.snd.snd.fst]) (↑x : Int).toNat).snd.snd.snd.snd.snd.fst, ())
  (U.countTo (U.flat [d.snd.fst, d.snd.snd.fst]) x)) +
  (1 : Int))
  (U.countTo (U.flat [d.snd.fst, d.snd.snd.fst]) x) =
  U.countTo (U.flat [d.snd.fst, d.snd.snd.fst]) x' ∧
  True) ∧
  x' ≤ List.length (U.flat [d.snd.fst, d.snd.snd.fst]) ∧ List.length (U.flat [d.snd.fst, d.snd.snd.fst]) - x' < List.length (U.flat [d.snd.fst, d.snd.snd.fst]) - x) ∧
  True) ∧
  True) ∧
  True) ∧
  True) ∧
  (∀ (s : Int),
  ((In64
  (mvalD (0 : Int)
  (mfind (Ty.int.pair (Ty.int.pair (Ty.int.pair (Ty.int.pair (Ty.int.pair (Ty.int.pair Ty.unit))))))
  ((nth (U.flat [d.snd.fst, d.snd.snd.fst]) (↑x : Int).toNat).fst, (nth (U.flat [d.snd.fst, d.snd.snd.fst]) (↑x : Int).toNat).snd.fst,
  (nth (U.flat [d.snd.fst, d.snd.snd.fst]) (↑x : Int).toNat).snd.snd.fst, (nth (U.flat [d.snd.fst, d.snd.snd.fst]) (↑x : Int).toNat).snd.snd.snd.fst,
  (nth (U.flat [d.snd.fst, d.snd.snd.fst]) (↑x : Int).toNat).snd.snd.snd.snd.fst, (nth (U.flat [d.snd.fst, d.snd.snd.fst]) (↑x : Int).toNat).snd.snd.snd.snd.snd.fst, ())
  (mput (Ty.int.pair (Ty.int.pair (Ty.int.pair (Ty.int.pair (Ty.int.pair (Ty.int.pair Ty.unit))))))
  ((nth (U.flat [d.snd.fst, d.snd.snd.fst]) (↑x : Int).toNat).fst, (nth (U.flat [d.snd.fst, d.snd.snd.fst]) (↑x : Int).toNat).snd.fst,
  (nth (U.flat [d.snd.fst, d.snd.snd.fst]) (↑x : Int).toNat).snd.snd.fst, (nth (U.flat [d.snd.fst, d.snd.snd.fst]) (↑x : Int).toNat).snd.snd.snd.fst,
  (nth (U.flat [d.snd.fst, d.snd.snd.fst]) (↑x : Int).toNat).snd.snd.snd.snd.fst, (nth (U.flat [d.snd.fst, d.snd.snd.fst]) (↑x : Int).toNat).snd.snd.snd.snd.snd.fst, ())
  (mvalD (0 : Int)
  (mfind (Ty.int.pair (Ty.int.pair (Ty.int.pair (Ty.int.pair (Ty.int.pair (Ty.int.pair Ty.unit))))))
  ((nth (U.flat [d.snd.fst, d.snd.snd.fst]) (↑x : Int).toNat).fst, (nth (U.flat [d.snd.fst, d.snd.snd.fst]) (↑x : Int).toNat).snd.fst,
  (nth (U.flat [d.snd.fst, d.snd.snd.fst]) (↑x : Int).toNat).snd.snd.fst, (nth (U.flat [d.snd.fst, d.snd.snd.fst]) (↑x : Int).toNat).snd.snd.snd.fst,
  (nth (U.flat [d.snd.fst, d.snd.snd.fst]) (↑x : Int).toNat).snd.snd.snd.snd.fst, (nth (U.flat [d.snd.fst, d.snd.snd.fst]) (↑x : Int).toNat).snd.snd.snd.snd.snd.fst, ())
  (U.countTo (U.flat [d.snd.fst, d.snd.snd.fst]) x)))
  (U.countTo (U.flat [d.snd.fst, d.snd.snd.fst]) x))) +
  (1 : Int)) ∧
  ((s = s ∧
  In64 ((↑x : Int) + (1 : Int)) ∧
  ∃ (x' : Nat),
  (((↑x : Int) + (1 : Int) = (↑x' : Int) ∧ True) ∧
  mput (Ty.int.pair (Ty.int.pair (Ty.int.pair (Ty.int.pair (Ty.int.pair (Ty.int.pair Ty.unit))))))
  ((nth (U.flat [d.snd.fst, d.snd.snd.fst]) (↑x : Int).toNat).fst, (nth (U.flat [d.snd.fst, d.snd.snd.fst]) (↑x : Int).toNat).snd.fst,
  (nth (U.flat [d.snd.fst, d.snd.snd.fst]) (↑x : Int).toNat).snd.snd.fst, (nth (U.flat [d.snd.fst, d.snd.snd.fst]) (↑x : Int).toNat).snd.snd.snd.fst,
  (nth (U.flat [d.snd.fst, d.snd.snd.fst]) (↑x : Int).toNat).snd.snd.snd.snd.fst, (nth (U.flat [d.snd.fst, d.snd.snd.fst]) (↑x : Int).toNat).snd.snd.snd.snd.snd.fst,
  ())
  (mvalD (0 : Int)
  (mfind (Ty.int.pair (Ty.int.pair (Ty.int.pair (Ty.int.pair (Ty.int.pair (Ty.int.pair Ty.unit))))))
  ((nth (U.flat [d.snd.fst, d.snd.snd.fst]) (↑x : Int).toNat).fst, (nth (U.flat [d.snd.fst, d.snd.snd.fst]) (↑x : Int).toNat).snd.fst,
  (nth (U.flat [d.snd.fst, d.snd.snd.fst]) (↑x : Int).toNat).snd.snd.fst, (nth (U.flat [d.snd.fst, d.snd.snd.fst]) (↑x : Int).toNat).snd.snd.snd.fst,
  (nth (U.flat [d.snd.fst, d.snd.snd.fst]) (↑x : Int).toNat).snd.snd.snd.snd.fst,
  (nth (U.flat [d.snd.fst, d.snd.snd.fst]) (↑x : Int).toNat).snd.snd.snd.snd.snd.fst, ())
  (mput (Ty.int.pair (Ty.int.pair (Ty.int.pair (Ty.int.pair (Ty.int.pair (Ty.int.pair Ty.unit))))))
  ((nth (U.flat [d.snd.fst, d.snd.snd.fst]) (↑x : Int).toNat).fst, (nth (U.flat [d.snd.fst, d.snd.snd.fst]) (↑x : Int).toNat).snd.fst,
  (nth (U.flat [d.snd.fst, d.snd.snd.fst]) (↑x : Int).toNat).snd.snd.fst, (nth (U.flat [d.snd.fst, d.snd.snd.fst]) (↑x : Int).toNat).snd.snd.snd.fst,
  (nth (U.flat [d.snd.fst, d.snd.snd.fst]) (↑x : Int).toNat).snd.snd.snd.snd.fst,
  (nth (U.flat [d.snd.fst, d.snd.snd.fst]) (↑x : Int).toNat).snd.snd.snd.snd.snd.fst, ())
  (mvalD (0 : Int)
  (mfind (Ty.int.pair (Ty.int.pair (Ty.int.pair (Ty.int.pair (Ty.int.pair (Ty.int.pair Ty.unit))))))
  ((nth (U.flat [d.snd.fst, d.snd.snd.fst]) (↑x : Int).toNat).fst, (nth (U.flat [d.snd.fst, d.snd.snd.fst]) (↑x : Int).toNat).snd.fst,
  (nth (U.flat [d.snd.fst, d.snd.snd.fst]) (↑x : Int).toNat).snd.snd.fst, (nth (U.flat [d.snd.fst, d.snd.snd.fst]) (↑x : Int).toNat).snd.snd.snd.fst,
  (nth (U.flat [d.snd.fst, d.snd.snd.fst]) (↑x : Int).toNat).snd.snd.snd.snd.fst,
  (nth (U.flat [d.snd.fst, d.snd.snd.fst]) (↑x : Int).toNat).snd.snd.snd.snd.snd.fst, ())
  (U.countTo (U.flat [d.snd.fst, d.snd.snd.fst]) x)))
  (U.countTo (U.flat [d.snd.fst, d.snd.snd.fst]) x))) +
  (1 : Int))
  (U.countTo (U.flat [d.snd.fst, d.snd.snd.fst]) x) =
  U.countTo (U.flat [d.snd.fst, d.snd.snd.fst]) x' ∧
  True) ∧
  x' ≤ List.length (U.flat [d.snd.fst, d.snd.snd.fst]) ∧ List.length (U.flat [d.snd.fst, d.snd.snd.fst]) - x' < List.length (U.flat [d.snd.fst, d.snd.snd.fst]) - x) ∧
  True) ∧
  True) ∧
  ((In64
  (mvalD (0 : Int)
  (mfind (Ty.int.pair (Ty.int.pair (Ty.int.pair (Ty.int.pair (Ty.int.pair (Ty.int.pair Ty.unit))))))
  ((nth (U.flat [d.snd.fst, d.snd.snd.fst]) (↑x : Int).toNat).fst, (nth (U.flat [d.snd.fst, d.snd.snd.fst]) (↑x : Int).toNat).snd.fst,
  (nth (U.flat [d.snd.fst, d.snd.snd.fst]) (↑x : Int).toNat).snd.snd.fst, (nth (U.flat [d.snd.fst, d.snd.snd.fst]) (↑x : Int).toNat).snd.snd.snd.fst,
  (nth (U.flat [d.snd.fst, d.snd.snd.fst]) (↑x : Int).toNat).snd.snd.snd.snd.fst, (nth (U.flat [d.snd.fst, d.snd.snd.fst]) (↑x : Int).toNat).snd.snd.snd.snd.snd.fst, ())
  (mput (Ty.int.pair (Ty.int.pair (Ty.int.pair (Ty.int.pair (Ty.int.pair (Ty.int.pair Ty.unit))))))
  ((nth (U.flat [d.snd.fst, d.snd.snd.fst]) (↑x : Int).toNat).fst, (nth (U.flat [d.snd.fst, d.snd.snd.fst]) (↑x : Int).toNat).snd.fst,
  (nth (U.flat [d.snd.fst, d.snd.snd.fst]) (↑x : Int).toNat).snd.snd.fst, (nth (U.flat [d.snd.fst, d.snd.snd.fst]) (↑x : Int).toNat).snd.snd.snd.fst,
  (nth (U.flat [d.snd.fst, d.snd.snd.fst]) (↑x : Int).toNat).snd.snd.snd.snd.fst, (nth (U.flat [d.snd.fst, d.snd.snd.fst]) (↑x : Int).toNat).snd.snd.snd.snd.snd.fst, ())
  (mvalD (0 : Int)
  (mfind (Ty.int.pair (Ty.int.pair (Ty.int.pair (Ty.int.pair (Ty.int.pair (Ty.int.pair Ty.unit))))))
  ((nth (U.flat [d.snd.fst, d.snd.snd.fst]) (↑x : Int).toNat).fst, (nth (U.flat [d.snd.fst, d.snd.snd.fst]) (↑x : Int).toNat).snd.fst,
  (nth (U.flat [d.snd.fst, d.snd.snd.fst]) (↑x : Int).toNat).snd.snd.fst, (nth (U.flat [d.snd.fst, d.snd.snd.fst]) (↑x : Int).toNat).snd.snd.snd.fst,
  (nth (U.flat [d.snd.fst, d.snd.snd.fst]) (↑x : Int).toNat).snd.snd.snd.snd.fst, (nth (U.flat [d.snd.fst, d.snd.snd.fst]) (↑x : Int).toNat).snd.snd.snd.snd.snd.fst,
  ())
  (U.countTo (U.flat [d.snd.fst, d.snd.snd.fst]) x)))
  (U.countTo (U.flat [d.snd.fst, d.snd.snd.fst]) x))) +
  (1 : Int)) ∧
  (s = s ∧
  In64 ((↑x : Int) + (1 : Int)) ∧
  ∃ (x' : Nat),
  (((↑x : Int) + (1 : Int) = (↑x' : Int) ∧ True) ∧
  mput (Ty.int.pair (Ty.int.pair (Ty.int.pair (Ty.int.pair (Ty.int.pair (Ty.int.pair Ty.unit))))))
  ((nth (U.flat [d.snd.fst, d.snd.snd.fst]) (↑x : Int).toNat).fst, (nth (U.flat [d.snd.fst, d.snd.snd.fst]) (↑x : Int).toNat).snd.fst,
  (nth (U.flat [d.snd.fst, d.snd.snd.fst]) (↑x : Int).toNat).snd.snd.fst, (nth (U.flat [d.snd.fst, d.snd.snd.fst]) (↑x : Int).toNat).snd.snd.snd.fst,
  (nth (U.flat [d.snd.fst, d.snd.snd.fst]) (↑x : Int).toNat).snd.snd.snd.snd.fst,
  (nth (U.flat [d.snd.fst, d.snd.snd.fst]) (↑x : Int).toNat).snd.snd.snd.snd.snd.fst, ())
  (mvalD (0 : Int)
  (mfind (Ty.int.pair (Ty.int.pair (Ty.int.pair (Ty.int.pair (Ty.int.pair (Ty.int.pair Ty.unit))))))
  ((nth (U.flat [d.snd.fst, d.snd.snd.fst]) (↑x : Int).toNat).fst, (nth (U.flat [d.snd.fst, d.snd.snd.fst]) (↑x : Int).toNat).snd.fst,
  (nth (U.flat [d.snd.fst, d.snd.snd.fst]) (↑x : Int).toNat).snd.snd.fst, (nth (U.flat [d.snd.fst, d.snd.snd.fst]) (↑x : Int).toNat).snd.snd.snd.fst,
  (nth (U.flat [d.snd.fst, d.snd.snd.fst]) (↑x : Int).toNat).snd.snd.snd.snd.fst,
  (nth (U.flat [d.snd.fst, d.snd.snd.fst]) (↑x : Int).toNat).snd.snd.snd.snd.snd.fst, ())
  (mput (Ty.int.pair (Ty.int.pair (Ty.int.pair (Ty.int.pair (Ty.int.pair (Ty.int.pair Ty.unit))))))
  ((nth (U.flat [d.snd.fst, d.snd.snd.fst]) (↑x : Int).toNat).fst, (nth (U.flat [d.snd.fst, d.snd.snd.fst]) (↑x : Int).toNat).snd.fst,
  (nth (U.flat [d.snd.fst, d.snd.snd.fst]) (↑x : Int).toNat).snd.snd.fst, (nth (U.flat [d.snd.fst, d.snd.snd.fst]) (↑x : Int).toNat).snd.snd.snd.fst,
  (nth (U.flat [d.snd.fst, d.snd.snd.fst]) (↑x : Int).toNat).snd.snd.snd.snd.fst,
  (nth (U.flat [d.snd.fst, d.snd.snd.fst]) (↑x : Int).toNat).snd.snd.snd.snd.snd.fst, ())
  (mvalD (0 : Int)
  (mfind (Ty.int.pair (Ty.int.pair (Ty.int.pair (Ty.int.pair (Ty.int.pair (Ty.int.pair Ty.unit))))))
  ((nth (U.flat [d.snd.fst, d.snd.snd.fst]) (↑x : Int).toNat).fst, (nth (U.flat [d.snd.fst, d.snd.snd.fst]) (↑x : Int).toNat).snd.fst,
  (nth (U.flat [d.snd.fst, d.snd.snd.fst]) (↑x : Int).toNat).snd.snd.fst, (nth (U.flat [d.snd.fst, d.snd.snd.fst]) (↑x : Int).toNat).snd.snd.snd.fst,
  (nth (U.flat [d.snd.fst, d.snd.snd.fst]) (↑x : Int).toNat).snd.snd.snd.snd.fst,
  (nth (U.flat [d.snd.fst, d.snd.snd.fst]) (↑x : Int).toNat).snd.snd.snd.snd.snd.fst, ())
  (U.countTo (U.flat [d.snd.fst, d.snd.snd.fst]) x)))
  (U.countTo (U.flat [d.snd.fst, d.snd.snd.fst]) x))) +
  (1 : Int))
  (U.countTo (U.flat [d.snd.fst, d.snd.snd.fst]) x) =
  U.countTo (U.flat [d.snd.fst, d.snd.snd.fst]) x' ∧
  True) ∧
  x' ≤ List.length (U.flat [d.snd.fst, d.snd.snd.fst]) ∧ List.length (U.flat [d.snd.fst, d.snd.snd.fst]) - x' < List.length (U.flat [d.snd.fst, d.snd.snd.fst]) - x) ∧
  True) ∧
  True) ∧
  True) ∧
  (((In64
  (mvalD (0 : Int)
  (mfind (Ty.int.pair (Ty.int.pair (Ty.int.pair (Ty.int.pair (Ty.int.pair (Ty.int.pair Ty.unit))))))
  ((nth (U.flat [d.snd.fst, d.snd.snd.fst]) (↑x : Int).toNat).fst, (nth (U.flat [d.snd.fst, d.snd.snd.fst]) (↑x : Int).toNat).snd.fst,
  (nth (U.flat [d.snd.fst, d.snd.snd.fst]) (↑x : Int).toNat).snd.snd.fst, (nth (U.flat [d.snd.fst, d.snd.snd.fst]) (↑x : Int).toNat).snd.snd.snd.fst,
  (nth (U.flat [d.snd.fst, d.snd.snd.fst]) (↑x : Int).toNat).snd.snd.snd.snd.fst, (nth (U.flat [d.snd.fst, d.snd.snd.fst]) (↑x : Int).toNat).snd.snd.snd.snd.snd.fst, ())
  (mput (Ty.int.pair (Ty.int.pair (Ty.int.pair (Ty.int.pair (Ty.int.pair (Ty.int.pair Ty.unit))))))
  ((nth (U.flat [d.snd.fst, d.snd.snd.fst]) (↑x : Int).toNat).fst, (nth (U.flat [d.snd.fst, d.snd.snd.fst]) (↑x : Int).toNat).snd.fst,
  (nth (U.flat [d.snd.fst, d.snd.snd.fst]) (↑x : Int).toNat).snd.snd.fst, (nth (U.flat [d.snd.fst, d.snd.snd.fst]) (↑x : Int).toNat).snd.snd.snd.fst,
  (nth (U.flat [d.snd.fst, d.snd.snd.fst]) (↑x : Int).toNat).snd.snd.snd.snd.fst, (nth (U.flat [d.snd.fst, d.snd.snd.fst]) (↑x : Int).toNat).snd.snd.snd.snd.snd.fst, ())
  (mvalD (0 : Int)
  (mfind (Ty.int.pair (Ty.int.pair (Ty.int.pair (Ty.int.pair (Ty.int.pair (Ty.int.pair Ty.unit))))))
  ((nth (U.flat [d.snd.fst, d.snd.snd.fst]) (↑x : Int).toNat).fst, (nth (U.flat [d.snd.fst, d.snd.snd.fst]) (↑x : Int).toNat).snd.fst,
  (nth (U.flat [d.snd.fst, d.snd.snd.fst]) (↑x : Int).toNat).snd.snd.fst, (nth (U.flat [d.snd.fst, d.snd.snd.fst]) (↑x : Int).toNat).snd.snd.snd.fst,
  (nth (U.flat [d.snd.fst, d.snd.snd.fst]) (↑x : Int).toNat).snd.snd.snd.snd.fst, (nth (U.flat [d.snd.fst, d.snd.snd.fst]) (↑x : Int).toNat).snd.snd.snd.snd.snd.fst,
  ())
  (U.countTo (U.flat [d.snd.fst, d.snd.snd.fst]) x)))
  (U.countTo (U.flat [d.snd.fst, d.snd.snd.fst]) x))) +
  (1 : Int)) ∧
  (s = s ∧
  In64 ((↑x : Int) + (1 : Int)) ∧
  ∃ (x' : Nat),
  (((↑x : Int) + (1 : Int) = (↑x' : Int) ∧ True) ∧
  mput (Ty.int.pair (Ty.int.pair (Ty.int.pair (Ty.int.pair (Ty.int.pair (Ty.int.pair Ty.unit))))))
  ((nth (U.flat [d.snd.fst, d.snd.snd.fst]) (↑x : Int).toNat).fst, (nth (U.flat [d.snd.fst, d.snd.snd.fst]) (↑x : Int).toNat).snd.fst,
  (nth (U.flat [d.snd.fst, d.snd.snd.fst]) (↑x : Int).toNat).snd.snd.fst, (nth (U.flat [d.snd.fst, d.snd.snd.fst]) (↑x : Int).toNat).snd.snd.snd.fst,
  (nth (U.flat [d.snd.fst, d.snd.snd.fst]) (↑x : Int).toNat).snd.snd.snd.snd.fst,
  (nth (U.flat [d.snd.fst, d.snd.snd.fst]) (↑x : Int).toNat).snd.snd.snd.snd.snd.fst, ())
  (mvalD (0 : Int)
  (mfind (Ty.int.pair (Ty.int.pair (Ty.int.pair (Ty.int.pair (Ty.int.pair (Ty.int.pair Ty.unit))))))
  ((nth (U.flat [d.snd.fst, d.snd.snd.fst]) (↑x : Int).toNat).fst, (nth (U.flat [d.snd.fst, d.snd.snd.fst]) (↑x : Int).toNat).snd.fst,
  (nth (U.flat [d.snd.fst, d.snd.snd.fst]) (↑x : Int).toNat).snd.snd.fst, (nth (U.flat [d.snd.fst, d.snd.snd.fst]) (↑x : Int).toNat).snd.snd.snd.fst,
  (nth (U.flat [d.snd.fst, d.snd.snd.fst]) (↑x : Int).toNat).snd.snd.snd.snd.fst,
  (nth (U.flat [d.snd.fst, d.snd.snd.fst]) (↑x : Int).toNat).snd.snd.snd.snd.snd.fst, ())
  (mput (Ty.int.pair (Ty.int.pair (Ty.int.pair (Ty.int.pair (Ty.int.pair (Ty.int.pair Ty.unit))))))
  ((nth (U.flat [d.snd.fst, d.snd.snd.fst]) (↑x : Int).toNat).fst, (nth (U.flat [d.snd.fst, d.snd.snd.fst]) (↑x : Int).toNat).snd.fst,
  (nth (U.flat [d.snd.fst, d.snd.snd.fst]) (↑x : Int).toNat).snd.snd.fst, (nth (U.flat [d.snd.fst, d.snd.snd.fst]) (↑x : Int).toNat).snd.snd.snd.fst,
  (nth (U.flat [d.snd.fst, d.snd.snd.fst]) (↑x : Int).toNat).snd.snd.snd.snd.fst,
  (nth (U.flat [d.snd.fst, d.snd.snd.fst]) (↑x : Int).toNat).snd.snd.snd.snd.snd.fst, ())
  (mvalD (0 : Int)
  (mfind (Ty.int.pair (Ty.int.pair (Ty.int.pair (Ty.int.pair (Ty.int.pair (Ty.int.pair Ty.unit))))))
  ((nth (U.flat [d.snd.fst, d.snd.snd.fst]) (↑x : Int).toNat).fst, (nth (U.flat [d.snd.fst, d.snd.snd.fst]) (↑x : Int).toNat).snd.fst,
  (nth (U.flat [d.snd.fst, d.snd.snd.fst]) (↑x : Int).toNat).snd.snd.fst, (nth (U.flat [d.snd.fst, d.snd.snd.fst]) (↑x : Int).toNat).snd.snd.snd.fst,
  (nth (U.flat [d.snd.fst, d.snd.snd.fst]) (↑x : Int).toNat).snd.snd.snd.snd.fst,
  (nth (U.flat [d.snd.fst, d.snd.snd.fst]) (↑x : Int).toNat).snd.snd.snd.snd.snd.fst, ())
  (U.countTo (U.flat [d.snd.fst, d.snd.snd.fst]) x)))
  (U.countTo (U.flat [d.snd.fst, d.snd.snd.fst]) x))) +
  (1 : Int))
  (U.countTo (U.flat [d.snd.fst, d.snd.snd.fst]) x) =
  U.countTo (U.flat [d.snd.fst, d.snd.snd.fst]) x' ∧
  True) ∧
  x' ≤ List.length (U.flat [d.snd.fst, d.snd.snd.fst]) ∧ List.length (U.flat [d.snd.fst, d.snd.snd.fst]) - x' < List.length (U.flat [d.snd.fst, d.snd.snd.fst]) - x) ∧
  True) ∧
  True) ∧
  True) ∧
  True) ∧
  True) ∧
  True) ∧
  True) ∧
  (decide ((↑x : Int) < (↑(List.length (U.flat [d.snd.fst, d.snd.snd.fst])) : Int)) = false →
  [d.snd.fst, d.snd.snd.fst].length ≤ (2 : Nat) ∧
  (∀ (l : List (Int × Int × Int × Int × Int × Int × Unit)), l ∈ [d.snd.fst, d.snd.snd.fst] → l.length ≤ (40000 : Nat)) ∧
  (decide ((40 : Int) < (↑(U.countTo (U.flat [d.snd.fst, d.snd.snd.fst]) x).length : Int)) = true →
  ([], (2 : Int), ()) = (U.merged d.fst d.snd.fst d.snd.snd.fst, U.mergeErr d.fst d.snd.fst d.snd.snd.fst, ())) ∧
  (decide ((40 : Int) < (↑(U.countTo (U.flat [d.snd.fst, d.snd.snd.fst]) x).length : Int)) = false →
  (decide ((0 : Int) < (U.fillAll [d.snd.fst, d.snd.snd.fst]).snd.fst) = true → ([], (22 : Int), ()) = (U.merged d.fst d.snd.fst d.snd.snd.fst, U.mergeErr d.fst d.snd.fst d.snd.snd.fst, ())) ∧
  (decide ((0 : Int) < (U.fillAll [d.snd.fst, d.snd.snd.fst]).snd.fst) = false →
  U.okMap (U.fillAll [d.snd.fst, d.snd.snd.fst]).fst ∧
  (U.isort U.cmpF (U.vals (U.fillAll [d.snd.fst, d.snd.snd.fst]).fst), (0 : Int), ()) = (U.merged d.fst d.snd.fst d.snd.snd.fst, U.mergeErr d.fst d.snd.fst d.snd.snd.fst, ()))))))

theorem vc36_eq : fnVC (ctx 63 [(37, sp37), (58, sp58)] [(59, so59), (60, so60)]) (an36) Try.f36 (bodyOf Try.f36) sp36 = vc36 := by kernel_rfl


def sp10 : Spec := lawSpec [tF, .slice tG, tMix]
def an10 : Ann := fun r => match r with
  | 9 => some fun σ => { X := Nat, sl := fun i => [(12, .dat .int (i : Int))], ob := fun _ => [], inv := fun i => i ≤ (gd tF σ 0).1.length, mu := fun i => (gd tF σ 0).1.length - i }
  | _ => none
def vc10 : Prop :=
  ∀ (d : (List Int × Int × Unit) × List (Int × Int × Int × Int × Int × Int × Unit) × (Int × Int × Bool × Unit) × Unit),
  fitsAll (1048576 : Nat) [Ty.int.slice.pair (Ty.int.pair Ty.unit), (Ty.int.pair (Ty.int.pair (Ty.int.pair (Ty.int.pair (Ty.int.pair (Ty.int.pair Ty.unit)))))).slice, Ty.int.pair (Ty.int.pair (Ty.bool.pair Ty.unit))] d →
  ((!(!U.valid (d.fst.fst, d.fst.snd.fst, ()) d.snd.fst || decide (d.snd.snd.fst.fst < (0 : Int)) || decide ((1000 : Int) < d.snd.snd.fst.fst) || decide (d.snd.snd.fst.snd.fst < (0 : Int)))) = true →
  d.snd.fst.length < (4611686018427387904 : Nat)) →
  ((!U.valid (d.fst.fst, d.fst.snd.fst, ()) d.snd.fst || decide (d.snd.snd.fst.fst < (0 : Int)) || decide ((1000 : Int) < d.snd.snd.fst.fst) || decide (d.snd.snd.fst.snd.fst < (0 : Int)) ||
  decide ((↑d.snd.fst.length : Int) < d.snd.snd.fst.snd.fst)) =
  true →
  (true, ()) = (true, ())) ∧
  ((!U.valid (d.fst.fst, d.fst.snd.fst, ()) d.snd.fst || decide (d.snd.snd.fst.fst < (0 : Int)) || decide ((1000 : Int) < d.snd.snd.fst.fst) || decide (d.snd.snd.fst.snd.fst < (0 : Int)) ||
  decide ((↑d.snd.fst.length : Int) < d.snd.snd.fst.snd.fst)) =
  false →
  ((0 : Int) ≤ d.snd.snd.fst.fst ∧ d.snd.snd.fst.fst ≤ (1000 : Int)) ∧
  d.snd.fst.length ≤ (1000 : Nat) ∧
  (U.check (d.fst.fst, d.fst.snd.fst, ()) d.snd.fst = (0 : Int) → U.few d.snd.fst) ∧
  (U.check (d.fst.fst, d.fst.snd.fst, ()) (U.turned d.snd.fst (d.snd.snd.fst.fst, d.snd.snd.fst.snd.fst, d.snd.snd.fst.snd.snd.fst, ())) = (0 : Int) →
  U.few (U.turned d.snd.fst (d.snd.snd.fst.fst, d.snd.snd.fst.snd.fst, d.snd.snd.fst.snd.snd.fst, ()))) ∧
  ((!(decide (U.check (d.fst.fst, d.fst.snd.fst, ()) d.snd.fst ≠ (0 : Int)) ||
  decide (U.check (d.fst.fst, d.fst.snd.fst, ()) (U.turned d.snd.fst (d.snd.snd.fst.fst, d.snd.snd.fst.snd.fst, d.snd.snd.fst.snd.snd.fst, ())) ≠ (0 : Int)))) =
  true →
  List.length (U.heldP (d.fst.fst, d.fst.snd.fst, ()) d.snd.fst) ≤ (100000 : Nat)) ∧
  ((decide (U.check (d.fst.fst, d.fst.snd.fst, ()) d.snd.fst ≠ (0 : Int)) ||
  decide (U.check (d.fst.fst, d.fst.snd.fst, ()) (U.turned d.snd.fst (d.snd.snd.fst.fst, d.snd.snd.fst.snd.fst, d.snd.snd.fst.snd.snd.fst, ())) ≠ (0 : Int)) ||
  !U.sameL (U.heldP (d.fst.fst, d.fst.snd.fst, ()) d.snd.fst) (U.heldP (d.fst.fst, d.fst.snd.fst, ()) (U.turned d.snd.fst (d.snd.snd.fst.fst, d.snd.snd.fst.snd.fst, d.snd.snd.fst.snd.snd.fst, ())))) =
  true →
  (false, ()) = (true, ())) ∧
  ((decide (U.check (d.fst.fst, d.fst.snd.fst, ()) d.snd.fst ≠ (0 : Int)) ||
  decide (U.check (d.fst.fst, d.fst.snd.fst, ()) (U.turned d.snd.fst (d.snd.snd.fst.fst, d.snd.snd.fst.snd.fst, d.snd.snd.fst.snd.snd.fst, ())) ≠ (0 : Int)) ||
  !U.sameL (U.heldP (d.fst.fst, d.fst.snd.fst, ()) d.snd.fst) (U.heldP (d.fst.fst, d.fst.snd.fst, ()) (U.turned d.snd.fst (d.snd.snd.fst.fst, d.snd.snd.fst.snd.fst, d.snd.snd.fst.snd.snd.fst, ())))) =
  false →
  (∃ (x : Nat), (((0 : Int) = (↑x : Int) ∧ True) ∧ True) ∧ x ≤ d.fst.fst.length) ∧
  ∀ (x : Nat),
  x ≤ d.fst.fst.length →
  d.fst.fst.length < (4611686018427387904 : Nat) →
  (decide ((↑x : Int) < (↑d.fst.fst.length : Int)) = true →
  (U.check (d.fst.fst, d.fst.snd.fst, ()) d.snd.fst = (0 : Int) → U.few d.snd.fst) ∧
  (U.check (d.fst.fst, d.fst.snd.fst, ()) (U.turned d.snd.fst (d.snd.snd.fst.fst, d.snd.snd.fst.snd.fst, d.snd.snd.fst.snd.snd.fst, ())) = (0 : Int) →
  U.few (U.turned d.snd.fst (d.snd.snd.fst.fst, d.snd.snd.fst.snd.fst, d.snd.snd.fst.snd.snd.fst, ()))) ∧
  ((!(decide (U.filmErr (d.fst.fst, d.fst.snd.fst, ()) d.snd.fst (↑x : Int) ≠ (0 : Int)) ||
  decide (U.filmErr (d.fst.fst, d.fst.snd.fst, ()) (U.turned d.snd.fst (d.snd.snd.fst.fst, d.snd.snd.fst.snd.fst, d.snd.snd.fst.snd.snd.fst, ())) (↑x : Int) ≠ (0 : Int)))) =
  true →
  (U.readings (d.fst.fst, d.fst.snd.fst, ()) d.snd.fst (↑x : Int)).length ≤ (100000 : Nat)) ∧
  ((decide (U.filmErr (d.fst.fst, d.fst.snd.fst, ()) d.snd.fst (↑x : Int) ≠ (0 : Int)) ||
  decide (U.filmErr (d.fst.fst, d.fst.snd.fst, ()) (U.turned d.snd.fst (d.snd.snd.fst.fst, d.snd.snd.fst.snd.fst, d.snd.snd.fst.snd.snd.fst, ())) (↑x : Int) ≠ (0 : Int)) ||
  !decide
  (U.readings (d.fst.fst, d.fst.snd.fst, ()) d.snd.fst (↑x : Int) =
  U.readings (d.fst.fst, d.fst.snd.fst, ()) (U.turned d.snd.fst (d.snd.snd.fst.fst, d.snd.snd.fst.snd.fst, d.snd.snd.fst.snd.snd.fst, ())) (↑x : Int))) =
  true →
  (false, ()) = (true, ())) ∧
  ((decide (U.filmErr (d.fst.fst, d.fst.snd.fst, ()) d.snd.fst (↑x : Int) ≠ (0 : Int)) ||
  decide (U.filmErr (d.fst.fst, d.fst.snd.fst, ()) (U.turned d.snd.fst (d.snd.snd.fst.fst, d.snd.snd.fst.snd.fst, d.snd.snd.fst.snd.snd.fst, ())) (↑x : Int) ≠ (0 : Int)) ||
  !decide
  (U.readings (d.fst.fst, d.fst.snd.fst, ()) d.snd.fst (↑x : Int) =
  U.readings (d.fst.fst, d.fst.snd.fst, ()) (U.turned d.snd.fst (d.snd.snd.fst.fst, d.snd.snd.fst.snd.fst, d.snd.snd.fst.snd.snd.fst, ())) (↑x : Int))) =
  false →
  In64 ((↑x : Int) + (1 : Int)) ∧ ∃ (x' : Nat), (((↑x : Int) + (1 : Int) = (↑x' : Int) ∧ True) ∧ True) ∧ x' ≤ d.fst.fst.length ∧ d.fst.fst.length - x' < d.fst.fst.length - x)) ∧
  (decide ((↑x : Int) < (↑d.fst.fst.length : Int)) = false →
  (U.check (d.fst.fst, d.fst.snd.fst, ()) d.snd.fst = (0 : Int) → U.check (d.fst.fst, d.fst.snd.fst, ()) [] = (0 : Int) → (U.fillAll [d.snd.fst, []]).fst.length ≤ (12 : Nat)) ∧
  (0 : Int) ≤ (0 : Int) ∧
  (0 : Int) ≤ d.snd.snd.fst.snd.fst ∧
  d.snd.snd.fst.snd.fst ≤ (↑(List.length (U.turned d.snd.fst (d.snd.snd.fst.fst, d.snd.snd.fst.snd.fst, d.snd.snd.fst.snd.snd.fst, ()))) : Int) ∧
  (0 : Int) ≤ d.snd.snd.fst.snd.fst ∧
  d.snd.snd.fst.snd.fst ≤ (↑(List.length (U.turned d.snd.fst (d.snd.snd.fst.fst, d.snd.snd.fst.snd.fst, d.snd.snd.fst.snd.snd.fst, ()))) : Int) ∧
  (↑(List.length (U.turned d.snd.fst (d.snd.snd.fst.fst, d.snd.snd.fst.snd.fst, d.snd.snd.fst.snd.snd.fst, ()))) : Int) ≤
  (↑(List.length (U.turned d.snd.fst (d.snd.snd.fst.fst, d.snd.snd.fst.snd.fst, d.snd.snd.fst.snd.snd.fst, ()))) : Int) ∧
  (U.check (d.fst.fst, d.fst.snd.fst, ())
  (List.take (d.snd.snd.fst.snd.fst.toNat - Int.toNat (0 : Int))
  (List.drop (Int.toNat (0 : Int)) (U.turned d.snd.fst (d.snd.snd.fst.fst, d.snd.snd.fst.snd.fst, d.snd.snd.fst.snd.snd.fst, ())))) =
  (0 : Int) →
  U.check (d.fst.fst, d.fst.snd.fst, ())
  (List.take ((↑(List.length (U.turned d.snd.fst (d.snd.snd.fst.fst, d.snd.snd.fst.snd.fst, d.snd.snd.fst.snd.snd.fst, ()))) : Int).toNat - d.snd.snd.fst.snd.fst.toNat)
  (List.drop d.snd.snd.fst.snd.fst.toNat (U.turned d.snd.fst (d.snd.snd.fst.fst, d.snd.snd.fst.snd.fst, d.snd.snd.fst.snd.snd.fst, ())))) =
  (0 : Int) →
  (U.fillAll
  [List.take (d.snd.snd.fst.snd.fst.toNat - Int.toNat (0 : Int))
  (List.drop (Int.toNat (0 : Int)) (U.turned d.snd.fst (d.snd.snd.fst.fst, d.snd.snd.fst.snd.fst, d.snd.snd.fst.snd.snd.fst, ()))),
  List.take ((↑(List.length (U.turned d.snd.fst (d.snd.snd.fst.fst, d.snd.snd.fst.snd.fst, d.snd.snd.fst.snd.snd.fst, ()))) : Int).toNat - d.snd.snd.fst.snd.fst.toNat)
  (List.drop d.snd.snd.fst.snd.fst.toNat (U.turned d.snd.fst (d.snd.snd.fst.fst, d.snd.snd.fst.snd.fst, d.snd.snd.fst.snd.snd.fst, ())))]).fst.length ≤
  (12 : Nat)) ∧
  (0 : Int) ≤ d.snd.snd.fst.snd.fst ∧
  d.snd.snd.fst.snd.fst ≤ (↑(List.length (U.turned d.snd.fst (d.snd.snd.fst.fst, d.snd.snd.fst.snd.fst, d.snd.snd.fst.snd.snd.fst, ()))) : Int) ∧
  (↑(List.length (U.turned d.snd.fst (d.snd.snd.fst.fst, d.snd.snd.fst.snd.fst, d.snd.snd.fst.snd.snd.fst, ()))) : Int) ≤
  (↑(List.length (U.turned d.snd.fst (d.snd.snd.fst.fst, d.snd.snd.fst.snd.fst, d.snd.snd.fst.snd.snd.fst, ()))) : Int) ∧
  (0 : Int) ≤ (0 : Int) ∧
  (0 : Int) ≤ d.snd.snd.fst.snd.fst ∧
  d.snd.snd.fst.snd.fst ≤ (↑(List.length (U.turned d.snd.fst (d.snd.snd.fst.fst, d.snd.snd.fst.snd.fst, d.snd.snd.fst.snd.snd.fst, ()))) : Int) ∧
  (U.check (d.fst.fst, d.fst.snd.fst, ())
  (List.take ((↑(List.length (U.turned d.snd.fst (d.snd.snd.fst.fst, d.snd.snd.fst.snd.fst, d.snd.snd.fst.snd.snd.fst, ()))) : Int).toNat - d.snd.snd.fst.snd.fst.toNat)
  (List.drop d.snd.snd.fst.snd.fst.toNat (U.turned d.snd.fst (d.snd.snd.fst.fst, d.snd.snd.fst.snd.fst, d.snd.snd.fst.snd.snd.fst, ())))) =
  (0 : Int) →
  U.check (d.fst.fst, d.fst.snd.fst, ())
  (List.take (d.snd.snd.fst.snd.fst.toNat - Int.toNat (0 : Int))
  (List.drop (Int.toNat (0 : Int)) (U.turned d.snd.fst (d.snd.snd.fst.fst, d.snd.snd.fst.snd.fst, d.snd.snd.fst.snd.snd.fst, ())))) =
  (0 : Int) →
  (U.fillAll
  [List.take
  ((↑(List.length (U.turned d.snd.fst (d.snd.snd.fst.fst, d.snd.snd.fst.snd.fst, d.snd.snd.fst.snd.snd.fst, ()))) : Int).toNat - d.snd.snd.fst.snd.fst.toNat)
  (List.drop d.snd.snd.fst.snd.fst.toNat (U.turned d.snd.fst (d.snd.snd.fst.fst, d.snd.snd.fst.snd.fst, d.snd.snd.fst.snd.snd.fst, ()))),
  List.take (d.snd.snd.fst.snd.fst.toNat - Int.toNat (0 : Int))
  (List.drop (Int.toNat (0 : Int)) (U.turned d.snd.fst (d.snd.snd.fst.fst, d.snd.snd.fst.snd.fst, d.snd.snd.fst.snd.snd.fst, ())))]).fst.length ≤
  (12 : Nat)) ∧
  ((decide (U.mergeErr (d.fst.fst, d.fst.snd.fst, ()) d.snd.fst [] = (0 : Int)) &&
  decide
  (U.mergeErr (d.fst.fst, d.fst.snd.fst, ())
  (List.take (d.snd.snd.fst.snd.fst.toNat - Int.toNat (0 : Int))
  (List.drop (Int.toNat (0 : Int)) (U.turned d.snd.fst (d.snd.snd.fst.fst, d.snd.snd.fst.snd.fst, d.snd.snd.fst.snd.snd.fst, ()))))
  (List.take
  ((↑(List.length (U.turned d.snd.fst (d.snd.snd.fst.fst, d.snd.snd.fst.snd.fst, d.snd.snd.fst.snd.snd.fst, ()))) : Int).toNat - d.snd.snd.fst.snd.fst.toNat)
  (List.drop d.snd.snd.fst.snd.fst.toNat (U.turned d.snd.fst (d.snd.snd.fst.fst, d.snd.snd.fst.snd.fst, d.snd.snd.fst.snd.snd.fst, ())))) =
  (0 : Int)) &&
  decide
  (U.mergeErr (d.fst.fst, d.fst.snd.fst, ())
  (List.take
  ((↑(List.length (U.turned d.snd.fst (d.snd.snd.fst.fst, d.snd.snd.fst.snd.fst, d.snd.snd.fst.snd.snd.fst, ()))) : Int).toNat - d.snd.snd.fst.snd.fst.toNat)
  (List.drop d.snd.snd.fst.snd.fst.toNat (U.turned d.snd.fst (d.snd.snd.fst.fst, d.snd.snd.fst.snd.fst, d.snd.snd.fst.snd.snd.fst, ()))))
  (List.take (d.snd.snd.fst.snd.fst.toNat - Int.toNat (0 : Int))
  (List.drop (Int.toNat (0 : Int)) (U.turned d.snd.fst (d.snd.snd.fst.fst, d.snd.snd.fst.snd.fst, d.snd.snd.fst.snd.snd.fst, ())))) =
  (0 : Int))) =
  true →
  List.length (U.merged (d.fst.fst, d.fst.snd.fst, ()) d.snd.fst []) ≤ (100000 : Nat)) ∧
  ((decide (U.mergeErr (d.fst.fst, d.fst.snd.fst, ()) d.snd.fst [] = (0 : Int)) &&
  decide
  (U.mergeErr (d.fst.fst, d.fst.snd.fst, ())
  (List.take (d.snd.snd.fst.snd.fst.toNat - Int.toNat (0 : Int))
  (List.drop (Int.toNat (0 : Int)) (U.turned d.snd.fst (d.snd.snd.fst.fst, d.snd.snd.fst.snd.fst, d.snd.snd.fst.snd.snd.fst, ()))))
  (List.take
  ((↑(List.length (U.turned d.snd.fst (d.snd.snd.fst.fst, d.snd.snd.fst.snd.fst, d.snd.snd.fst.snd.snd.fst, ()))) : Int).toNat -
  d.snd.snd.fst.snd.fst.toNat)
  (List.drop d.snd.snd.fst.snd.fst.toNat (U.turned d.snd.fst (d.snd.snd.fst.fst, d.snd.snd.fst.snd.fst, d.snd.snd.fst.snd.snd.fst, ())))) =
  (0 : Int)) &&
  decide
  (U.mergeErr (d.fst.fst, d.fst.snd.fst, ())
  (List.take
  ((↑(List.length (U.turned d.snd.fst (d.snd.snd.fst.fst, d.snd.snd.fst.snd.fst, d.snd.snd.fst.snd.snd.fst, ()))) : Int).toNat -
  d.snd.snd.fst.snd.fst.toNat)
  (List.drop d.snd.snd.fst.snd.fst.toNat (U.turned d.snd.fst (d.snd.snd.fst.fst, d.snd.snd.fst.snd.fst, d.snd.snd.fst.snd.snd.fst, ()))))
  (List.take (d.snd.snd.fst.snd.fst.toNat - Int.toNat (0 : Int))
  (List.drop (Int.toNat (0 : Int)) (U.turned d.snd.fst (d.snd.snd.fst.fst, d.snd.snd.fst.snd.fst, d.snd.snd.fst.snd.snd.fst, ())))) =
  (0 : Int)) &&
  U.sameL (U.merged (d.fst.fst, d.fst.snd.fst, ()) d.snd.fst [])
  (U.merged (d.fst.fst, d.fst.snd.fst, ())
  (List.take (d.snd.snd.fst.snd.fst.toNat - Int.toNat (0 : Int))
  (List.drop (Int.toNat (0 : Int)) (U.turned d.snd.fst (d.snd.snd.fst.fst, d.snd.snd.fst.snd.fst, d.snd.snd.fst.snd.snd.fst, ()))))
  (List.take
  ((↑(List.length (U.turned d.snd.fst (d.snd.snd.fst.fst, d.snd.snd.fst.snd.fst, d.snd.snd.fst.snd.snd.fst, ()))) : Int).toNat - d.snd.snd.fst.snd.fst.toNat)
  (List.drop d.snd.snd.fst.snd.fst.toNat (U.turned d.snd.fst (d.snd.snd.fst.fst, d.snd.snd.fst.snd.fst, d.snd.snd.fst.snd.snd.fst, ())))))) =
  true →
  List.length (U.merged (d.fst.fst, d.fst.snd.fst, ()) d.snd.fst []) ≤ (100000 : Nat)) ∧
  (decide (U.mergeErr (d.fst.fst, d.fst.snd.fst, ()) d.snd.fst [] = (0 : Int)) &&
  decide
  (U.mergeErr (d.fst.fst, d.fst.snd.fst, ())
  (List.take (d.snd.snd.fst.snd.fst.toNat - Int.toNat (0 : Int))
  (List.drop (Int.toNat (0 : Int)) (U.turned d.snd.fst (d.snd.snd.fst.fst, d.snd.snd.fst.snd.fst, d.snd.snd.fst.snd.snd.fst, ()))))
  (List.take
  ((↑(List.length (U.turned d.snd.fst (d.snd.snd.fst.fst, d.snd.snd.fst.snd.fst, d.snd.snd.fst.snd.snd.fst, ()))) : Int).toNat -
  d.snd.snd.fst.snd.fst.toNat)
  (List.drop d.snd.snd.fst.snd.fst.toNat (U.turned d.snd.fst (d.snd.snd.fst.fst, d.snd.snd.fst.snd.fst, d.snd.snd.fst.snd.snd.fst, ())))) =
  (0 : Int)) &&
  decide
  (U.mergeErr (d.fst.fst, d.fst.snd.fst, ())
  (List.take
  ((↑(List.length (U.turned d.snd.fst (d.snd.snd.fst.fst, d.snd.snd.fst.snd.fst, d.snd.snd.fst.snd.snd.fst, ()))) : Int).toNat -
  d.snd.snd.fst.snd.fst.toNat)
  (List.drop d.snd.snd.fst.snd.fst.toNat (U.turned d.snd.fst (d.snd.snd.fst.fst, d.snd.snd.fst.snd.fst, d.snd.snd.fst.snd.snd.fst, ()))))
  (List.take (d.snd.snd.fst.snd.fst.toNat - Int.toNat (0 : Int))
  (List.drop (Int.toNat (0 : Int)) (U.turned d.snd.fst (d.snd.snd.fst.fst, d.snd.snd.fst.snd.fst, d.snd.snd.fst.snd.snd.fst, ())))) =
  (0 : Int)) &&
  U.sameL (U.merged (d.fst.fst, d.fst.snd.fst, ()) d.snd.fst [])
  (U.merged (d.fst.fst, d.fst.snd.fst, ())
  (List.take (d.snd.snd.fst.snd.fst.toNat - Int.toNat (0 : Int))
  (List.drop (Int.toNat (0 : Int)) (U.turned d.snd.fst (d.snd.snd.fst.fst, d.snd.snd.fst.snd.fst, d.snd.snd.fst.snd.snd.fst, ()))))
  (List.take
  ((↑(List.length (U.turned d.snd.fst (d.snd.snd.fst.fst, d.snd.snd.fst.snd.fst, d.snd.snd.fst.snd.snd.fst, ()))) : Int).toNat -
  d.snd.snd.fst.snd.fst.toNat)
  (List.drop d.snd.snd.fst.snd.fst.toNat (U.turned d.snd.fst (d.snd.snd.fst.fst, d.snd.snd.fst.snd.fst, d.snd.snd.fst.snd.snd.fst, ()))))) &&
  U.sameL (U.merged (d.fst.fst, d.fst.snd.fst, ()) d.snd.fst [])
  (U.merged (d.fst.fst, d.fst.snd.fst, ())
  (List.take
  ((↑(List.length (U.turned d.snd.fst (d.snd.snd.fst.fst, d.snd.snd.fst.snd.fst, d.snd.snd.fst.snd.snd.fst, ()))) : Int).toNat - d.snd.snd.fst.snd.fst.toNat)
  (List.drop d.snd.snd.fst.snd.fst.toNat (U.turned d.snd.fst (d.snd.snd.fst.fst, d.snd.snd.fst.snd.fst, d.snd.snd.fst.snd.snd.fst, ()))))
  (List.take (d.snd.snd.fst.snd.fst.toNat - Int.toNat (0 : Int))
  (List.drop (Int.toNat (0 : Int)) (U.turned d.snd.fst (d.snd.snd.fst.fst, d.snd.snd.fst.snd.fst, d.snd.snd.fst.snd.snd.fst, ()))))) &&
  true,
  ()) =
  (true, ()))))

theorem vc10_eq : fnVC (ctx 165 [(13, sp13), (15, sp15), (34, sp34), (35, sp35), (33, sp33), (17, sp17w), (27, sp27), (36, sp36)] []) (an10) Try.f10 (bodyOf Try.f10) sp10 = vc10 := by kernel_rfl


end Go.X
/-
  Messages in another order: what holds, what is read and what is merged is the same.
-/
namespace Go.X
open Go.Proofs

namespace M

theorem nodup_len {α : Type} : ∀ (a b : List α), a.Nodup → (∀ x ∈ a, x ∈ b) → a.length ≤ b.length
  | [], _, _, _ => by simp
  | x :: a, b, hn, h => by
    obtain ⟨b1, b2, rfl⟩ := List.append_of_mem (h x (by simp))
    rw [List.nodup_cons] at hn
    have := nodup_len a (b1 ++ b2) hn.2 (fun y hy => by
      have := h y (by simp [hy])
      rw [List.mem_append, List.mem_cons] at this
      rw [List.mem_append]
      rcases this with h1 | h1 | h1
      · exact .inl h1
      · subst h1; exact absurd hy hn.1
      · exact .inr h1)
    simp at this ⊢
    omega

theorem fill_two (a b : LG) : U.fillAll [a, b] = U.fillAll [a ++ b] := by
  unfold U.fillAll U.putAll
  simp [List.foldl_append]

theorem flat_two (a b : LG) : U.flat [a, b] = a ++ b := by
  unfold U.flat
  simp

theorem few_of {l m : LG} (h : ∀ g ∈ m, g ∈ l) {n : Nat} (hl : l.length ≤ n) : (U.fillAll [m]).1.length ≤ n := by
  have hm := mapOf_fill m
  have := nodup_len ((U.fillAll [m]).1.map (·.1)) (l.map U.key) hm.nod (fun k hk => by
    obtain ⟨e, he, rfl⟩ := List.mem_map.1 hk
    obtain ⟨h1, h2⟩ := hm.mem e he
    exact List.mem_map.2 ⟨e.2, h e.2 h2, h1.symm⟩)
  rw [List.length_map, List.length_map] at this
  omega

theorem mput_cons {kt : Ty} {β : Type} (k : kt.Data) (v : β) (e : kt.Data × β) (r : List (kt.Data × β)) : mput kt k v (e :: r) = if @decide (k = e.1) (kt.decEq k e.1) = true then (k, v) :: r else e :: mput kt k v r := rfl
theorem mfind_cons {kt : Ty} {β : Type} (k : kt.Data) (e : kt.Data × β) (r : List (kt.Data × β)) : mfind kt k (e :: r) = if @decide (k = e.1) (kt.decEq k e.1) = true then some e.2 else mfind kt k r := rfl
theorem dec_self {kt : Ty} (k : kt.Data) : @decide (k = k) (kt.decEq k k) = true := @decide_eq_true _ (kt.decEq k k) rfl

theorem mput_fst {kt : Ty} {β : Type} (k : kt.Data) (v : β) : ∀ m : List (kt.Data × β), (mput kt k v m).map (·.1) = m.map (·.1) ∨ (k ∉ m.map (·.1) ∧ (mput kt k v m).map (·.1) = m.map (·.1) ++ [k])
  | [] => .inr ⟨by simp, rfl⟩
  | e :: r => by
    rw [mput_cons]
    by_cases h : @decide (k = e.1) (kt.decEq k e.1) = true
    · rw [if_pos h]
      have h : k = e.1 := @of_decide_eq_true _ (kt.decEq k e.1) h
      left
      simp [h]
    · rw [if_neg h]
      have h : ¬ k = e.1 := fun e' => h (@decide_eq_true _ (kt.decEq k e.1) e')
      rcases mput_fst k v r with ih | ⟨i1, i2⟩
      · left; simp only [List.map_cons, ih]
      · right
        refine ⟨?_, by simp only [List.map_cons, i2, List.cons_append]⟩
        rw [List.map_cons, List.mem_cons]
        rintro (e' | e')
        · exact h e'
        · exact i1 e'

theorem mfind_mput {kt : Ty} {β : Type} (k : kt.Data) (v : β) : ∀ l : List (kt.Data × β), mfind kt k (mput kt k v l) = some v
  | [] => by
    rw [show mput kt k v [] = [(k, v)] from rfl, mfind_cons, if_pos (dec_self k)]
  | e :: r => by
    rw [mput_cons]
    by_cases h : @decide (k = e.1) (kt.decEq k e.1) = true
    · rw [if_pos h, mfind_cons, if_pos (dec_self k)]
    · rw [if_neg h, mfind_cons, if_neg h]
      exact mfind_mput k v r

theorem mfind_mput_ne {kt : Ty} {β : Type} {k k' : kt.Data} (hne : k' ≠ k) (v : β) : ∀ l : List (kt.Data × β), mfind kt k' (mput kt k v l) = mfind kt k' l
  | [] => by
    rw [show mput kt k v [] = [(k, v)] from rfl, mfind_cons, if_neg (fun e => hne (@of_decide_eq_true _ (kt.decEq k' k) e))]
  | e :: r => by
    rw [mput_cons]
    by_cases h : @decide (k = e.1) (kt.decEq k e.1) = true
    · rw [if_pos h]
      have h : k = e.1 := @of_decide_eq_true _ (kt.decEq k e.1) h
      have hn : ¬ @decide (k' = e.1) (kt.decEq k' e.1) = true := fun e' => hne ((@of_decide_eq_true _ (kt.decEq k' e.1) e').trans h.symm)
      rw [mfind_cons, mfind_cons, if_neg hn, if_neg (fun e => hne (@of_decide_eq_true _ (kt.decEq k' k) e))]
    · rw [if_neg h, mfind_cons, mfind_cons, mfind_mput_ne hne v r]

theorem count_keys : ∀ (p : LG) (c : List (GD × Int)), (c.map (·.1)).Nodup → ((p.foldl U.count1 c).map (·.1)).Nodup ∧ ∀ k ∈ (p.foldl U.count1 c).map (·.1), k ∈ c.map (·.1) ∨ k ∈ p
  | [], c, h => ⟨h, fun k hk => .inl hk⟩
  | g :: p, c, h => by
    have h1 : ((U.count1 c g).map (·.1)).Nodup ∧ ∀ k ∈ (U.count1 c g).map (·.1), k ∈ c.map (·.1) ∨ k = g := by
      rcases mput_fst (kt := tG) g (mvalD 0 (mfind tG g c) + 1) c with e | ⟨e1, e2⟩
      · have e : (U.count1 c g).map (·.1) = c.map (·.1) := e
        rw [e]; exact ⟨h, fun k hk => .inl hk⟩
      · have e2 : (U.count1 c g).map (·.1) = c.map (·.1) ++ [g] := e2
        rw [e2]
        refine ⟨List.nodup_append.2 ⟨h, by simp, fun a ha b hb => ?_⟩, fun k hk => ?_⟩
        · simp at hb; subst hb
          exact fun e => e1 (e ▸ ha)
        · rcases List.mem_append.1 hk with hk | hk
          · exact .inl hk
          · exact .inr (by simpa using hk)
    obtain ⟨i1, i2⟩ := count_keys p (U.count1 c g) h1.1
    refine ⟨i1, fun k hk => ?_⟩
    rcases i2 k hk with h2 | h2
    · rcases h1.2 k h2 with h3 | h3
      · exact .inl h3
      · exact .inr (by simp [h3])
    · exact .inr (by simp [h2])

theorem count_len {l m : LG} (h : ∀ g ∈ m, g ∈ l) (i : Nat) : (U.countTo m i).length ≤ l.length := by
  obtain ⟨h1, h2⟩ := count_keys (m.take i) [] (by simp)
  have := nodup_len _ l h1 (fun k hk => by
    rcases h2 k hk with h3 | h3
    · simp at h3
    · exact h k (List.mem_of_mem_take h3))
  rw [List.length_map] at this
  exact this

/-! ### The same messages -/

theorem same_msgs {l m : LG} (hl : U.clash l = false) (hm : U.clash m = false) (h : ∀ g, g ∈ m ↔ g ∈ l) : U.msgs m = U.msgs l :=
  asc_ext (msgs_asc m) (msgs_asc l) (fun x => by rw [mem_msgs_iff hm, mem_msgs_iff hl, h])

theorem same_held {l m : LG} (hl : U.clash l = false) (hm : U.clash m = false) (h : ∀ g, g ∈ m ↔ g ∈ l) : U.heldG m = U.heldG l := by
  unfold U.heldG
  rw [same_msgs hl hm h]

theorem same_err {f : FD} {l m : LG} (c : U.check f l = 0) (c' : U.check f m = 0) (film : Int) : U.filmErr f m film = U.filmErr f l film := by
  unfold U.filmErr
  rw [c, c']

theorem same_readings {f : FD} {l m : LG} (c : U.check f l = 0) (c' : U.check f m = 0) (h : ∀ g, g ∈ m ↔ g ∈ l) (film : Int) : U.readings f m film = U.readings f l film := by
  unfold U.readings
  rw [same_err c c', same_held (ok_of c).cl (ok_of c').cl h]

theorem merged_of {f : FD} {a b l : LG} (c : U.check f l = 0) (h : ∀ g, g ∈ a ++ b ↔ g ∈ l) (hlen : (a ++ b).length ≤ 40) : U.mergeErr f a b = 0 ∧ U.merged f a b = U.msgs l := by
  have c1 : U.check f a = 0 := check_sub c (fun g hg => (h g).1 (List.mem_append_left _ hg)) (by simp at hlen; omega)
  have c2 : U.check f b = 0 := check_sub c (fun g hg => (h g).1 (List.mem_append_right _ hg)) (by simp at hlen; omega)
  have c3 : U.check f (a ++ b) = 0 := check_sub c (fun g hg => (h g).1 hg) hlen
  have hc := (ok_of c3).cl
  have hl := (ok_of c).len
  have hw : ¬ 0 < (U.fillAll [a ++ b]).2.1 := fun hw => by rw [(fill_clash (a ++ b)).1 hw] at hc; cases hc
  have hn := count_len (fun g hg => (h g).1 hg) (a ++ b).length
  have e : U.mergeErr f a b = 0 := by
    unfold U.mergeErr
    rw [c1, c2, fill_two, flat_two, if_neg (by simp), if_neg (by simp), if_neg (by omega), if_neg hw]
  refine ⟨e, ?_⟩
  unfold U.merged
  rw [if_pos e, fill_two]
  exact same_msgs (ok_of c).cl hc h

theorem turned_len (l : LG) (x : XD) : (U.turned l x).length ≤ l.length + l.length ∧ l.length ≤ (U.turned l x).length := by
  unfold U.turned U.turnedTo
  rw [List.length_append, List.length_map, List.length_range]
  split <;> simp

theorem turned_mem {l : LG} {x : XD} (hx : 0 ≤ x.1) (g : GD) : g ∈ U.turned l x ↔ g ∈ l := by
  have key : g ∈ U.turnedTo l x.1 l.length ↔ g ∈ l := by
    unfold U.turnedTo
    rw [List.mem_map]
    constructor
    · rintro ⟨k, hk, rfl⟩
      have hk := List.mem_range.1 hk
      have h1 := Int.tmod_lt_of_pos ((k : Int) + x.1) (b := (l.length : Int)) (by omega)
      have h2 := Int.tmod_nonneg (l.length : Int) (a := (k : Int) + x.1) (by omega)
      exact L.mem_nth (by omega)
    · intro hg
      obtain ⟨j, hj, rfl⟩ := L.mem_iff.1 hg
      have hn : (0 : Int) < l.length := by omega
      have h1 := Int.emod_nonneg ((j : Int) - x.1) (b := (l.length : Int)) (by omega)
      have h2 := Int.emod_lt_of_pos ((j : Int) - x.1) hn
      refine ⟨(((j : Int) - x.1) % (l.length : Int)).toNat, List.mem_range.2 (by omega), ?_⟩
      rw [Int.toNat_of_nonneg h1, Int.tmod_eq_emod_of_nonneg (by omega), Int.emod_add_emod, Int.sub_add_cancel, Int.emod_eq_of_lt (by omega) (by omega)]
      simp
  unfold U.turned
  rw [List.mem_append, key]
  constructor
  · rintro (h | h)
    · exact h
    · split at h
      · exact h
      · simp at h
  · exact .inl

end M
end Go.X
/-
  The statement 'GlossesOrder' is true of what the program computes.
-/
namespace Go.X
open Go.Proofs

theorem turnedTo_succ (l : LG) (a : Int) (i : Nat) : U.turnedTo l a (i + 1) = U.turnedTo l a i ++ [nth l (((i : Int) + a).tmod (l.length : Int)).toNat] := by
  unfold U.turnedTo
  rw [List.range_succ, List.map_append]; rfl

theorem h34 : vc34 := by
  rintro ⟨l, ⟨a, c, t, ⟨⟩⟩, ⟨⟩⟩ ha hl
  simp only at ha hl ⊢
  refine ⟨⟨0, ⟨⟨trivial, rfl, trivial⟩, rfl, trivial⟩, Nat.zero_le _⟩, fun x hx _ => ⟨fun hc => ?_, fun hc => ?_⟩⟩
  · have hc : x < l.length := by have := of_decide_eq_true hc; omega
    have h1 := Int.tmod_lt_of_pos ((x : Int) + a) (b := (l.length : Int)) (by omega)
    have h2 := Int.tmod_nonneg (l.length : Int) (a := (x : Int) + a) (by omega)
    have h3 : (U.turnedTo l a x).length = x := by unfold U.turnedTo; simp
    refine ⟨L.in64 (by omega) (by omega), fun _ => ⟨by omega, h2, h1, by rw [h3]; simp; omega, L.in64 (by omega) (by omega), x + 1, ⟨⟨by simp, trivial, trivial⟩, (turnedTo_succ l a x).symm, trivial⟩, by omega, by omega⟩⟩
  · have hc : l.length ≤ x := by have := of_decide_eq_false hc; omega
    have e : x = l.length := by omega
    subst e
    have h3 : (U.turnedTo l a l.length).length = l.length := by unfold U.turnedTo; simp
    refine ⟨fun h => ⟨by rw [h3]; omega, ?_⟩, fun h => ?_⟩
    · subst h
      rfl
    · subst h
      unfold U.turned
      simp

theorem ok34 : FnOK PR 34 sp34 := mkFn (vc34_eq.mpr h34) Try.func34 (by kernel_rfl) (by kernel_rfl) (by kernel_rfl) (by kernel_rfl) trivial trivial

theorem h45w : vc45w := by
  rintro ⟨l, ⟨⟩⟩ hf hs hl
  have hf : (U.fillAll [l]).1.length ≤ 12 := hf
  have hs : ∀ g ∈ l, U.small g := hs
  have hl : l.length ≤ 1000 := hl
  have hm := mapOf_fill l
  have h1 : (U.isort U.cmpF (U.vals (U.fillAll [l]).1)).length ≤ 100000 := by
    rw [(isort_perm _ _).length_eq]
    simp only [U.vals, List.length_map]; omega
  refine ⟨by simp, fun x hx => ?_, ⟨hf, fun e he => ⟨(hm.mem e he).1, hs _ (hm.mem e he).2⟩, hm.nod⟩, h1, h1, fun _ _ => trivial, rfl⟩
  have : x = l := by simpa using hx
  subst this; omega

theorem ok45w : FnOK PR 45 sp45w := mkFn (vc45w_eq.mpr h45w) Try.func45 (by kernel_rfl) (by kernel_rfl) (by kernel_rfl) (by kernel_rfl) ⟨fun _ => ok70, trivial⟩ ⟨ok59, ok60, ok69, ok68, trivial⟩

theorem h17w : vc17w := by
  rintro ⟨⟨fr, s, ⟨⟩⟩, l, film, ⟨⟩⟩ hpre
  have hpre : U.check (fr, s, ()) l = 0 → U.few l := hpre
  simp only
  refine ⟨fun h => ?_, fun h => ⟨fun h2 => ?_, fun h2 => ?_⟩⟩
  · have h : U.check (fr, s, ()) l ≠ 0 := of_decide_eq_true h
    have e : U.filmErr (fr, s, ()) l film = U.check (fr, s, ()) l := by unfold U.filmErr; rw [if_pos h]
    unfold U.readings
    rw [e, if_neg h]
  · have h : U.check (fr, s, ()) l = 0 := Classical.byContradiction (of_decide_eq_false h)
    have h2 := of_decide_eq_false (L.not_true h2)
    have e : U.filmErr (fr, s, ()) l film = 1 := by unfold U.filmErr; rw [if_neg (by rw [h]; simp), if_neg h2]
    unfold U.readings
    rw [e, if_neg (by omega)]
  · have h : U.check (fr, s, ()) l = 0 := Classical.byContradiction (of_decide_eq_false h)
    have h2 := of_decide_eq_true (L.not_false h2)
    have hok := ok_of h
    have hs := hok.s
    simp only at hs
    have e : U.filmErr (fr, s, ()) l film = 0 := by unfold U.filmErr; rw [if_neg (by rw [h]; simp), if_pos h2]
    have hr : U.readings (fr, s, ()) l film = U.readsTo (U.setAt s (U.heldG l) film) (nth fr film.toNat).toNat := by
      unfold U.readings
      rw [e, if_pos rfl]
    have hn := hok.fr _ (L.mem_nth (l := fr) (i := film.toNat) (by omega))
    have hhl : (U.heldG l).length ≤ 100000 := by have := heldG_len l; have := hok.len; omega
    refine ⟨hpre h, hok.small, by have := hok.len; omega, h2.1, h2.2, ⟨0, ⟨⟨rfl, trivial, trivial⟩, rfl, trivial⟩, Nat.zero_le _⟩, fun k hk => ⟨fun hc => ?_, fun hc => ?_⟩⟩
    · have hc : k < (nth fr film.toNat).toNat := by have := of_decide_eq_true hc; omega
      obtain ⟨hne, hb, e1, _⟩ := M.best (s := s) (by omega) hs.2 (frame_sg hok (U.inFrame film (k : Int)))
      have hne' := List.length_pos_iff.2 hne
      have hset : nth (U.smallest s ((U.heldG l).filter (U.inFrame film (k : Int)))) (Int.toNat 0) = U.setAt s (U.heldG l) film k := rfl
      rw [hset]
      have hR := M.reads (U.setAt s (U.heldG l) film) k
      have hsucc := M.readsTo_succ (U.setAt s (U.heldG l) film) k
      generalize hout : U.readsTo (U.setAt s (U.heldG l) film) k = out at hR hsucc ⊢
      have i1 : In64 ((k : Int) + 1) := by unfold In64; omega
      have hrl := hR.len
      refine ⟨hhl, hs, by omega, by omega, fun hb0 => ⟨i1, k + 1, ⟨⟨trivial, by simp, trivial⟩, ?_, trivial⟩, by omega, by omega⟩, fun hb0 _ => ?_⟩
      · rw [hsucc]; unfold U.stepR; rw [if_pos (of_decide_eq_true hb0)]
      · have hb0 := of_decide_eq_false hb0
        have hlast : ∀ (hpos : 0 < out.length), ((out.length : Int) - 1).toNat = out.length - 1 := fun _ => by omega
        refine ⟨by unfold In64; omega, fun hd => of_decide_eq_true hd, fun hd => by omega, fun hd => ?_, fun hd => by omega, fun hd => ?_, fun hd => ?_⟩
        · rw [Bool.and_eq_true] at hd; exact of_decide_eq_true hd.1
        · simp only [Bool.and_eq_true, decide_eq_true_eq] at hd
          obtain ⟨⟨d1, d2⟩, d3⟩ := hd
          have hpos : 0 < out.length := by omega
          rw [hlast hpos] at d2 d3 ⊢
          have hm := hR.rng _ (L.mem_nth (l := out) (i := out.length - 1) (by omega))
          refine ⟨by omega, by omega, by unfold In64; omega, by omega, by omega, i1, k + 1, ⟨⟨trivial, by simp, trivial⟩, ?_, trivial⟩, by omega, by omega⟩
          rw [hsucc]; unfold U.stepR
          rw [if_neg hb0, if_pos ⟨hpos, d2, d3⟩]
          rfl
        · have hnj : ¬ (0 < out.length ∧ (U.lastR out).2.1 = (k : Int) ∧ (U.lastR out).2.2.1 = U.setAt s (U.heldG l) film k) := by
            rintro ⟨j1, j2, j3⟩
            rw [hlast j1] at hd
            unfold U.lastR at j2 j3
            simp only [j2, j3] at hd
            simp at hd
            omega
          refine ⟨i1, by simp only [List.length_cons, List.length_nil]; omega, i1, k + 1, ⟨⟨by simp, trivial, trivial⟩, ?_, trivial⟩, by omega, by omega⟩
          rw [hsucc]; unfold U.stepR
          rw [if_neg hb0, if_neg hnj]
    · have hc : k = (nth fr film.toNat).toNat := by have := of_decide_eq_false hc; omega
      rw [hr, e, hc]

theorem ok17w : FnOK PR 17 sp17w := mkFn (vc17w_eq.mpr h17w) Try.func17 (by kernel_rfl) (by kernel_rfl) (by kernel_rfl) (by kernel_rfl) ⟨fun _ => ok37, fun _ => ok44, fun _ => ok45w, fun _ => ok47, fun _ => ok46, trivial⟩ trivial

theorem h35 : vc35 := by
  rintro ⟨⟨fr, s, ⟨⟩⟩, l, ⟨⟩⟩ hpre
  simp only at hpre ⊢
  refine ⟨fun h => ?_, fun h => ?_⟩
  · have h : U.check (fr, s, ()) l ≠ 0 := of_decide_eq_true h
    unfold U.heldP
    rw [if_neg h]
  · have h : U.check (fr, s, ()) l = 0 := Classical.byContradiction (of_decide_eq_false h)
    have hok := ok_of h
    have := hok.len
    refine ⟨hpre h, hok.small, by omega, ?_⟩
    unfold U.heldP
    rw [if_pos h, h]

theorem ok35 : FnOK PR 35 sp35 := mkFn (vc35_eq.mpr h35) Try.func35 (by kernel_rfl) (by kernel_rfl) (by kernel_rfl) (by kernel_rfl) ⟨fun _ => ok37, fun _ => ok45w, trivial⟩ trivial

theorem h77 : vc77 := by
  rintro ⟨⟨⟩, n, ⟨⟩⟩ hn
  simp only at hn ⊢
  refine ⟨fun h => ?_, fun _ => ⟨L.in64 (by omega) (by omega), L.in64 (by omega) (by omega), fun h => ?_, fun _ => ⟨rfl, trivial⟩⟩⟩
  · have := of_decide_eq_true h
    omega
  · have := of_decide_eq_true h
    exact ⟨by omega, by omega, by omega, this, by omega, by omega, by omega, by omega, rfl, trivial⟩

theorem ok77 : OFnOK PR 77 so77 := mkFnO (vc77_eq.mpr h77) Try.func77 (by kernel_rfl) (by kernel_rfl) (by kernel_rfl) (by kernel_rfl) (by kernel_rfl) trivial trivial

theorem flatTo_succ {l : List LG} {i : Nat} (h : i < l.length) : U.flatTo l (i + 1) = U.flatTo l i ++ nth l i := by
  unfold U.flatTo
  rw [L.take_succ h, List.flatten_append]
  simp

theorem flatTo_len {l : List LG} (h : ∀ x ∈ l, x.length ≤ 1000) : ∀ i, i ≤ l.length → (U.flatTo l i).length ≤ 1000 * i
  | 0, _ => by simp [U.flatTo]
  | i + 1, hi => by
    have ih := flatTo_len h i (by omega)
    have := h _ (L.mem_nth (l := l) (i := i) (by omega))
    rw [flatTo_succ (by omega), List.length_append]
    omega

theorem h58 : vc58 := by
  rintro ⟨l, ⟨⟩⟩ hl hx _
  simp only at hl hx ⊢
  have hlen := flatTo_len hx
  refine ⟨⟨0, ⟨⟨rfl, by simp [U.flatTo], trivial⟩, trivial⟩, Nat.zero_le _⟩, fun i hi => ⟨fun hc => ?_, fun hc => ?_⟩⟩
  · have hc : i < l.length := by have := of_decide_eq_true hc; omega
    have h1 := hlen i (by omega)
    have h2 := hx _ (L.mem_nth (l := l) (i := i) hc)
    simp only [Int.toNat_natCast]
    refine ⟨by omega, by omega, fun _ => ⟨L.in64 (by omega) (by omega), fun h => ?_, fun _ => ⟨L.in64 (by omega) (by omega), i + 1, ⟨⟨by simp, ?_, trivial⟩, trivial⟩, by omega, by omega⟩⟩⟩
    · have := of_decide_eq_true h
      omega
    · rw [flatTo_succ hc, List.length_append]; simp
  · have hc : l.length ≤ i := by have := of_decide_eq_false hc; omega
    have h1 := hlen i (by omega)
    refine ⟨⟨by omega, by omega⟩, fun _ => ⟨⟨0, ⟨⟨rfl, trivial, trivial⟩, rfl, trivial⟩, Nat.zero_le _⟩, fun j hj => ⟨fun hd => ?_, fun hd => ?_⟩⟩⟩
    · have hd : j < l.length := by have := of_decide_eq_true hd; omega
      have h1 := hlen j (by omega)
      have h2 := hx _ (L.mem_nth (l := l) (i := j) hd)
      simp only [Int.toNat_natCast]
      exact ⟨by omega, by omega, by omega, L.in64 (by omega) (by omega), j + 1, ⟨⟨by simp, trivial, trivial⟩, (flatTo_succ hd).symm, trivial⟩, by omega, by omega⟩
    · have hd : l.length ≤ j := by have := of_decide_eq_false hd; omega
      unfold U.flatTo U.flat
      rw [List.take_of_length_le hd]

theorem ok58 : FnOK PR 58 sp58 := mkFn (vc58_eq.mpr h58) Try.func58 (by kernel_rfl) (by kernel_rfl) (by kernel_rfl) (by kernel_rfl) trivial ⟨ok77, trivial⟩

/-! ### Merge -/

theorem countTo_succ {l : LG} {i : Nat} (h : i < l.length) : U.countTo l (i + 1) = U.count1 (U.countTo l i) (nth l i) := by
  unfold U.countTo
  rw [L.take_succ h, List.foldl_append]; rfl

theorem count_val (l : LG) : ∀ i, i ≤ l.length → ∀ g, 0 ≤ mvalD 0 (mfind tG g (U.countTo l i)) ∧ mvalD 0 (mfind tG g (U.countTo l i)) ≤ (i : Int)
  | 0, _, g => by
    have e : U.countTo l 0 = [] := rfl
    rw [e]
    exact ⟨Int.le_refl 0, Int.le_refl 0⟩
  | i + 1, hi, g => by
    have ih := count_val l i (by omega)
    rw [countTo_succ (by omega)]
    unfold U.count1
    by_cases e : g = nth l i
    · subst e
      rw [M.mfind_mput]
      have := ih (nth l i)
      have e : ∀ v : Int, mvalD 0 (some v) = v := fun _ => rfl
      rw [e]
      omega
    · rw [M.mfind_mput_ne e]
      have := ih g
      omega

theorem h36 : vc36 := by
  rintro ⟨⟨fr, s, ⟨⟩⟩, a, b, ⟨⟩⟩ hpre
  simp only at hpre ⊢
  intro _
  refine ⟨⟨0, ⟨⟨rfl, trivial⟩, trivial⟩, Nat.zero_le _, fun h => absurd h (by omega), fun h => absurd h (by omega)⟩, fun x hx => ⟨fun hc => ?_, fun hc => ?_⟩⟩
  · obtain ⟨h2, ha, hb⟩ := hx
    have hc : (x : Int) < 2 := of_decide_eq_true hc
    simp only [Int.toNat_natCast]
    refine ⟨by omega, hc, fun h => ?_, fun h => ⟨L.in64 (by omega) (by omega), x + 1, ⟨⟨by simp, trivial⟩, trivial⟩, ⟨by omega, fun _ => ?_, fun _ => ?_⟩, by omega⟩⟩
    · have h : U.check (fr, s, ()) (nth [a, b] x) ≠ 0 := of_decide_eq_true h
      match x, hc, ha, h with
      | 0, _, _, h =>
        have h : U.check (fr, s, ()) a ≠ 0 := h
        have e : U.mergeErr (fr, s, ()) a b = U.check (fr, s, ()) a := by unfold U.mergeErr; rw [if_pos h]
        unfold U.merged
        rw [e, if_neg h]; rfl
      | 1, _, ha, h =>
        have ha : U.check (fr, s, ()) a = 0 := ha (by omega)
        have h : U.check (fr, s, ()) b ≠ 0 := h
        have e : U.mergeErr (fr, s, ()) a b = U.check (fr, s, ()) b := by unfold U.mergeErr; rw [if_neg (by rw [ha]; simp), if_pos h]
        unfold U.merged
        rw [e, if_neg h]; rfl
      | x + 2, hc, _, _ => exfalso; omega
    · have h : U.check (fr, s, ()) (nth [a, b] x) = 0 := Classical.byContradiction (of_decide_eq_false h)
      by_cases e : x = 0
      · subst e; exact h
      · exact ha (by omega)
    · have h : U.check (fr, s, ()) (nth [a, b] x) = 0 := Classical.byContradiction (of_decide_eq_false h)
      have e : x = 1 := by omega
      subst e; exact h
  · obtain ⟨h2, ha, hb⟩ := hx
    have hc : ¬ (x : Int) < 2 := of_decide_eq_false hc
    have ha : U.check (fr, s, ()) a = 0 := ha (by omega)
    have hb : U.check (fr, s, ()) b = 0 := hb (by omega)
    have oa := ok_of ha
    have ob := ok_of hb
    have la := oa.len
    have lb := ob.len
    have two : ∀ (n : Nat), 40 ≤ n → ∀ x ∈ [a, b], x.length ≤ n := by
      intro n hn x hx
      rcases List.mem_cons.1 hx with rfl | hx
      · omega
      · have : x = b := by simpa using hx
        subst this; omega
    have hF : (U.flat [a, b]).length ≤ 80 := by rw [M.flat_two, List.length_append]; omega
    refine ⟨by simp, two 1000 (by omega), fun _ => ⟨⟨0, ⟨⟨rfl, trivial⟩, rfl, trivial⟩, Nat.zero_le _⟩, fun x hx => ⟨fun hc => ?_, fun hc => ?_⟩⟩⟩
    · have hc : x < (U.flat [a, b]).length := by have := of_decide_eq_true hc; omega
      have hS := countTo_succ hc
      have hV := count_val (U.flat [a, b]) x (by omega) (nth (U.flat [a, b]) x)
      simp only [Int.toNat_natCast]
      generalize U.flat [a, b] = F at hc hF hS hV ⊢
      have e5 : ((nth F x).fst, (nth F x).snd.fst, (nth F x).snd.snd.fst, (nth F x).snd.snd.snd.fst, (nth F x).snd.snd.snd.snd.fst, (nth F x).snd.snd.snd.snd.snd.fst, ()) = nth F x := rfl
      have hm : ∀ v : Int, mfind tG (nth F x) (mput tG (nth F x) v (U.countTo F x)) = some v := fun v => M.mfind_mput (kt := tG) (nth F x) v (U.countTo F x)
      simp only [e5, hm, mvalD]
      have hI : In64 (mvalD 0 (mfind tG (nth F x) (U.countTo F x)) + 1) := L.in64 (by omega) (by omega)
      have h64 : In64 ((x : Int) + 1) := L.in64 (by omega) (by omega)
      have E : ∃ x' : Nat, (((x : Int) + 1 = (x' : Int) ∧ True) ∧ mput tG (nth F x) (mvalD 0 (mfind tG (nth F x) (U.countTo F x)) + 1) (U.countTo F x) = U.countTo F x' ∧ True) ∧ x' ≤ F.length ∧ F.length - x' < F.length - x :=
        ⟨x + 1, ⟨⟨by simp, trivial⟩, hS.symm, trivial⟩, by omega, by omega⟩
      refine ⟨by omega, by omega, ?_⟩
      repeat (first | exact hI | exact h64 | exact E | exact trivial | exact rfl | intro _ | apply And.intro)
    · have hc : (U.flat [a, b]).length ≤ x := by have := of_decide_eq_false hc; omega
      have e : x = (U.flat [a, b]).length := by omega
      subst e
      have h0 : ¬ U.check (fr, s, ()) a ≠ 0 := by rw [ha]; simp
      have h0' : ¬ U.check (fr, s, ()) b ≠ 0 := by rw [hb]; simp
      refine ⟨by simp, two 40000 (by omega), fun h => ?_, fun h => ⟨fun h' => ?_, fun h' => ⟨⟨hpre ha hb, ?_, ?_⟩, ?_⟩⟩⟩
      · have h := of_decide_eq_true h
        have e : U.mergeErr (fr, s, ()) a b = 2 := by unfold U.mergeErr; rw [if_neg h0, if_neg h0', if_pos (by omega)]
        unfold U.merged
        rw [e]; rfl
      · have h := of_decide_eq_false h
        have h' := of_decide_eq_true h'
        have e : U.mergeErr (fr, s, ()) a b = 22 := by unfold U.mergeErr; rw [if_neg h0, if_neg h0', if_neg (by omega), if_pos h']
        unfold U.merged
        rw [e]; rfl
      · intro e he
        rw [M.fill_two] at he
        have hm := (mapOf_fill (a ++ b)).mem e he
        refine ⟨hm.1, ?_⟩
        rcases List.mem_append.1 hm.2 with hm | hm
        · exact oa.small _ hm
        · exact ob.small _ hm
      · rw [M.fill_two]
        exact (mapOf_fill (a ++ b)).nod
      · have h := of_decide_eq_false h
        have h' := of_decide_eq_false h'
        have e : U.mergeErr (fr, s, ()) a b = 0 := by unfold U.mergeErr; rw [if_neg h0, if_neg h0', if_neg (by omega), if_neg h']
        unfold U.merged
        rw [e, if_pos rfl]

theorem ok36 : FnOK PR 36 sp36 := mkFn (vc36_eq.mpr h36) Try.func36 (by kernel_rfl) (by kernel_rfl) (by kernel_rfl) (by kernel_rfl) ⟨fun _ => ok37, fun _ => ok58, trivial⟩ ⟨ok59, ok60, trivial⟩

/-! ### The statement -/

theorem h10 : vc10 := by
  rintro ⟨⟨fr, s, ⟨⟩⟩, l, ⟨a, cut, t, ⟨⟩⟩, ⟨⟩⟩ _ _
  simp only
  refine ⟨fun _ => trivial, fun h => ?_⟩
  simp only [Bool.or_eq_false_iff, Bool.not_eq_false', decide_eq_false_iff_not] at h
  obtain ⟨⟨⟨⟨v1, v2⟩, v3⟩, v4⟩, v5⟩ := h
  obtain ⟨c1, n1, o1, _, _⟩ := M.valid_of v1
  have hmem := fun g => M.turned_mem (l := l) (x := (a, cut, t, ())) (by show (0 : Int) ≤ a; omega) g
  have hlen := M.turned_len l (a, cut, t, ())
  generalize U.turned l (a, cut, t, ()) = T at hmem hlen ⊢
  have c2 : U.check (fr, s, ()) T = 0 := M.check_sub c1 (fun g hg => (hmem g).1 hg) (by omega)
  have o2 := ok_of c2
  have f1 : U.few l := M.few_of (fun g hg => hg) n1
  have f2 : U.few T := M.few_of (fun g hg => (hmem g).1 hg) n1
  have hh : U.heldP (fr, s, ()) T = U.heldP (fr, s, ()) l := by
    unfold U.heldP
    rw [if_pos c1, if_pos c2, M.same_held o1.cl o2.cl hmem]
  have hhl : (U.heldP (fr, s, ()) l).length ≤ 100000 := by
    unfold U.heldP
    rw [if_pos c1]
    have := heldG_len l
    omega
  have hf := o1.nf
  simp only at hf
  rw [hh, sameL_iff.2 rfl, c1, c2]
  refine ⟨⟨by omega, by omega⟩, by omega, fun _ => f1, fun _ => f2, fun _ => hhl, fun h => ?_, fun _ => ⟨⟨0, ⟨⟨rfl, trivial⟩, trivial⟩, Nat.zero_le _⟩, fun x hx _ => ⟨fun hc => ?_, fun hc => ?_⟩⟩⟩
  · exact absurd h (by decide)
  · have hc : x < fr.length := by have := of_decide_eq_true hc; omega
    have z := M.filmErr_zero (f := (fr, s, ())) c1 (film := (x : Int)) ⟨by omega, by show (x : Int) < (fr.length : Int); omega⟩
    have e1 := M.same_readings c1 c2 hmem (x : Int)
    have e2 := M.same_err c1 c2 (x : Int)
    have hr := readings_small (fr, s, ()) l (x : Int)
    rw [e2, z, e1]
    refine ⟨fun _ => f1, fun _ => f2, fun _ => by omega, fun h => ?_, fun _ => ⟨L.in64 (by omega) (by omega), x + 1, ⟨⟨by simp, trivial⟩, trivial⟩, by omega, by omega⟩⟩
    simp at h
  · have k1 : (0 : Int) ≤ cut ∧ cut ≤ (T.length : Int) := ⟨by omega, by omega⟩
    have e1 : List.take (cut.toNat - Int.toNat (0 : Int)) (List.drop (Int.toNat (0 : Int)) T) = T.take cut.toNat := by simp
    have e2 : List.take ((↑T.length : Int).toNat - cut.toNat) (List.drop cut.toNat T) = T.drop cut.toNat := by
      apply List.take_of_length_le
      simp
    have hab : ∀ g, g ∈ T.take cut.toNat ++ T.drop cut.toNat ↔ g ∈ l := fun g => by rw [List.take_append_drop]; exact hmem g
    have hba : ∀ g, g ∈ T.drop cut.toNat ++ T.take cut.toNat ↔ g ∈ l := fun g => by rw [List.mem_append, or_comm, ← List.mem_append]; exact hab g
    have hl0 : ∀ g, g ∈ l ++ [] ↔ g ∈ l := fun g => by simp
    have p1 := M.merged_of c1 hl0 (by simp; omega)
    have p2 := M.merged_of c1 hab (by simp; omega)
    have p3 := M.merged_of c1 hba (by simp; omega)
    have q1 : (U.fillAll [l, []]).1.length ≤ 12 := by rw [M.fill_two]; exact M.few_of (fun g hg => (hl0 g).1 hg) n1
    have q2 : (U.fillAll [T.take cut.toNat, T.drop cut.toNat]).1.length ≤ 12 := by rw [M.fill_two]; exact M.few_of (fun g hg => (hab g).1 hg) n1
    have q3 : (U.fillAll [T.drop cut.toNat, T.take cut.toNat]).1.length ≤ 12 := by rw [M.fill_two]; exact M.few_of (fun g hg => (hba g).1 hg) n1
    have hml : (U.msgs l).length ≤ 100000 := by have := msgs_len l; omega
    simp only [e1, e2]
    rw [p1.1, p2.1, p3.1, p1.2, p2.2, p3.2, sameL_iff.2 rfl]
    exact ⟨fun _ _ => q1, by omega, k1.1, k1.2, k1.1, k1.2, by omega, fun _ _ => q2, k1.1, k1.2, by omega, by omega, k1.1, k1.2, fun _ _ => q3, fun _ => hml, fun _ => hml, rfl⟩

theorem ok10 : FnOK PR 10 sp10 := mkFn (vc10_eq.mpr h10) Try.func10 (by kernel_rfl) (by kernel_rfl) (by kernel_rfl) (by kernel_rfl) ⟨fun _ => ok13, fun _ => ok15, fun _ => ok34, fun _ => ok35, fun _ => ok33, fun _ => ok17w, fun _ => ok27, fun _ => ok36, trivial⟩ trivial

end Go.X
