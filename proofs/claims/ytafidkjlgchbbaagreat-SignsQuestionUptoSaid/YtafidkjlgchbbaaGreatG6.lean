/-
  Signs: the laws that compare with the specification.
-/
import Derived.Test.YtafidkjlgchbbaaGreatG5
namespace Go.X
open Go.Proofs

def sp10 : Spec := lawSpec [tFm, tFm]
def vc10 : Prop :=
  ∀ (d : FmD × FmD × Unit),
  fitsAll (1048576 : Nat) [Ty.int.pair (Ty.int.pair (Ty.int.pair (Ty.int.pair (Ty.int.pair (Ty.int.slice.pair Ty.unit))))), Ty.int.pair (Ty.int.pair (Ty.int.pair (Ty.int.pair (Ty.int.pair (Ty.int.slice.pair Ty.unit)))))] d →
  d.1.2.2.2.2.2.1.length < (4611686018427387904 : Nat) →
  ((!decide ((20 : Int) < (↑d.1.2.2.2.2.2.1.length : Int))) = true → d.2.1.2.2.2.2.2.1.length < (4611686018427387904 : Nat)) →
  ((decide ((20 : Int) < (↑d.1.2.2.2.2.2.1.length : Int)) || decide ((20 : Int) < (↑d.2.1.2.2.2.2.2.1.length : Int))) = true → (true, ()) = (true, ())) ∧
  ((decide ((20 : Int) < (↑d.1.2.2.2.2.2.1.length : Int)) || decide ((20 : Int) < (↑d.2.1.2.2.2.2.2.1.length : Int))) = false →
  (U.mv d.1).length ≤ (1000 : Nat) ∧
  (U.mv d.1).length ≤ (1000 : Nat) ∧
  (U.mv d.2.1).length ≤ (1000 : Nat) ∧
  (U.sameF (U.canF d.1).1 (U.canRF d.1).1 && decide ((U.canF d.1).2.1 = (U.canRF d.1).2.1) && decide ((U.comF d.1 d.2.1).1 = (U.comRF d.1 d.2.1).1) &&
  decide ((U.comF d.1 d.2.1).2.1 = (U.comRF d.1 d.2.1).2.1) &&
  true,
  ()) =
  (true, ()))

theorem vc10_eq : fnVC (ctx 70 ((15, sp15) :: FS) []) (fun _ => none) Tryz.f10 (bodyOf Tryz.f10) sp10 = vc10 := by kernel_rfl

def sp8 : Spec := lawSpec [.slice tE]
def vc8 : Prop :=
  ∀ (d : List ED × Unit),
  fitsAll (1048576 : Nat) [(Ty.int.pair (Ty.int.pair (Ty.int.pair ((Ty.int.pair (Ty.int.pair (Ty.int.pair (Ty.int.pair (Ty.int.pair (Ty.int.slice.pair Ty.unit)))))).pair ((Ty.int.pair (Ty.int.pair Ty.unit)).pair Ty.unit))))).slice] d →
  (U.far d.1 = true → (true, ()) = (true, ())) ∧
  (U.far d.1 = false →
  d.1.length ≤ (1000 : Nat) ∧
  (∀ (x : ED), x ∈ d.1 → (U.mv (U.fm x)).length ≤ (1000 : Nat)) ∧
  (decide ((U.opn d.1).2.1 ≠ U.chk d.1) = true → (false, ()) = (true, ())) ∧
  (decide ((U.opn d.1).2.1 ≠ U.chk d.1) = false →
  (decide ((U.ord d.1).1 = (U.ordR d.1).1) && decide ((U.ord d.1).2.1 = (U.ordR d.1).2.1) && decide ((U.twn d.1).1 = (U.twnR d.1).1) && decide ((U.twn d.1).2.1 = (U.twnR d.1).2.1) &&
  true,
  ()) =
  (true, ())))

theorem vc8_eq : fnVC (ctx 63 ((15, sp15) :: FS) []) (fun _ => none) Tryz.f8 (bodyOf Tryz.f8) sp8 = vc8 := by kernel_rfl

def sp12 : Spec := lawSpec [.slice tE, .slice tE]
def vc12 : Prop :=
  ∀ (d : List ED × List ED × Unit),
  fitsAll (1048576 : Nat)
  [(Ty.int.pair (Ty.int.pair (Ty.int.pair ((Ty.int.pair (Ty.int.pair (Ty.int.pair (Ty.int.pair (Ty.int.pair (Ty.int.slice.pair Ty.unit)))))).pair ((Ty.int.pair (Ty.int.pair Ty.unit)).pair Ty.unit))))).slice,
  (Ty.int.pair (Ty.int.pair (Ty.int.pair ((Ty.int.pair (Ty.int.pair (Ty.int.pair (Ty.int.pair (Ty.int.pair (Ty.int.slice.pair Ty.unit)))))).pair ((Ty.int.pair (Ty.int.pair Ty.unit)).pair Ty.unit))))).slice]
  d →
  ((U.long d.1 || U.long d.2.1) = true → (true, ()) = (true, ())) ∧
  ((U.long d.1 || U.long d.2.1) = false →
  d.1.length ≤ (1000 : Nat) ∧
  (∀ (x : ED), x ∈ d.1 → (U.mv (U.fm x)).length ≤ (1000 : Nat)) ∧
  d.2.1.length ≤ (1000 : Nat) ∧
  (∀ (x : ED), x ∈ d.2.1 → (U.mv (U.fm x)).length ≤ (1000 : Nat)) ∧
  (U.sameB (U.mrg d.1 d.2.1).1 (U.mrgR d.1 d.2.1).1 && decide ((U.mrg d.1 d.2.1).2.1 = (U.mrgR d.1 d.2.1).2.1) && true, ()) = (true, ()))

theorem vc12_eq : fnVC (ctx 41 ((15, sp15) :: FS) []) (fun _ => none) Tryz.f12 (bodyOf Tryz.f12) sp12 = vc12 := by kernel_rfl

def sp3 : Spec := lawSpec [.slice tE, tSn]
def vc3 : Prop :=
  ∀ (d : List ED × SnD × Unit),
  fitsAll (1048576 : Nat)
  [(Ty.int.pair (Ty.int.pair (Ty.int.pair ((Ty.int.pair (Ty.int.pair (Ty.int.pair (Ty.int.pair (Ty.int.pair (Ty.int.slice.pair Ty.unit)))))).pair ((Ty.int.pair (Ty.int.pair Ty.unit)).pair Ty.unit))))).slice,
  Ty.int.pair (Ty.int.pair (Ty.int.pair (Ty.int.pair (Ty.int.pair ((Ty.int.pair (Ty.int.pair Ty.unit)).pair ((Ty.int.pair (Ty.int.pair Ty.unit)).pair ((Ty.int.pair (Ty.int.pair Ty.unit)).pair (Ty.int.slice.pair Ty.unit))))))))]
  d →
  ((!U.far d.1) = true → d.2.1.2.2.2.2.2.2.2.2.1.length < (4611686018427387904 : Nat)) →
  ((U.far d.1 || decide ((20 : Int) < (↑d.2.1.2.2.2.2.2.2.2.2.1.length : Int))) = true → (true, ()) = (true, ())) ∧
  ((U.far d.1 || decide ((20 : Int) < (↑d.2.1.2.2.2.2.2.2.2.2.1.length : Int))) = false →
  d.1.length ≤ (1000 : Nat) ∧
  (∀ (x : ED), x ∈ d.1 → (U.mv (U.fm x)).length ≤ (1000 : Nat)) ∧
  (U.mvs d.2.1).length ≤ (1000 : Nat) ∧
  (decide ((U.fnd d.1 d.2.1).1 = (U.fndR d.1 d.2.1).1) && decide ((U.fnd d.1 d.2.1).2.1 = (U.fndR d.1 d.2.1).2.1) && decide ((U.ask d.1 d.2.1).1 = (U.askR d.1 d.2.1).1) &&
  decide ((U.ask d.1 d.2.1).2.1 = (U.askR d.1 d.2.1).2.1) &&
  decide ((U.ask d.1 d.2.1).2.2.1 = (U.askR d.1 d.2.1).2.2.1) &&
  true,
  ()) =
  (true, ()))

theorem vc3_eq : fnVC (ctx 82 ((15, sp15) :: FS) []) (fun _ => none) Tryz.f3 (bodyOf Tryz.f3) sp3 = vc3 := by kernel_rfl


end Go.X
/-
  Signs: the laws that compare with the specification hold.
-/
namespace Go.X
open Go.Proofs

theorem long_iff {l : List ED} : U.long l = false ↔ l.length ≤ 60 ∧ ∀ x, x ∈ l → (U.mv (U.fm x)).length ≤ 20 := by
  unfold U.long
  rw [Bool.or_eq_false_iff, decide_eq_false_iff_not, List.any_eq_false]
  constructor
  · rintro ⟨h1, h2⟩
    exact ⟨by omega, fun x hx => by have := h1 x hx; rw [decide_eq_true_iff] at this; omega⟩
  · rintro ⟨h1, h2⟩
    exact ⟨fun x hx => by have := h2 x hx; rw [decide_eq_true_iff]; omega, by omega⟩
theorem far_long {l : List ED} (h : U.far l = false) : U.long l = false := by
  unfold U.far at h
  rw [Bool.or_eq_false_iff] at h; exact h.1
theorem long_copy {l : List ED} (h : U.long l = false) : l.length ≤ 1000 ∧ ∀ x, x ∈ l → (U.mv (U.fm x)).length ≤ 1000 := by
  obtain ⟨h1, h2⟩ := long_iff.1 h
  exact ⟨by omega, fun x hx => by have := h2 x hx; omega⟩
theorem h10 : vc10 := by
  intro d _ _ _
  refine ⟨fun _ => rfl, fun h => ?_⟩
  rw [Bool.or_eq_false_iff, decide_eq_false_iff_not, decide_eq_false_iff_not] at h
  have h1 : ¬ (20 : Int) < ((U.mv d.1).length : Int) := h.1
  have h2 : ¬ (20 : Int) < ((U.mv d.2.1).length : Int) := h.2
  refine ⟨by omega, by omega, by omega, ?_⟩
  rw [canF_eq, comF_eq, sameF_iff.2 rfl]
  simp only [decide_true, Bool.and_true]
theorem ok10 : FnOK PR 10 sp10 := mkFn (vc10_eq.mpr h10) Tryz.func10 (by kernel_rfl) (by kernel_rfl) (by kernel_rfl) (by kernel_rfl) ⟨fun _ => ok15, fun _ => ok14, fun _ => ok16, fun _ => ok17, fun _ => ok18, fun _ => ok19, fun _ => ok20, fun _ => ok21, fun _ => ok22, fun _ => ok23, fun _ => ok24, fun _ => ok25, fun _ => ok26, fun _ => ok27, fun _ => ok28, fun _ => ok29, fun _ => ok30, fun _ => ok31, fun _ => ok32, fun _ => ok33, fun _ => ok34, fun _ => ok35, fun _ => ok36, fun _ => ok37, fun _ => ok38, fun _ => ok39, fun _ => ok40, fun _ => ok41, fun _ => ok42, fun _ => ok43, fun _ => ok44, fun _ => ok45a, fun _ => ok46, fun _ => ok47, fun _ => ok48, fun _ => ok49, trivial⟩ trivial
theorem h8 : vc8 := by
  intro d _
  refine ⟨fun _ => rfl, fun h => ?_⟩
  obtain ⟨h1, h2⟩ := long_copy (far_long h)
  refine ⟨h1, h2, fun h3 => absurd (chk_eq d.1) (of_decide_eq_true h3), fun _ => ?_⟩
  rw [ord_eq, twn_eq]
  simp only [decide_true, Bool.and_true]
theorem ok8 : FnOK PR 8 sp8 := mkFn (vc8_eq.mpr h8) Tryz.func8 (by kernel_rfl) (by kernel_rfl) (by kernel_rfl) (by kernel_rfl) ⟨fun _ => ok15, fun _ => ok14, fun _ => ok16, fun _ => ok17, fun _ => ok18, fun _ => ok19, fun _ => ok20, fun _ => ok21, fun _ => ok22, fun _ => ok23, fun _ => ok24, fun _ => ok25, fun _ => ok26, fun _ => ok27, fun _ => ok28, fun _ => ok29, fun _ => ok30, fun _ => ok31, fun _ => ok32, fun _ => ok33, fun _ => ok34, fun _ => ok35, fun _ => ok36, fun _ => ok37, fun _ => ok38, fun _ => ok39, fun _ => ok40, fun _ => ok41, fun _ => ok42, fun _ => ok43, fun _ => ok44, fun _ => ok45a, fun _ => ok46, fun _ => ok47, fun _ => ok48, fun _ => ok49, trivial⟩ trivial
theorem h12 : vc12 := by
  intro d _
  refine ⟨fun _ => rfl, fun h => ?_⟩
  rw [Bool.or_eq_false_iff] at h
  obtain ⟨h1, h2⟩ := long_copy h.1
  obtain ⟨h3, h4⟩ := long_copy h.2
  refine ⟨h1, h2, h3, h4, ?_⟩
  rw [mrg_eq, sameB_iff.2 rfl]
  simp only [decide_true, Bool.and_true]
theorem ok12 : FnOK PR 12 sp12 := mkFn (vc12_eq.mpr h12) Tryz.func12 (by kernel_rfl) (by kernel_rfl) (by kernel_rfl) (by kernel_rfl) ⟨fun _ => ok15, fun _ => ok14, fun _ => ok16, fun _ => ok17, fun _ => ok18, fun _ => ok19, fun _ => ok20, fun _ => ok21, fun _ => ok22, fun _ => ok23, fun _ => ok24, fun _ => ok25, fun _ => ok26, fun _ => ok27, fun _ => ok28, fun _ => ok29, fun _ => ok30, fun _ => ok31, fun _ => ok32, fun _ => ok33, fun _ => ok34, fun _ => ok35, fun _ => ok36, fun _ => ok37, fun _ => ok38, fun _ => ok39, fun _ => ok40, fun _ => ok41, fun _ => ok42, fun _ => ok43, fun _ => ok44, fun _ => ok45a, fun _ => ok46, fun _ => ok47, fun _ => ok48, fun _ => ok49, trivial⟩ trivial
theorem h3 : vc3 := by
  intro d _ _
  refine ⟨fun _ => rfl, fun h => ?_⟩
  rw [Bool.or_eq_false_iff, decide_eq_false_iff_not] at h
  obtain ⟨h1, h2⟩ := long_copy (far_long h.1)
  have h3 : ¬ (20 : Int) < ((U.mvs d.2.1).length : Int) := h.2
  refine ⟨h1, h2, by omega, ?_⟩
  rw [fnd_eq, ask_eq]
  simp only [decide_true, Bool.and_true]
theorem ok3 : FnOK PR 3 sp3 := mkFn (vc3_eq.mpr h3) Tryz.func3 (by kernel_rfl) (by kernel_rfl) (by kernel_rfl) (by kernel_rfl) ⟨fun _ => ok15, fun _ => ok14, fun _ => ok16, fun _ => ok17, fun _ => ok18, fun _ => ok19, fun _ => ok20, fun _ => ok21, fun _ => ok22, fun _ => ok23, fun _ => ok24, fun _ => ok25, fun _ => ok26, fun _ => ok27, fun _ => ok28, fun _ => ok29, fun _ => ok30, fun _ => ok31, fun _ => ok32, fun _ => ok33, fun _ => ok34, fun _ => ok35, fun _ => ok36, fun _ => ok37, fun _ => ok38, fun _ => ok39, fun _ => ok40, fun _ => ok41, fun _ => ok42, fun _ => ok43, fun _ => ok44, fun _ => ok45a, fun _ => ok46, fun _ => ok47, fun _ => ok48, fun _ => ok49, trivial⟩ trivial

end Go.X
