/-
  Signs: the law of one order.
-/
import Derived.Test.YtafidkjlgchbbaaGreatG6
namespace Go.X
open Go.Proofs

def sp11 : Spec := lawSpec [tFm, tFm, tFm]
def vc11 : Prop :=
  ∀ (d : FmD × FmD × FmD × Unit),
  fitsAll (1048576 : Nat)
  [Ty.int.pair (Ty.int.pair (Ty.int.pair (Ty.int.pair (Ty.int.pair (Ty.int.slice.pair Ty.unit))))), Ty.int.pair (Ty.int.pair (Ty.int.pair (Ty.int.pair (Ty.int.pair (Ty.int.slice.pair Ty.unit))))),
  Ty.int.pair (Ty.int.pair (Ty.int.pair (Ty.int.pair (Ty.int.pair (Ty.int.slice.pair Ty.unit)))))]
  d →
  d.1.2.2.2.2.2.1.length < (4611686018427387904 : Nat) →
  ((!decide ((20 : Int) < (↑d.1.2.2.2.2.2.1.length : Int))) = true → d.2.1.2.2.2.2.2.1.length < (4611686018427387904 : Nat)) →
  ((!(decide ((20 : Int) < (↑d.1.2.2.2.2.2.1.length : Int)) || decide ((20 : Int) < (↑d.2.1.2.2.2.2.2.1.length : Int)))) = true →
  d.2.2.1.2.2.2.2.2.1.length < (4611686018427387904 : Nat)) →
  ((decide ((20 : Int) < (↑d.1.2.2.2.2.2.1.length : Int)) || decide ((20 : Int) < (↑d.2.1.2.2.2.2.2.1.length : Int)) || decide ((20 : Int) < (↑d.2.2.1.2.2.2.2.2.1.length : Int)) ||
  !U.okForm d.1 ||
  !U.okForm d.2.1 ||
  !U.okForm d.2.2.1) =
  true →
  (true, ()) = (true, ())) ∧
  ((decide ((20 : Int) < (↑d.1.2.2.2.2.2.1.length : Int)) || decide ((20 : Int) < (↑d.2.1.2.2.2.2.2.1.length : Int)) || decide ((20 : Int) < (↑d.2.2.1.2.2.2.2.2.1.length : Int)) ||
  !U.okForm d.1 ||
  !U.okForm d.2.1 ||
  !U.okForm d.2.2.1) =
  false →
  U.okForm d.1 = true ∧
  ((decide ((U.canF d.1).2.1 ≠ (0 : Int)) || decide ((U.canF (U.mir d.1)).2.1 ≠ (0 : Int)) || !U.sameF (U.canF d.1).1 (U.canF (U.mir d.1)).1 ||
  !U.sameF (U.canF d.1).1 d.1 && !U.sameF (U.canF d.1).1 (U.mir d.1)) =
  true →
  (false, ()) = (true, ())) ∧
  ((decide ((U.canF d.1).2.1 ≠ (0 : Int)) || decide ((U.canF (U.mir d.1)).2.1 ≠ (0 : Int)) || !U.sameF (U.canF d.1).1 (U.canF (U.mir d.1)).1 ||
  !U.sameF (U.canF d.1).1 d.1 && !U.sameF (U.canF d.1).1 (U.mir d.1)) =
  false →
  ((!(decide ((U.canF (U.canF d.1).1).2.1 ≠ (0 : Int)) || decide ((U.comF d.1 d.2.1).2.1 ≠ (0 : Int)) || decide ((U.comF d.2.1 d.1).2.1 ≠ (0 : Int)) ||
  decide ((U.comF d.2.1 d.2.2.1).2.1 ≠ (0 : Int)) ||
  decide ((U.comF d.1 d.2.2.1).2.1 ≠ (0 : Int)) ||
  !U.sameF (U.canF (U.canF d.1).1).1 (U.canF d.1).1)) =
  true →
  In64 (-(U.comF d.2.1 d.1).1)) ∧
  ((decide ((U.canF (U.canF d.1).1).2.1 ≠ (0 : Int)) || decide ((U.comF d.1 d.2.1).2.1 ≠ (0 : Int)) || decide ((U.comF d.2.1 d.1).2.1 ≠ (0 : Int)) ||
  decide ((U.comF d.2.1 d.2.2.1).2.1 ≠ (0 : Int)) ||
  decide ((U.comF d.1 d.2.2.1).2.1 ≠ (0 : Int)) ||
  !U.sameF (U.canF (U.canF d.1).1).1 (U.canF d.1).1 ||
  decide ((U.comF d.1 d.2.1).1 ≠ -(U.comF d.2.1 d.1).1) ||
  decide ((U.comF d.1 d.2.1).1 < (-1 : Int)) ||
  decide ((1 : Int) < (U.comF d.1 d.2.1).1)) =
  true →
  (false, ()) = (true, ())) ∧
  ((decide ((U.canF (U.canF d.1).1).2.1 ≠ (0 : Int)) || decide ((U.comF d.1 d.2.1).2.1 ≠ (0 : Int)) || decide ((U.comF d.2.1 d.1).2.1 ≠ (0 : Int)) ||
  decide ((U.comF d.2.1 d.2.2.1).2.1 ≠ (0 : Int)) ||
  decide ((U.comF d.1 d.2.2.1).2.1 ≠ (0 : Int)) ||
  !U.sameF (U.canF (U.canF d.1).1).1 (U.canF d.1).1 ||
  decide ((U.comF d.1 d.2.1).1 ≠ -(U.comF d.2.1 d.1).1) ||
  decide ((U.comF d.1 d.2.1).1 < (-1 : Int)) ||
  decide ((1 : Int) < (U.comF d.1 d.2.1).1)) =
  false →
  ((!decide (decide ((U.comF d.1 d.2.1).1 = (0 : Int)) = (U.sameF d.1 d.2.1 || U.sameF (U.mir d.1) d.2.1))) = true → (false, ()) = (true, ())) ∧
  ((!decide (decide ((U.comF d.1 d.2.1).1 = (0 : Int)) = (U.sameF d.1 d.2.1 || U.sameF (U.mir d.1) d.2.1))) = false →
  ((decide ((0 : Int) < (U.comF d.1 d.2.1).1) || decide ((0 : Int) < (U.comF d.2.1 d.2.2.1).1) ||
  decide ((U.comF d.1 d.2.2.1).1 ≤ (0 : Int)) &&
  decide ((decide ((U.comF d.1 d.2.1).1 = (0 : Int)) && decide ((U.comF d.2.1 d.2.2.1).1 = (0 : Int))) = decide ((U.comF d.1 d.2.2.1).1 = (0 : Int)))) &&
  true,
  ()) =
  (true, ())))))

theorem vc11_eq : fnVC (ctx 192 ((15, sp15) :: FS) []) (fun _ => none) Tryz.f11 (bodyOf Tryz.f11) sp11 = vc11 := by kernel_rfl


end Go.X
/-
  Signs: one order for all hands.
-/
namespace Go.X
open Go.Proofs

theorem cmp_tri (a b : Int) : -1 ≤ U.cmp a b ∧ U.cmp a b ≤ 1 := by unfold U.cmp; split <;> (try split) <;> omega
theorem cmpL_tri : ∀ a b : List Int, -1 ≤ U.cmpL a b ∧ U.cmpL a b ≤ 1
  | [], [] => by simp [U.cmpL]
  | [], _ :: _ => by simp [U.cmpL]
  | _ :: _, [] => by simp [U.cmpL]
  | a :: r, b :: s => by
    unfold U.cmpL
    split
    · exact cmp_tri a b
    · exact cmpL_tri r s
theorem order_tri (a b : FmD) : -1 ≤ U.order a b ∧ U.order a b ≤ 1 := by
  unfold U.order U.firstNZ
  split
  · rename_i n h
    have := List.mem_of_find?_eq_some h
    simp only [List.mem_cons, List.not_mem_nil, or_false] at this
    rcases this with rfl | rfl | rfl | rfl | rfl | rfl
    all_goals first | exact cmp_tri _ _ | exact cmpL_tri _ _
  · omega
/-- the canon of a form and of its mirror form are the same -/
theorem canR_mir {f : FmD} (h : U.okForm f = true) : U.canR (U.mir f) = U.canR f := by
  have ha := order_ok.anti f (U.mir f)
  unfold U.canR
  rw [mir_mir h]
  by_cases h1 : U.order (U.mir f) f < 0
  · rw [if_pos h1, if_neg (by omega)]
  · rw [if_neg h1]
    by_cases h2 : U.order f (U.mir f) < 0
    · rw [if_pos h2]
    · rw [if_neg h2]
      exact (order_zero.1 (by omega))
theorem canR_or (f : FmD) : U.canR f = f ∨ U.canR f = U.mir f := by
  unfold U.canR; split
  · exact .inr rfl
  · exact .inl rfl
theorem canR_same {a b : FmD} (ha : U.okForm a = true) (hb : U.okForm b = true) : U.canR a = U.canR b ↔ a = b ∨ U.mir a = b := by
  constructor
  · intro h
    rcases canR_or a with e1 | e1 <;> rcases canR_or b with e2 | e2
    · exact .inl (by rw [← e1, ← e2, h])
    · refine .inr ?_
      have : a = U.mir b := by rw [← e1, ← e2, h]
      rw [this, mir_mir hb]
    · exact .inr (by rw [← e1, ← e2, h])
    · refine .inl ?_
      have : U.mir a = U.mir b := by rw [← e1, ← e2, h]
      rw [← mir_mir ha, this, mir_mir hb]
  · rintro (rfl | rfl)
    · rfl
    · exact (canR_mir ha).symm
theorem canF_ok {f : FmD} (h : U.okForm f = true) : U.canF f = (U.canR f, 0, ()) := by rw [canF_eq]; unfold U.canRF; rw [if_pos h]
theorem comF_ok {a b : FmD} (ha : U.okForm a = true) (hb : U.okForm b = true) : U.comF a b = (U.order (U.canR a) (U.canR b), 0, ()) := by
  rw [comF_eq]; unfold U.comRF; rw [if_pos ⟨ha, hb⟩]
theorem h11 : vc11 := by
  intro d _ _ _ _
  refine ⟨fun _ => rfl, fun hc => ?_⟩
  simp only [Bool.or_eq_false_iff, Bool.not_eq_false'] at hc
  obtain ⟨⟨⟨_, ha⟩, hb⟩, hc⟩ := hc
  have hm := mir_ok ha
  rw [canF_ok ha, canF_ok hm, canF_ok (f := (U.canR d.1, (0 : Int), ()).1) (canR_ok ha), comF_ok ha hb, comF_ok hb ha, comF_ok hb hc, comF_ok ha hc, canR_mir ha]
  have e1 : U.canR (U.canR d.1) = U.canR d.1 := canR_canR ha
  have same := canR_same ha hb
  have or1 := canR_or d.1
  have z1 : U.order (U.canR d.1) (U.canR d.2.1) = 0 ↔ U.canR d.1 = U.canR d.2.1 := order_zero
  have t1 := order_tri (U.canR d.1) (U.canR d.2.1)
  have t2 := order_tri (U.canR d.2.1) (U.canR d.1)
  have an := order_ok.anti (U.canR d.1) (U.canR d.2.1)
  have tr := order_ok.trans (U.canR d.1) (U.canR d.2.1) (U.canR d.2.2.1)
  have lt1 := order_ok.lt_le (a := U.canR d.1) (b := U.canR d.2.1) (d := U.canR d.2.2.1)
  have lt2 := order_ok.le_lt (a := U.canR d.1) (b := U.canR d.2.1) (d := U.canR d.2.2.1)
  have eq1 := order_ok.eq_eq (a := U.canR d.1) (b := U.canR d.2.1) (d := U.canR d.2.2.1)
  revert an tr lt1 lt2 eq1 t1 t2 z1
  generalize hA : U.canR d.1 = A at *
  generalize hB : U.canR d.2.1 = B at *
  generalize hC : U.canR d.2.2.1 = C at *
  generalize U.order A B = x
  generalize U.order B A = y
  generalize U.order B C = z
  generalize U.order A C = w
  intro z1 t1 t2 an tr lt1 lt2 eq1
  have s1 : U.sameF A A = true := sameF_iff.2 rfl
  have s2 : (!U.sameF A d.1 && !U.sameF A (U.mir d.1)) = false := by
    rcases or1 with h | h
    · rw [sameF_iff.2 h]; rfl
    · rw [sameF_iff.2 h, Bool.not_true, Bool.and_false]
  have s3 : (U.sameF d.1 d.2.1 || U.sameF (U.mir d.1) d.2.1) = decide (x = 0) := by
    rw [Bool.eq_iff_iff, Bool.or_eq_true, sameF_iff, sameF_iff, decide_eq_true_iff, z1, same]
  have no : ∀ n : Int, n = 0 → decide (n ≠ 0) = false := fun n h => decide_eq_false (by omega)
  refine ⟨ha, fun h => ?_, fun _ => ⟨fun _ => by unfold In64; show _ ≤ -y ∧ -y ≤ _; omega, fun h => ?_, fun _ => ⟨fun h => ?_, fun _ => ?_⟩⟩⟩
  · rw [no _ rfl, s1, s2] at h; cases h
  · rw [no _ rfl, show U.sameF (U.canR (A, (0 : Int), ()).1, (0 : Int), ()).1 (A, (0 : Int), ()).1 = true from (by show U.sameF (U.canR A) A = true; rw [e1]; exact s1),
      decide_eq_false (show ¬ ((x, (0 : Int), ()).1 ≠ -(y, (0 : Int), ()).1) by show ¬ (x ≠ -y); omega), decide_eq_false (show ¬ ((x, (0 : Int), ()).1 < -1) by show ¬ (x < -1); omega), decide_eq_false (show ¬ (1 < (x, (0 : Int), ()).1) by show ¬ (1 < x); omega)] at h
    cases h
  · rw [s3, decide_eq_true (show decide ((x, (0 : Int), ()).1 = 0) = decide (x = 0) from rfl)] at h; cases h
  · have key : (decide (0 < x) || decide (0 < z) || decide (w ≤ 0) && decide ((decide (x = 0) && decide (z = 0)) = decide (w = 0))) = true := by
      by_cases h1 : 0 < x
      · rw [decide_eq_true h1]; rfl
      · by_cases h2 : 0 < z
        · rw [decide_eq_true h2, Bool.or_true]; rfl
        · have h3 := tr (by omega) (by omega)
          have h4 : (decide (x = 0) && decide (z = 0)) = decide (w = 0) := by
            rw [Bool.eq_iff_iff, Bool.and_eq_true, decide_eq_true_iff, decide_eq_true_iff, decide_eq_true_iff]
            constructor
            · rintro ⟨h5, h6⟩; exact eq1 h5 h6
            · intro h5
              constructor
              · have : ¬ x < 0 := fun h => by have := lt1 h (by omega); omega
                omega
              · have : ¬ z < 0 := fun h => by have := lt2 (by omega) h; omega
                omega
          rw [decide_eq_true h3, decide_eq_true h4, Bool.true_and, Bool.or_true]
    exact Prod.ext ((congrArg (· && true) key).trans rfl) rfl
theorem ok11 : FnOK PR 11 sp11 := mkFn (vc11_eq.mpr h11) Tryz.func11 (by kernel_rfl) (by kernel_rfl) (by kernel_rfl) (by kernel_rfl) ⟨fun _ => ok15, fun _ => ok14, fun _ => ok16, fun _ => ok17, fun _ => ok18, fun _ => ok19, fun _ => ok20, fun _ => ok21, fun _ => ok22, fun _ => ok23, fun _ => ok24, fun _ => ok25, fun _ => ok26, fun _ => ok27, fun _ => ok28, fun _ => ok29, fun _ => ok30, fun _ => ok31, fun _ => ok32, fun _ => ok33, fun _ => ok34, fun _ => ok35, fun _ => ok36, fun _ => ok37, fun _ => ok38, fun _ => ok39, fun _ => ok40, fun _ => ok41, fun _ => ok42, fun _ => ok43, fun _ => ok44, fun _ => ok45a, fun _ => ok46, fun _ => ok47, fun _ => ok48, fun _ => ok49, trivial⟩ trivial

end Go.X
