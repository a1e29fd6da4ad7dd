/-
  Signs: the law of the best question.
-/
import Derived.Test.YtafidkjlgchbbaaGreatG7
namespace Go.X
open Go.Proofs

def sp7 : Spec := lawSpec [.slice tE, tSn]
def an7 : Ann := fun r => match r with
  | 12 => some fun σ => { X := Nat, sl := fun i => [(10, .dat .int (i : Int))], ob := fun _ => [], inv := fun i => i ≤ 5, mu := fun i => 5 - i }
  | 17 => some fun σ => { X := Nat, sl := fun i => [(13, .dat .int (i : Int)), (11, .dat .int (U.topOf (U.numsR (gd (.slice tE) σ 0) ((gd (.slice tSn) σ 12).take i))))], ob := fun _ => [], inv := fun i => i ≤ (gd (.slice tSn) σ 12).length, mu := fun i => (gd (.slice tSn) σ 12).length - i }
  | _ => none
def vc7 : Prop :=
  ∀ (d : List ED × SnD × Unit),
  fitsAll (1048576 : Nat)
  [(Ty.int.pair (Ty.int.pair (Ty.int.pair ((Ty.int.pair (Ty.int.pair (Ty.int.pair (Ty.int.pair (Ty.int.pair (Ty.int.slice.pair Ty.unit)))))).pair ((Ty.int.pair (Ty.int.pair Ty.unit)).pair Ty.unit))))).slice,
  Ty.int.pair (Ty.int.pair (Ty.int.pair (Ty.int.pair (Ty.int.pair ((Ty.int.pair (Ty.int.pair Ty.unit)).pair ((Ty.int.pair (Ty.int.pair Ty.unit)).pair ((Ty.int.pair (Ty.int.pair Ty.unit)).pair (Ty.int.slice.pair Ty.unit))))))))]
  d →
  ((!!U.ready d.1) = true → d.2.1.2.2.2.2.2.2.2.2.1.length < (4611686018427387904 : Nat)) →
  ((!U.ready d.1 || decide ((20 : Int) < (↑d.2.1.2.2.2.2.2.2.2.2.1.length : Int)) || !U.okS d.2.1) = true → (true, ()) = (true, ())) ∧
  ((!U.ready d.1 || decide ((20 : Int) < (↑d.2.1.2.2.2.2.2.2.2.2.1.length : Int)) || !U.okS d.2.1) = false →
  ((!(decide ((U.fnd d.1 d.2.1).2.1 ≠ (0 : Int)) || decide ((U.ask d.1 d.2.1).2.2.1 ≠ (0 : Int)) && decide ((U.ask d.1 d.2.1).2.2.1 ≠ (3 : Int)))) = true →
  (U.fnd d.1 d.2.1).1.length < (4611686018427387904 : Nat)) →
  ((decide ((U.fnd d.1 d.2.1).2.1 ≠ (0 : Int)) || decide ((U.ask d.1 d.2.1).2.2.1 ≠ (0 : Int)) && decide ((U.ask d.1 d.2.1).2.2.1 ≠ (3 : Int)) ||
  !decide (decide ((U.ask d.1 d.2.1).2.2.1 = (0 : Int)) = decide ((0 : Int) < (↑(U.fnd d.1 d.2.1).1.length : Int)))) =
  true →
  (false, ()) = (true, ())) ∧
  ((decide ((U.fnd d.1 d.2.1).2.1 ≠ (0 : Int)) || decide ((U.ask d.1 d.2.1).2.2.1 ≠ (0 : Int)) && decide ((U.ask d.1 d.2.1).2.2.1 ≠ (3 : Int)) ||
  !decide (decide ((U.ask d.1 d.2.1).2.2.1 = (0 : Int)) = decide ((0 : Int) < (↑(U.fnd d.1 d.2.1).1.length : Int)))) =
  false →
  (decide ((U.ask d.1 d.2.1).2.2.1 ≠ (0 : Int)) = true → (true, ()) = (true, ())) ∧
  (decide ((U.ask d.1 d.2.1).2.2.1 ≠ (0 : Int)) = false →
  ((decide ((U.ask d.1 d.2.1).1 < (0 : Int)) || decide ((4 : Int) < (U.ask d.1 d.2.1).1)) = true → (false, ()) = (true, ())) ∧
  ((decide ((U.ask d.1 d.2.1).1 < (0 : Int)) || decide ((4 : Int) < (U.ask d.1 d.2.1).1)) = false →
  (∃ (x : Nat), (((0 : Int) = (↑x : Int) ∧ True) ∧ True) ∧ x ≤ (5 : Nat)) ∧
  ∀ (x : Nat),
  x ≤ (5 : Nat) →
  (decide ((↑x : Int) < (5 : Int)) = true →
  (∃ (x_3 : Nat), (((0 : Int) = (↑x_3 : Int) ∧ (0 : Int) = U.topOf (U.numsR d.1 (List.take x_3 (U.answersR d.2.1 (↑x : Int)))) ∧ True) ∧ True) ∧ x_3 ≤ (U.answersR d.2.1 (↑x : Int)).length) ∧
  ∀ (x_3 : Nat),
  x_3 ≤ (U.answersR d.2.1 (↑x : Int)).length →
  (U.answersR d.2.1 (↑x : Int)).length < (4611686018427387904 : Nat) →
  (decide ((↑x_3 : Int) < (↑(U.answersR d.2.1 (↑x : Int)).length : Int)) = true →
  (0 : Int) ≤ (↑x_3 : Int) ∧
  (↑x_3 : Int) < (↑(U.answersR d.2.1 (↑x : Int)).length : Int) ∧
  (decide ((U.fnd d.1 (nth (U.answersR d.2.1 (↑x : Int)) (↑x_3 : Int).toNat)).2.1 ≠ (0 : Int)) = true → (false, ()) = (true, ())) ∧
  (decide ((U.fnd d.1 (nth (U.answersR d.2.1 (↑x : Int)) (↑x_3 : Int).toNat)).2.1 ≠ (0 : Int)) = false →
  (U.fnd d.1 (nth (U.answersR d.2.1 (↑x : Int)) (↑x_3 : Int).toNat)).1.length < (4611686018427387904 : Nat) →
  In64 ((↑x_3 : Int) + (1 : Int)) ∧
  ∃ (x' : Nat),
  (((↑x_3 : Int) + (1 : Int) = (↑x' : Int) ∧
  max (U.topOf (U.numsR d.1 (List.take x_3 (U.answersR d.2.1 (↑x : Int))))) (↑(U.fnd d.1 (nth (U.answersR d.2.1 (↑x : Int)) (↑x_3 : Int).toNat)).1.length : Int) =
  U.topOf (U.numsR d.1 (List.take x' (U.answersR d.2.1 (↑x : Int)))) ∧
  True) ∧
  True) ∧
  x' ≤ (U.answersR d.2.1 (↑x : Int)).length ∧ (U.answersR d.2.1 (↑x : Int)).length - x' < (U.answersR d.2.1 (↑x : Int)).length - x_3)) ∧
  (decide ((↑x_3 : Int) < (↑(U.answersR d.2.1 (↑x : Int)).length : Int)) = false →
  ((decide ((↑x : Int) = (U.ask d.1 d.2.1).1) && decide (U.topOf (U.numsR d.1 (List.take x_3 (U.answersR d.2.1 (↑x : Int)))) ≠ (U.ask d.1 d.2.1).2.1) ||
  decide (U.topOf (U.numsR d.1 (List.take x_3 (U.answersR d.2.1 (↑x : Int)))) < (U.ask d.1 d.2.1).2.1) ||
  decide ((↑x : Int) < (U.ask d.1 d.2.1).1) && decide (U.topOf (U.numsR d.1 (List.take x_3 (U.answersR d.2.1 (↑x : Int)))) ≤ (U.ask d.1 d.2.1).2.1)) =
  true →
  (false, ()) = (true, ())) ∧
  ((decide ((↑x : Int) = (U.ask d.1 d.2.1).1) && decide (U.topOf (U.numsR d.1 (List.take x_3 (U.answersR d.2.1 (↑x : Int)))) ≠ (U.ask d.1 d.2.1).2.1) ||
  decide (U.topOf (U.numsR d.1 (List.take x_3 (U.answersR d.2.1 (↑x : Int)))) < (U.ask d.1 d.2.1).2.1) ||
  decide ((↑x : Int) < (U.ask d.1 d.2.1).1) && decide (U.topOf (U.numsR d.1 (List.take x_3 (U.answersR d.2.1 (↑x : Int)))) ≤ (U.ask d.1 d.2.1).2.1)) =
  false →
  In64 ((↑x : Int) + (1 : Int)) ∧ ∃ (x' : Nat), (((↑x : Int) + (1 : Int) = (↑x' : Int) ∧ True) ∧ True) ∧ x' ≤ (5 : Nat) ∧ (5 : Nat) - x' < (5 : Nat) - x))) ∧
  (decide ((↑x : Int) < (5 : Int)) = false → (true, ()) = (true, ()))))))

theorem vc7_eq : fnVC (ctx 123 ((15, sp15) :: FS) []) (an7) Tryz.f7 (bodyOf Tryz.f7) sp7 = vc7 := by kernel_rfl


end Go.X
/-
  Signs: the best question.
-/
namespace Go.X
open Go.Proofs

/-! ### Answers are valid -/

theorem pow_le {k m : Nat} (h : k ≤ m) : (1 : Int) ≤ 2 ^ k ∧ (2 : Int) ^ k ≤ 2 ^ m := by
  have h1 : (1 : Nat) ≤ 2 ^ k := Nat.one_le_two_pow
  have h2 : (2 : Nat) ^ k ≤ 2 ^ m := Nat.pow_le_pow_right (by decide) h
  have e : ∀ j : Nat, ((2 : Int) ^ j) = ((2 ^ j : Nat) : Int) := fun j => by simp
  rw [e, e]
  omega
theorem has_range {N n : Int} (h : U.has N n = true) : 0 ≤ n ∧ U.bit N n = true := by
  unfold U.has at h
  rw [Bool.and_eq_true, decide_eq_true_iff] at h
  exact ⟨h.1.1, h.2⟩
theorem bit_small {N : Int} {m : Nat} (hN : 1 ≤ N) (hm : N < 2 ^ m) (hm2 : m ≤ 62) {n : Int} (h0 : 0 ≤ n) (h : U.bit N n = true) : n.toNat < m := by
  obtain ⟨k, rfl⟩ : ∃ k : Nat, N = (k : Int) := ⟨N.toNat, by omega⟩
  obtain ⟨i, rfl⟩ : ∃ i : Nat, n = (i : Int) := ⟨n.toNat, by omega⟩
  have hk : k < 2 ^ m := by
    have e : ((2 : Int) ^ m) = ((2 ^ m : Nat) : Int) := by simp
    rw [e] at hm; omega
  have hk2 : k < 2 ^ 63 := Nat.lt_of_lt_of_le hk (Nat.pow_le_pow_right (by decide) (by omega))
  rw [bit_nat hk2] at h
  have := Nat.ge_two_pow_of_testBit h
  show i < m
  rcases Nat.lt_or_ge i m with h1 | h1
  · exact h1
  · have := Nat.pow_le_pow_right (n := 2) (by decide) h1
    omega
theorem okS_iff {s : SnD} : U.okS s = true ↔ (1 ≤ U.rights s ∧ U.rights s ≤ 8589934591 ∧ 1 ≤ U.lefts s ∧ U.lefts s ≤ 8589934591 ∧ 1 ≤ U.faces s ∧ U.faces s ≤ 255 ∧ 1 ≤ U.rgs s ∧ U.rgs s ≤ 255 ∧ U.lo (U.cols s) ≤ U.hi (U.cols s) ∧ U.lo (U.rows s) ≤ U.hi (U.rows s) ∧ U.lo (U.ages s) ≤ U.hi (U.ages s) ∧ (U.mvs s).length ≤ 6 ∧ 0 ≤ U.lost s ∧ U.lost s ≤ 6) ∧ (U.mvs s).all U.okSet = true := by
  unfold U.okS; rw [Bool.and_eq_true, decide_eq_true_iff]
theorem set_ok {N n : Int} (h : U.has N n = true) (hN : 1 ≤ N ∧ N ≤ 8589934591) : 1 ≤ (2 : Int) ^ (max 0 n).toNat ∧ (2 : Int) ^ (max 0 n).toNat ≤ 8589934591 := by
  obtain ⟨h0, hb⟩ := has_range h
  have := bit_small (m := 33) hN.1 (by omega) (by decide) h0 hb
  have e : (max 0 n).toNat = n.toNat := by omega
  rw [e]
  have := pow_le (k := n.toNat) (m := 32) (by omega)
  omega
theorem set_ok8 {N n : Int} (h : U.has N n = true) (hN : 1 ≤ N ∧ N ≤ 255) : 1 ≤ (2 : Int) ^ (max 0 n).toNat ∧ (2 : Int) ^ (max 0 n).toNat ≤ 255 := by
  obtain ⟨h0, hb⟩ := has_range h
  have := bit_small (m := 8) hN.1 (by omega) (by decide) h0 hb
  have e : (max 0 n).toNat = n.toNat := by omega
  rw [e]
  have := pow_le (k := n.toNat) (m := 7) (by omega)
  omega
theorem ansAt_ok {s : SnD} (hs : U.okS s = true) {p n : Int} {o : SnD} (h : o ∈ U.ansAt s p n) : U.okS o = true := by
  obtain ⟨h1, h2⟩ := okS_iff.1 hs
  obtain ⟨a1, a2, a3, a4, a5, a6, a7, a8, a9, a10, a11, a12, a13, a14⟩ := h1
  unfold U.ansAt at h
  split at h
  · split at h
    · rename_i hh
      have := set_ok hh ⟨a1, a2⟩
      rw [List.mem_singleton.1 h]
      exact okS_iff.2 ⟨⟨this.1, this.2, a3, a4, a5, a6, a7, a8, a9, a10, a11, a12, a13, a14⟩, h2⟩
    · simp at h
  split at h
  · split at h
    · rename_i hh
      have := set_ok hh ⟨a3, a4⟩
      rw [List.mem_singleton.1 h]
      exact okS_iff.2 ⟨⟨a1, a2, this.1, this.2, a5, a6, a7, a8, a9, a10, a11, a12, a13, a14⟩, h2⟩
    · simp at h
  split at h
  · split at h
    · rw [List.mem_singleton.1 h]
      exact okS_iff.2 ⟨⟨a1, a2, a3, a4, a5, a6, a7, a8, a9, Int.le_refl _, a11, a12, a13, a14⟩, h2⟩
    · simp at h
  split at h
  · split at h
    · rw [List.mem_singleton.1 h]
      exact okS_iff.2 ⟨⟨a1, a2, a3, a4, a5, a6, a7, a8, Int.le_refl _, a10, a11, a12, a13, a14⟩, h2⟩
    · simp at h
  split at h
  · split at h
    · rename_i hh
      have := set_ok8 hh ⟨a5, a6⟩
      rw [List.mem_singleton.1 h]
      exact okS_iff.2 ⟨⟨a1, a2, a3, a4, this.1, this.2, a7, a8, a9, a10, a11, a12, a13, a14⟩, h2⟩
    · simp at h
  simp at h
theorem answersR_ok {s : SnD} (hs : U.okS s = true) {p : Int} {o : SnD} (h : o ∈ U.answersR s p) : U.okS o = true := by
  unfold U.answersR U.ansTo at h
  obtain ⟨i, _, hi⟩ := List.mem_flatMap.1 h
  exact ansAt_ok hs hi

/-! ### The best part -/

theorem bestR_inv (l : List ED) (s : SnD) : ∀ k : Nat, (0 ≤ (U.bestR l s (k + 1)).1 ∧ (U.bestR l s (k + 1)).1 ≤ (k : Int)) ∧ U.mostR l s (U.bestR l s (k + 1)).1 = (U.bestR l s (k + 1)).2 ∧
    ∀ q : Nat, q ≤ k → (U.bestR l s (k + 1)).2 ≤ U.mostR l s (q : Int) ∧ ((q : Int) < (U.bestR l s (k + 1)).1 → (U.bestR l s (k + 1)).2 < U.mostR l s (q : Int))
  | 0 => by
    have e : U.bestR l s (0 + 1) = (0, U.mostR l s 0) := by
      unfold U.bestR
      rw [if_pos]
      · rfl
      · rfl
    rw [e]
    refine ⟨⟨by show (0 : Int) ≤ 0; omega, by show (0 : Int) ≤ 0; omega⟩, rfl, fun q hq => ?_⟩
    have : q = 0 := by omega
    subst this
    exact ⟨Int.le_refl _, fun h => absurd h (by show ¬ (0 : Int) < 0; omega)⟩
  | k + 1 => by
    obtain ⟨⟨h1, h2⟩, h3, h4⟩ := bestR_inv l s k
    have e2 : U.bestR l s (k + 1 + 1) = if (decide ((U.bestR l s (k + 1)).1 < 0) || decide (U.mostR l s ((k + 1 : Nat) : Int) < (U.bestR l s (k + 1)).2)) = true then (((k + 1 : Nat) : Int), U.mostR l s ((k + 1 : Nat) : Int)) else U.bestR l s (k + 1) := rfl
    rw [e2, decide_eq_false (by omega : ¬ (U.bestR l s (k + 1)).1 < 0), Bool.false_or]
    by_cases hlt : U.mostR l s ((k + 1 : Nat) : Int) < (U.bestR l s (k + 1)).2
    · rw [if_pos (decide_eq_true hlt)]
      refine ⟨⟨by show (0 : Int) ≤ ((k + 1 : Nat) : Int); omega, Int.le_refl _⟩, rfl, fun q hq => ?_⟩
      rcases Nat.lt_or_eq_of_le hq with h | h
      · have := (h4 q (by omega)).1
        exact ⟨by show U.mostR l s ((k + 1 : Nat) : Int) ≤ _; omega, fun _ => by show U.mostR l s ((k + 1 : Nat) : Int) < _; omega⟩
      · subst h
        exact ⟨Int.le_refl _, fun h => absurd h (by show ¬ ((k + 1 : Nat) : Int) < ((k + 1 : Nat) : Int); omega)⟩
    · rw [if_neg (by rw [decide_eq_false hlt]; simp)]
      refine ⟨⟨h1, by omega⟩, h3, fun q hq => ?_⟩
      rcases Nat.lt_or_eq_of_le hq with h | h
      · exact h4 q (by omega)
      · subst h
        exact ⟨by omega, fun h => absurd h (by omega)⟩
theorem ask_none {l : List ED} (hb : Book l) {s : SnD} (hs : U.okS s = true) (h : U.findR l s = []) : U.ask l s = (0, 0, 3, ()) := by
  rw [ask_eq]; unfold U.askR; rw [lookR_ok hb hs, if_neg (by simp), if_pos h]
theorem ask_some {l : List ED} (hb : Book l) {s : SnD} (hs : U.okS s = true) (h : U.findR l s ≠ []) : U.ask l s = ((U.bestR l s 5).1, (U.bestR l s 5).2, 0, ()) := by
  rw [ask_eq]; unfold U.askR; rw [lookR_ok hb hs, if_neg (by simp), if_neg h]
theorem findR_1000 (l : List ED) (s : SnD) : (U.findR l s).length ≤ 1000 := findTo_len l s 1000
theorem h7 : vc7 := by
  intro d _ _
  refine ⟨fun _ => rfl, fun hc => ?_⟩
  simp only [Bool.or_eq_false_iff, Bool.not_eq_false', decide_eq_false_iff_not] at hc
  obtain ⟨⟨hr, hm⟩, hs⟩ := hc
  have hb := ready_book hr
  rw [fnd_ok hb hs]
  by_cases hF : U.findR d.1 d.2.1 = []
  · rw [ask_none hb hs hF, hF]
    refine fun _ => ⟨fun h => absurd h (by decide), fun _ => ⟨fun _ => rfl, fun h => absurd h (by decide)⟩⟩
  · have hpos : 0 < (U.findR d.1 d.2.1).length := List.length_pos_iff.2 hF
    rw [ask_some hb hs hF]
    clear hF
    revert hpos
    generalize U.findR d.1 d.2.1 = F
    intro hpos
    obtain ⟨⟨b1, b2⟩, b3, b4⟩ := bestR_inv d.1 d.2.1 4
    have b1 : 0 ≤ (U.bestR d.1 d.2.1 5).1 := b1
    have b2 : (U.bestR d.1 d.2.1 5).1 ≤ 4 := b2
    have b3 : U.mostR d.1 d.2.1 (U.bestR d.1 d.2.1 5).1 = (U.bestR d.1 d.2.1 5).2 := b3
    have b4 : ∀ q : Nat, q ≤ 4 → (U.bestR d.1 d.2.1 5).2 ≤ U.mostR d.1 d.2.1 (q : Int) ∧ ((q : Int) < (U.bestR d.1 d.2.1 5).1 → (U.bestR d.1 d.2.1 5).2 < U.mostR d.1 d.2.1 (q : Int)) := b4
    generalize U.bestR d.1 d.2.1 5 = B at *
    refine fun _ => ⟨fun h => ?_, fun _ => ⟨fun h => absurd (of_decide_eq_true h) (show ¬ ((0 : Int) ≠ 0) by decide), fun _ => ⟨fun h => ?_, fun _ => ⟨⟨0, ⟨⟨rfl, trivial⟩, trivial⟩, by omega⟩, fun x hx => ⟨fun h1 => ⟨⟨0, ⟨⟨rfl, (by rw [List.take_zero]; rfl), trivial⟩, trivial⟩, Nat.zero_le _⟩, fun y hy hlen => ⟨fun h2 => ?_, fun h2 => ?_⟩⟩, fun _ => rfl⟩⟩⟩⟩⟩
    · exfalso
      have e1 : decide ((0 : Int) < (F.length : Int)) = true := decide_eq_true (by omega)
      have h : (decide ((0 : Int) ≠ 0) || decide ((0 : Int) ≠ 0) && decide ((0 : Int) ≠ 3) || !decide (decide ((0 : Int) = 0) = decide ((0 : Int) < (F.length : Int)))) = true := h
      rw [e1] at h
      exact absurd h (by decide)
    · exfalso
      have h : (decide (B.1 < 0) || decide (4 < B.1)) = true := h
      rw [Bool.or_eq_true, decide_eq_true_iff, decide_eq_true_iff] at h
      omega
    · have h1 : (x : Int) < 5 := of_decide_eq_true h1
      have h2 : (y : Int) < ((U.answersR d.2.1 (x : Int)).length : Int) := of_decide_eq_true h2
      have hlt : y < (U.answersR d.2.1 (x : Int)).length := by omega
      have ho := answersR_ok hs (L.mem_nth hlt)
      have e : (y : Int).toNat = y := rfl
      rw [e, fnd_ok hb ho]
      have h1000 := findR_1000 d.1 (nth (U.answersR d.2.1 (x : Int)) y)
      refine ⟨by omega, h2, fun h => absurd (of_decide_eq_true h) (show ¬ ((0 : Int) ≠ 0) by decide), fun _ _ => ⟨by unfold In64; omega, y + 1, ⟨⟨by omega, ?_, trivial⟩, trivial⟩, by omega, by omega⟩⟩
      rw [L.take_succ hlt, numsR_snoc, topOf_snoc]
    · have h1 : (x : Int) < 5 := of_decide_eq_true h1
      have h2 : ¬ (y : Int) < ((U.answersR d.2.1 (x : Int)).length : Int) := of_decide_eq_false h2
      rw [List.take_of_length_le (by omega)]
      refine ⟨fun h => ?_, fun _ => ⟨by unfold In64; omega, x + 1, ⟨⟨by omega, trivial⟩, trivial⟩, by omega, by omega⟩⟩
      exfalso
      obtain ⟨c1, c2⟩ := b4 x (by omega)
      have h : (decide ((x : Int) = B.1) && decide (U.mostR d.1 d.2.1 (x : Int) ≠ B.2) || decide (U.mostR d.1 d.2.1 (x : Int) < B.2) || decide ((x : Int) < B.1) && decide (U.mostR d.1 d.2.1 (x : Int) ≤ B.2)) = true := h
      simp only [Bool.or_eq_true, Bool.and_eq_true, decide_eq_true_eq] at h
      rcases h with (⟨h3, h4⟩ | h3) | ⟨h3, h4⟩
      · rw [h3] at h4; exact h4 b3
      · omega
      · have := c2 h3; omega
theorem ok7 : FnOK PR 7 sp7 := mkFn (vc7_eq.mpr h7) Tryz.func7 (by kernel_rfl) (by kernel_rfl) (by kernel_rfl) (by kernel_rfl) ⟨fun _ => ok15, fun _ => ok14, fun _ => ok16, fun _ => ok17, fun _ => ok18, fun _ => ok19, fun _ => ok20, fun _ => ok21, fun _ => ok22, fun _ => ok23, fun _ => ok24, fun _ => ok25, fun _ => ok26, fun _ => ok27, fun _ => ok28, fun _ => ok29, fun _ => ok30, fun _ => ok31, fun _ => ok32, fun _ => ok33, fun _ => ok34, fun _ => ok35, fun _ => ok36, fun _ => ok37, fun _ => ok38, fun _ => ok39, fun _ => ok40, fun _ => ok41, fun _ => ok42, fun _ => ok43, fun _ => ok44, fun _ => ok45a, fun _ => ok46, fun _ => ok47, fun _ => ok48, fun _ => ok49, trivial⟩ trivial

end Go.X
