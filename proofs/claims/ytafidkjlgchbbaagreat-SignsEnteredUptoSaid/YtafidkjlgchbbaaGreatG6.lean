/-
  Signs: bits, and what is seen of a form, plainly.
-/
import Derived.Test.YtafidkjlgchbbaaGreatG5
namespace Go.X
open Go.Proofs

/-! ### Books that are ready, and what is found in them -/

theorem long_iff {l : List ED} : U.long l = false ↔ l.length ≤ 60 ∧ ∀ x, x ∈ l → (U.mv (U.fm x)).length ≤ 20 := by
  unfold U.long
  rw [Bool.or_eq_false_iff, decide_eq_false_iff_not, List.any_eq_false]
  constructor
  · rintro ⟨h1, h2⟩
    exact ⟨by omega, fun x hx => by have := h1 x hx; rw [decide_eq_true_iff] at this; omega⟩
  · rintro ⟨h1, h2⟩
    exact ⟨fun x hx => by have := h2 x hx; rw [decide_eq_true_iff]; omega, by omega⟩
theorem far_long {l : List ED} (h : U.far l = false) : U.long l = false := by
  unfold U.far at h
  rw [Bool.or_eq_false_iff] at h; exact h.1
theorem long_copy {l : List ED} (h : U.long l = false) : l.length ≤ 1000 ∧ ∀ x, x ∈ l → (U.mv (U.fm x)).length ≤ 1000 := by
  obtain ⟨h1, h2⟩ := long_iff.1 h
  exact ⟨by omega, fun x hx => by have := h2 x hx; omega⟩
theorem ready_iff {l : List ED} : U.ready l = true ↔ U.far l = false ∧ U.chk l = 0 := by
  unfold U.ready
  rw [Bool.and_eq_true, Bool.not_eq_true', decide_eq_true_iff]
theorem ready_book {l : List ED} (h : U.ready l = true) : Book l := chk_iff.1 (ready_iff.1 h).2
theorem lookR_ok {l : List ED} (hb : Book l) {s : SnD} (hs : U.okS s = true) : U.lookR l s = 0 := by
  unfold U.lookR
  rw [if_neg (show ¬ U.chk l ≠ 0 by simp [chk_iff.2 hb]), if_neg (by rw [hs]; simp)]
theorem fnd_ok {l : List ED} (hb : Book l) {s : SnD} (hs : U.okS s = true) : U.fnd l s = (U.findR l s, 0, ()) := by
  rw [fnd_eq]; unfold U.fndR; rw [lookR_ok hb hs, if_neg (by simp)]
theorem findR_mem {l : List ED} (hb : Book l) {s : SnD} {n : Int} : n ∈ U.findR l s ↔ ∃ x, x ∈ l ∧ U.sg x = n ∧ U.agreesR x s = true := by
  unfold U.findR
  rw [findTo_mem]
  constructor
  · exact fun h => h.2
  · rintro ⟨x, hx, rfl, h⟩
    have := okE_sg (hb.ok x hx)
    exact ⟨⟨this.1, by omega⟩, x, hx, rfl, h⟩
theorem findR_asc (l : List ED) (s : SnD) : (U.findR l s).Pairwise (fun a b => a < b) := findTo_asc l s 1000
theorem findR_len {l : List ED} (hb : Book l) {s : SnD} (hs : U.okS s = true) : (U.findR l s).length ≤ l.length := by
  rw [← find_eq hb hb.reps (okS_seen hs)]
  refine Nat.le_trans (find_len _ _) ?_
  unfold U.vals
  rw [List.length_map, hb.opn]
  have := addTo_len [] l
  simpa using this
/-- the canon of a form and of its mirror form are the same -/
theorem canR_mir {f : FmD} (h : U.okForm f = true) : U.canR (U.mir f) = U.canR f := by
  have ha := order_ok.anti f (U.mir f)
  unfold U.canR
  rw [mir_mir h]
  by_cases h1 : U.order (U.mir f) f < 0
  · rw [if_pos h1, if_neg (by omega)]
  · rw [if_neg h1]
    by_cases h2 : U.order f (U.mir f) < 0
    · rw [if_pos h2]
    · rw [if_neg h2]
      exact (order_zero.1 (by omega))
theorem canR_or (f : FmD) : U.canR f = f ∨ U.canR f = U.mir f := by
  unfold U.canR; split
  · exact .inr rfl
  · exact .inl rfl
theorem canR_same {a b : FmD} (ha : U.okForm a = true) (hb : U.okForm b = true) : U.canR a = U.canR b ↔ a = b ∨ U.mir a = b := by
  constructor
  · intro h
    rcases canR_or a with e1 | e1 <;> rcases canR_or b with e2 | e2
    · exact .inl (by rw [← e1, ← e2, h])
    · refine .inr ?_
      have : a = U.mir b := by rw [← e1, ← e2, h]
      rw [this, mir_mir hb]
    · exact .inr (by rw [← e1, ← e2, h])
    · refine .inl ?_
      have : U.mir a = U.mir b := by rw [← e1, ← e2, h]
      rw [← mir_mir ha, this, mir_mir hb]
  · rintro (rfl | rfl)
    · rfl
    · exact (canR_mir ha).symm
theorem canF_ok {f : FmD} (h : U.okForm f = true) : U.canF f = (U.canR f, 0, ()) := by rw [canF_eq]; unfold U.canRF; rw [if_pos h]
theorem comF_ok {a b : FmD} (ha : U.okForm a = true) (hb : U.okForm b = true) : U.comF a b = (U.order (U.canR a) (U.canR b), 0, ()) := by
  rw [comF_eq]; unfold U.comRF; rw [if_pos ⟨ha, hb⟩]
theorem pow_le {k m : Nat} (h : k ≤ m) : (1 : Int) ≤ 2 ^ k ∧ (2 : Int) ^ k ≤ 2 ^ m := by
  have h1 : (1 : Nat) ≤ 2 ^ k := Nat.one_le_two_pow
  have h2 : (2 : Nat) ^ k ≤ 2 ^ m := Nat.pow_le_pow_right (by decide) h
  have e : ∀ j : Nat, ((2 : Int) ^ j) = ((2 ^ j : Nat) : Int) := fun j => by simp
  rw [e, e]
  omega
theorem has_range {N n : Int} (h : U.has N n = true) : 0 ≤ n ∧ U.bit N n = true := by
  unfold U.has at h
  rw [Bool.and_eq_true, decide_eq_true_iff] at h
  exact ⟨h.1.1, h.2⟩
theorem bit_small {N : Int} {m : Nat} (hN : 1 ≤ N) (hm : N < 2 ^ m) (hm2 : m ≤ 62) {n : Int} (h0 : 0 ≤ n) (h : U.bit N n = true) : n.toNat < m := by
  obtain ⟨k, rfl⟩ : ∃ k : Nat, N = (k : Int) := ⟨N.toNat, by omega⟩
  obtain ⟨i, rfl⟩ : ∃ i : Nat, n = (i : Int) := ⟨n.toNat, by omega⟩
  have hk : k < 2 ^ m := by
    have e : ((2 : Int) ^ m) = ((2 ^ m : Nat) : Int) := by simp
    rw [e] at hm; omega
  have hk2 : k < 2 ^ 63 := Nat.lt_of_lt_of_le hk (Nat.pow_le_pow_right (by decide) (by omega))
  rw [bit_nat hk2] at h
  have := Nat.ge_two_pow_of_testBit h
  show i < m
  rcases Nat.lt_or_ge i m with h1 | h1
  · exact h1
  · have := Nat.pow_le_pow_right (n := 2) (by decide) h1
    omega
theorem okS_iff {s : SnD} : U.okS s = true ↔ (1 ≤ U.rights s ∧ U.rights s ≤ 8589934591 ∧ 1 ≤ U.lefts s ∧ U.lefts s ≤ 8589934591 ∧ 1 ≤ U.faces s ∧ U.faces s ≤ 255 ∧ 1 ≤ U.rgs s ∧ U.rgs s ≤ 255 ∧ U.lo (U.cols s) ≤ U.hi (U.cols s) ∧ U.lo (U.rows s) ≤ U.hi (U.rows s) ∧ U.lo (U.ages s) ≤ U.hi (U.ages s) ∧ (U.mvs s).length ≤ 6 ∧ 0 ≤ U.lost s ∧ U.lost s ≤ 6) ∧ (U.mvs s).all U.okSet = true := by
  unfold U.okS; rw [Bool.and_eq_true, decide_eq_true_iff]
theorem ask_none {l : List ED} (hb : Book l) {s : SnD} (hs : U.okS s = true) (h : U.findR l s = []) : U.ask l s = (0, 0, 3, ()) := by
  rw [ask_eq]; unfold U.askR; rw [lookR_ok hb hs, if_neg (by simp), if_pos h]
theorem ask_some {l : List ED} (hb : Book l) {s : SnD} (hs : U.okS s = true) (h : U.findR l s ≠ []) : U.ask l s = ((U.bestR l s 5).1, (U.bestR l s 5).2, 0, ()) := by
  rw [ask_eq]; unfold U.askR; rw [lookR_ok hb hs, if_neg (by simp), if_neg h]
theorem findR_1000 (l : List ED) (s : SnD) : (U.findR l s).length ≤ 1000 := findTo_len l s 1000

/-! ### Bits -/

theorem two_nat (k : Nat) : (2 : Int) ^ k = ((2 ^ k : Nat) : Int) := by simp
theorem pow63 {k : Nat} (h : k ≤ 62) : 2 ^ k < 2 ^ 63 := Nat.pow_lt_pow_right (by decide) (by omega)
theorem bit_two {k : Nat} (hk : k ≤ 62) {n : Int} (hn : 0 ≤ n) : U.bit ((2 : Int) ^ k) n = decide (n = (k : Int)) := by
  obtain ⟨i, rfl⟩ : ∃ i : Nat, n = (i : Int) := ⟨n.toNat, by omega⟩
  rw [two_nat, bit_nat (pow63 hk), Nat.testBit_two_pow]
  exact decide_eq_decide.2 ⟨fun h => by omega, fun h => by omega⟩
theorem band_one {x : Int} (h0 : 0 ≤ x) (h1 : x < 2 ^ 62) {r : Int} (hr : 0 ≤ r) : band (x / 2 ^ r.toNat) 1 ≠ 0 ↔ U.bit x r = true := by
  obtain ⟨n, rfl⟩ : ∃ n : Nat, x = (n : Int) := ⟨x.toNat, by omega⟩
  have hn : n < 2 ^ 63 := by omega
  have hd : n / 2 ^ r.toNat < 2 ^ 63 := Nat.lt_of_le_of_lt (Nat.div_le_self _ _) hn
  unfold U.bit
  rw [decide_eq_true_iff, div_nat, show (1 : Int) = ((1 : Nat) : Int) from rfl, band_nat hd (by decide)]
  have := Nat.and_one_is_mod (n / 2 ^ r.toNat)
  omega
theorem band_two {x : Int} (h0 : 0 ≤ x) (h1 : x < 2 ^ 62) {r : Nat} (hr : r ≤ 62) : band x ((2 : Int) ^ r) ≠ 0 ↔ U.bit x (r : Int) = true := by
  obtain ⟨n, rfl⟩ : ∃ n : Nat, x = (n : Int) := ⟨x.toNat, by omega⟩
  have hn : n < 2 ^ 63 := by omega
  rw [two_nat, band_nat hn (pow63 hr), bit_nat hn]
  constructor
  · intro h
    cases e : n.testBit r with
    | true => rfl
    | false =>
      refine absurd ?_ h
      have : n &&& 2 ^ r = 0 := Nat.eq_of_testBit_eq (fun i => by
        rw [Nat.testBit_and, Nat.testBit_two_pow, Nat.zero_testBit]
        by_cases h : r = i
        · subst h; rw [e]; rfl
        · rw [decide_eq_false h, Bool.and_false])
      rw [this]; rfl
  · intro h hz
    have hz : n &&& 2 ^ r = 0 := by omega
    have := congrArg (fun k => k.testBit r) hz
    simp [h, Nat.testBit_two_pow] at this
theorem band_both {x y : Int} (h0 : 0 ≤ x) (h1 : x < 2 ^ 62) (h2 : 0 ≤ y) (h3 : y < 2 ^ 62) {r : Nat} (hx : U.bit x (r : Int) = true) (hy : U.bit y (r : Int) = true) : band x y ≠ 0 := by
  obtain ⟨n, rfl⟩ : ∃ n : Nat, x = (n : Int) := ⟨x.toNat, by omega⟩
  obtain ⟨m, rfl⟩ : ∃ m : Nat, y = (m : Int) := ⟨y.toNat, by omega⟩
  rw [bit_nat (by omega)] at hx hy
  rw [band_nat (by omega) (by omega)]
  intro h
  have h : n &&& m = 0 := by omega
  have := congrArg (fun k => k.testBit r) h
  simp [hx, hy] at this
theorem bor_nat {a b : Nat} (ha : a < 2 ^ 63) (hb : b < 2 ^ 63) : bor (a : Int) (b : Int) = ((a ||| b : Nat) : Int) := by
  unfold bor
  rw [BitVec.toNat_or, ofInt_nat ha, ofInt_nat hb, wrap_nat (Nat.or_lt_two_pow ha hb)]
theorem bor_range {a b : Int} {m : Nat} (hm : m ≤ 62) (ha : 0 ≤ a ∧ a < 2 ^ m) (hb : 0 ≤ b ∧ b < 2 ^ m) : 0 ≤ bor a b ∧ bor a b < 2 ^ m ∧ a ≤ bor a b ∧ b ≤ bor a b := by
  obtain ⟨n, rfl⟩ : ∃ n : Nat, a = (n : Int) := ⟨a.toNat, by omega⟩
  obtain ⟨k, rfl⟩ : ∃ k : Nat, b = (k : Int) := ⟨b.toNat, by omega⟩
  have e := two_nat m
  have hn : n < 2 ^ m := by omega
  have hk : k < 2 ^ m := by omega
  have hp := pow63 hm
  rw [bor_nat (by omega) (by omega)]
  have h1 := Nat.or_lt_two_pow hn hk
  have h2 : n ≤ n ||| k := Nat.left_le_or
  have h3 : k ≤ n ||| k := Nat.right_le_or
  omega
theorem bit_bor {a b : Int} (ha : 0 ≤ a ∧ a < 2 ^ 62) (hb : 0 ≤ b ∧ b < 2 ^ 62) {n : Int} (hn : 0 ≤ n) : U.bit (bor a b) n = (U.bit a n || U.bit b n) := by
  obtain ⟨x, rfl⟩ : ∃ x : Nat, a = (x : Int) := ⟨a.toNat, by omega⟩
  obtain ⟨y, rfl⟩ : ∃ y : Nat, b = (y : Int) := ⟨b.toNat, by omega⟩
  obtain ⟨i, rfl⟩ : ∃ i : Nat, n = (i : Int) := ⟨n.toNat, by omega⟩
  have hp : x ||| y < 2 ^ 62 := Nat.or_lt_two_pow (by omega) (by omega)
  rw [bor_nat (by omega) (by omega), bit_nat (by omega), bit_nat (by omega), bit_nat (by omega), Nat.testBit_or]
theorem band_mask {a : Int} (h : In64 a) {m : Nat} (hm : m ≤ 62) : 0 ≤ band a (2 ^ m - 1) ∧ band a (2 ^ m - 1) < 2 ^ m := by
  have hp : 1 ≤ 2 ^ m := Nat.one_le_two_pow
  have e : (2 : Int) ^ m - 1 = ((2 ^ m - 1 : Nat) : Int) := by rw [two_nat]; omega
  have hlt : 2 ^ m - 1 < 2 ^ 63 := by have := pow63 hm; omega
  unfold band
  rw [e, BitVec.toNat_and, ofInt_nat hlt]
  have h1 : (BitVec.ofInt 64 a).toNat &&& (2 ^ m - 1) ≤ 2 ^ m - 1 := Nat.and_le_right
  rw [wrap_nat (by omega), two_nat]
  omega
/-- what a set has in common with another is not less with more elements -/
theorem band_mono {x a b : Int} (hx : 0 ≤ x ∧ x < 2 ^ 62) (ha : 0 ≤ a ∧ a < 2 ^ 62) (hb : 0 ≤ b ∧ b < 2 ^ 62) (h : band x a ≠ 0) : band x (bor a b) ≠ 0 := by
  obtain ⟨n, rfl⟩ : ∃ n : Nat, x = (n : Int) := ⟨x.toNat, by omega⟩
  obtain ⟨k, rfl⟩ : ∃ k : Nat, a = (k : Int) := ⟨a.toNat, by omega⟩
  obtain ⟨m, rfl⟩ : ∃ m : Nat, b = (m : Int) := ⟨b.toNat, by omega⟩
  have hp : k ||| m < 2 ^ 62 := Nat.or_lt_two_pow (by omega) (by omega)
  rw [bor_nat (by omega) (by omega), band_nat (by omega) (by omega)]
  rw [band_nat (by omega) (by omega)] at h
  intro hz
  have hz : n &&& (k ||| m) = 0 := by omega
  apply h
  have : n &&& k = 0 := Nat.eq_of_testBit_eq (fun i => by
    have := congrArg (fun q => q.testBit i) hz
    simp only [Nat.testBit_and, Nat.testBit_or, Nat.zero_testBit] at this ⊢
    revert this; cases n.testBit i <;> cases k.testBit i <;> simp)
  rw [this]; rfl

end Go.X
/-
  Signs: the law of the desk.
-/
namespace Go.X
open Go.Proofs

abbrev tMs : Ty := .st [.int, .int, .int]
abbrev MsD : Type := Int × Int × Int × Unit
namespace U
def setFm (y : ED) (f : FmD) : ED := (id' y, sg y, rg y, f, ag y, ())
/-- the entry that is entered at a place -/
def messAt (l : List ED) (x : MsD) (i : Nat) : ED := if i < 30 ∧ bit x.2.2.1 (i : Int) = true then setFm (nth l (((i : Int) + x.1).tmod (l.length : Int)).toNat) (mir (fm (nth l (((i : Int) + x.1).tmod (l.length : Int)).toNat))) else nth l (((i : Int) + x.1).tmod (l.length : Int)).toNat
def messTo (l : List ED) (x : MsD) (n : Nat) : List ED := (List.range n).map (messAt l x)
end U

def sp13 : Spec := lawSpec [.slice tE, tSn, tMs]
def an13 : Ann := fun r => match r with
  | 5 => some fun σ => { X := Nat, sl := fun i => [(8, .dat .int (i : Int)), (7, .own 7 tE)], ob := fun i => [(7, some (.row 44 tE false .yes (U.messTo (gd (.slice tE) σ 0) (gd tMs σ 2) i)))], inv := fun i => i ≤ (gd (.slice tE) σ 0).length, mu := fun i => (gd (.slice tE) σ 0).length - i }
  | _ => none
def vc13 : Prop :=
  ∀
  (d :
  List ED ×
  SnD × (Int × Int × Int × Unit) × Unit),
  fitsAll 1048576
  [(Ty.int.pair (Ty.int.pair (Ty.int.pair ((Ty.int.pair (Ty.int.pair (Ty.int.pair (Ty.int.pair (Ty.int.pair (Ty.int.slice.pair Ty.unit)))))).pair ((Ty.int.pair (Ty.int.pair Ty.unit)).pair Ty.unit))))).slice,
  Ty.int.pair (Ty.int.pair (Ty.int.pair (Ty.int.pair (Ty.int.pair ((Ty.int.pair (Ty.int.pair Ty.unit)).pair ((Ty.int.pair (Ty.int.pair Ty.unit)).pair ((Ty.int.pair (Ty.int.pair Ty.unit)).pair (Ty.int.slice.pair Ty.unit)))))))),
  Ty.int.pair (Ty.int.pair (Ty.int.pair Ty.unit))]
  d →
  ((!!U.ready d.1) = true → d.1.length < 4611686018427387904) →
  ((!(!U.ready d.1 || decide (11 < (d.1.length : Int)))) = true → d.2.1.2.2.2.2.2.2.2.2.1.length < 4611686018427387904) →
  ((!U.ready d.1 || decide (11 < (d.1.length : Int)) || decide (20 < (d.2.1.2.2.2.2.2.2.2.2.1.length : Int)) || !U.okS d.2.1 || decide (d.2.2.1.1 < (0 : Int)) ||
  decide ((1000 : Int) < d.2.2.1.1) ||
  decide (d.2.2.1.2.1 < (0 : Int)) ||
  decide (d.2.2.1.2.2.1 < (0 : Int))) =
  true →
  (true, ()) = (true, ())) ∧
  ((!U.ready d.1 || decide (11 < (d.1.length : Int)) || decide (20 < (d.2.1.2.2.2.2.2.2.2.2.1.length : Int)) || !U.okS d.2.1 || decide (d.2.2.1.1 < (0 : Int)) ||
  decide ((1000 : Int) < d.2.2.1.1) ||
  decide (d.2.2.1.2.1 < (0 : Int)) ||
  decide (d.2.2.1.2.2.1 < (0 : Int))) =
  false →
  (∃ (x : Nat), (((0 : Int) = (x : Int) ∧ True ∧ True) ∧ U.messTo d.1 d.2.2.1 x = [] ∧ True) ∧ x ≤ d.1.length) ∧
  ∀ (x : Nat),
  x ≤ d.1.length →
  d.1.length < 4611686018427387904 →
  (decide ((x : Int) < (d.1.length : Int)) = true →
  In64 ((x : Int) + d.2.2.1.1) ∧
  (d.1.length < 4611686018427387904 →
  (d.1.length : Int) ≠ (0 : Int) ∧
  (0 : Int) ≤ ((x : Int) + d.2.2.1.1).tmod (d.1.length : Int) ∧
  ((x : Int) + d.2.2.1.1).tmod (d.1.length : Int) < (d.1.length : Int) ∧
  (decide ((x : Int) < (30 : Int)) = true → 0 ≤ (x : Int)) ∧
  (decide ((x : Int) < (30 : Int)) = true → (x : Int) ≤ (18446744073709551615 : Int)) ∧
  (decide ((x : Int) < (30 : Int)) = true → 0 ≤ (x : Int)) ∧
  (decide ((x : Int) < (30 : Int)) = true → (x : Int) ≤ (64 : Int)) ∧
  ((decide ((x : Int) < (30 : Int)) && decide (band (d.2.2.1.2.2.1 / (2 : Int) ^ (x : Int).toNat) (1 : Int) = (1 : Int))) = true →
  U.okForm (nth d.1 (((x : Int) + d.2.2.1.1).tmod (d.1.length : Int)).toNat).2.2.2.1 = true ∧
  ((U.messTo d.1 d.2.2.1 x).length +
  [((nth d.1 (((x : Int) + d.2.2.1.1).tmod (d.1.length : Int)).toNat).1, (nth d.1 (((x : Int) + d.2.2.1.1).tmod (d.1.length : Int)).toNat).2.1,
  (nth d.1 (((x : Int) + d.2.2.1.1).tmod (d.1.length : Int)).toNat).2.2.1,
  U.mir (nth d.1 (((x : Int) + d.2.2.1.1).tmod (d.1.length : Int)).toNat).2.2.2.1,
  (nth d.1 (((x : Int) + d.2.2.1.1).tmod (d.1.length : Int)).toNat).2.2.2.2)].length) *
  104 ≤
  140737488355328 ∧
  In64 ((x : Int) + 1) ∧
  ∃ (x' : Nat),
  (((x : Int) + 1 = (x' : Int) ∧ True ∧ True) ∧
  U.messTo d.1 d.2.2.1 x ++
  [((nth d.1 (((x : Int) + d.2.2.1.1).tmod (d.1.length : Int)).toNat).1, (nth d.1 (((x : Int) + d.2.2.1.1).tmod (d.1.length : Int)).toNat).2.1,
  (nth d.1 (((x : Int) + d.2.2.1.1).tmod (d.1.length : Int)).toNat).2.2.1,
  U.mir (nth d.1 (((x : Int) + d.2.2.1.1).tmod (d.1.length : Int)).toNat).2.2.2.1,
  (nth d.1 (((x : Int) + d.2.2.1.1).tmod (d.1.length : Int)).toNat).2.2.2.2)] =
  U.messTo d.1 d.2.2.1 x' ∧
  True) ∧
  x' ≤ d.1.length ∧ d.1.length - x' < d.1.length - x) ∧
  ((decide ((x : Int) < (30 : Int)) && decide (band (d.2.2.1.2.2.1 / (2 : Int) ^ (x : Int).toNat) (1 : Int) = (1 : Int))) = false →
  ((U.messTo d.1 d.2.2.1 x).length + [nth d.1 (((x : Int) + d.2.2.1.1).tmod (d.1.length : Int)).toNat].length) * 104 ≤ 140737488355328 ∧
  In64 ((x : Int) + 1) ∧
  ∃ (x' : Nat),
  (((x : Int) + 1 = (x' : Int) ∧ True ∧ True) ∧
  U.messTo d.1 d.2.2.1 x ++ [nth d.1 (((x : Int) + d.2.2.1.1).tmod (d.1.length : Int)).toNat] = U.messTo d.1 d.2.2.1 x' ∧ True) ∧
  x' ≤ d.1.length ∧ d.1.length - x' < d.1.length - x))) ∧
  (decide ((x : Int) < (d.1.length : Int)) = false →
  (U.messTo d.1 d.2.2.1 x).length < 4611686018427387904 →
  (decide (d.2.2.1.2.1 < (↑(U.messTo d.1 d.2.2.1 x).length : Int)) = true →
  (0 : Int) ≤ d.2.2.1.2.1 ∧
  d.2.2.1.2.1 < (↑(U.messTo d.1 d.2.2.1 x).length : Int) ∧
  ((U.messTo d.1 d.2.2.1 x).length + [nth (U.messTo d.1 d.2.2.1 x) d.2.2.1.2.1.toNat].length) * 104 ≤ 140737488355328 ∧
  ((decide ((U.ord d.1).2.1 ≠ (0 : Int)) || decide ((U.ord (U.messTo d.1 d.2.2.1 x ++ [nth (U.messTo d.1 d.2.2.1 x) d.2.2.1.2.1.toNat])).2.1 ≠ (0 : Int)) ||
  decide ((U.fnd d.1 d.2.1).2.1 ≠ (0 : Int)) ||
  decide ((U.fnd (U.messTo d.1 d.2.2.1 x ++ [nth (U.messTo d.1 d.2.2.1 x) d.2.2.1.2.1.toNat]) d.2.1).2.1 ≠ (0 : Int)) ||
  !decide ((U.ord d.1).1 = (U.ord (U.messTo d.1 d.2.2.1 x ++ [nth (U.messTo d.1 d.2.2.1 x) d.2.2.1.2.1.toNat])).1) ||
  !decide ((U.fnd d.1 d.2.1).1 = (U.fnd (U.messTo d.1 d.2.2.1 x ++ [nth (U.messTo d.1 d.2.2.1 x) d.2.2.1.2.1.toNat]) d.2.1).1)) =
  true →
  (false, ()) = (true, ())) ∧
  ((decide ((U.ord d.1).2.1 ≠ (0 : Int)) || decide ((U.ord (U.messTo d.1 d.2.2.1 x ++ [nth (U.messTo d.1 d.2.2.1 x) d.2.2.1.2.1.toNat])).2.1 ≠ (0 : Int)) ||
  decide ((U.fnd d.1 d.2.1).2.1 ≠ (0 : Int)) ||
  decide ((U.fnd (U.messTo d.1 d.2.2.1 x ++ [nth (U.messTo d.1 d.2.2.1 x) d.2.2.1.2.1.toNat]) d.2.1).2.1 ≠ (0 : Int)) ||
  !decide ((U.ord d.1).1 = (U.ord (U.messTo d.1 d.2.2.1 x ++ [nth (U.messTo d.1 d.2.2.1 x) d.2.2.1.2.1.toNat])).1) ||
  !decide ((U.fnd d.1 d.2.1).1 = (U.fnd (U.messTo d.1 d.2.2.1 x ++ [nth (U.messTo d.1 d.2.2.1 x) d.2.2.1.2.1.toNat]) d.2.1).1)) =
  false →
  (decide ((U.ask d.1 d.2.1).1 = (U.ask (U.messTo d.1 d.2.2.1 x ++ [nth (U.messTo d.1 d.2.2.1 x) d.2.2.1.2.1.toNat]) d.2.1).1) &&
  decide ((U.ask d.1 d.2.1).2.1 = (U.ask (U.messTo d.1 d.2.2.1 x ++ [nth (U.messTo d.1 d.2.2.1 x) d.2.2.1.2.1.toNat]) d.2.1).2.1) &&
  decide
  ((U.ask d.1 d.2.1).2.2.1 = (U.ask (U.messTo d.1 d.2.2.1 x ++ [nth (U.messTo d.1 d.2.2.1 x) d.2.2.1.2.1.toNat]) d.2.1).2.2.1) &&
  decide ((U.twn d.1).2.1 = (0 : Int)) &&
  decide ((U.twn (U.messTo d.1 d.2.2.1 x ++ [nth (U.messTo d.1 d.2.2.1 x) d.2.2.1.2.1.toNat])).2.1 = (0 : Int)) &&
  decide ((U.mrg [] d.1).2.1 = (0 : Int)) &&
  decide ((U.mrg (U.messTo d.1 d.2.2.1 x ++ [nth (U.messTo d.1 d.2.2.1 x) d.2.2.1.2.1.toNat]) []).2.1 = (0 : Int)) &&
  decide ((U.twn d.1).1 = (U.twn (U.messTo d.1 d.2.2.1 x ++ [nth (U.messTo d.1 d.2.2.1 x) d.2.2.1.2.1.toNat])).1) &&
  U.sameB (U.mrg [] d.1).1 (U.mrg (U.messTo d.1 d.2.2.1 x ++ [nth (U.messTo d.1 d.2.2.1 x) d.2.2.1.2.1.toNat]) []).1 &&
  true,
  ()) =
  (true, ()))) ∧
  (decide (d.2.2.1.2.1 < (↑(U.messTo d.1 d.2.2.1 x).length : Int)) = false →
  ((decide ((U.ord d.1).2.1 ≠ (0 : Int)) || decide ((U.ord (U.messTo d.1 d.2.2.1 x)).2.1 ≠ (0 : Int)) || decide ((U.fnd d.1 d.2.1).2.1 ≠ (0 : Int)) ||
  decide ((U.fnd (U.messTo d.1 d.2.2.1 x) d.2.1).2.1 ≠ (0 : Int)) ||
  !decide ((U.ord d.1).1 = (U.ord (U.messTo d.1 d.2.2.1 x)).1) ||
  !decide ((U.fnd d.1 d.2.1).1 = (U.fnd (U.messTo d.1 d.2.2.1 x) d.2.1).1)) =
  true →
  (false, ()) = (true, ())) ∧
  ((decide ((U.ord d.1).2.1 ≠ (0 : Int)) || decide ((U.ord (U.messTo d.1 d.2.2.1 x)).2.1 ≠ (0 : Int)) || decide ((U.fnd d.1 d.2.1).2.1 ≠ (0 : Int)) ||
  decide ((U.fnd (U.messTo d.1 d.2.2.1 x) d.2.1).2.1 ≠ (0 : Int)) ||
  !decide ((U.ord d.1).1 = (U.ord (U.messTo d.1 d.2.2.1 x)).1) ||
  !decide ((U.fnd d.1 d.2.1).1 = (U.fnd (U.messTo d.1 d.2.2.1 x) d.2.1).1)) =
  false →
  (decide ((U.ask d.1 d.2.1).1 = (U.ask (U.messTo d.1 d.2.2.1 x) d.2.1).1) && decide ((U.ask d.1 d.2.1).2.1 = (U.ask (U.messTo d.1 d.2.2.1 x) d.2.1).2.1) &&
  decide ((U.ask d.1 d.2.1).2.2.1 = (U.ask (U.messTo d.1 d.2.2.1 x) d.2.1).2.2.1) &&
  decide ((U.twn d.1).2.1 = (0 : Int)) &&
  decide ((U.twn (U.messTo d.1 d.2.2.1 x)).2.1 = (0 : Int)) &&
  decide ((U.mrg [] d.1).2.1 = (0 : Int)) &&
  decide ((U.mrg (U.messTo d.1 d.2.2.1 x) []).2.1 = (0 : Int)) &&
  decide ((U.twn d.1).1 = (U.twn (U.messTo d.1 d.2.2.1 x)).1) &&
  U.sameB (U.mrg [] d.1).1 (U.mrg (U.messTo d.1 d.2.2.1 x) []).1 &&
  true,
  ()) =
  (true, ())))))

theorem vc13_eq : fnVC (ctx 244 ((15, sp15) :: FS) []) (an13) Tryz.f13 (bodyOf Tryz.f13) sp13 = vc13 := by kernel_rfl


end Go.X
/-
  Signs: the desk.
-/
namespace Go.X
open Go.Proofs

/-- two books with the same entries, but for the order, how often they come, and mirror forms -/
structure Alike (a b : List ED) : Prop where
  ha : Book a
  hb : Book b
  to : ∀ x, x ∈ a → ∃ y, y ∈ b ∧ U.canRE x = U.canRE y
  fro : ∀ y, y ∈ b → ∃ x, x ∈ a ∧ U.canRE y = U.canRE x
theorem Alike.symm {a b : List ED} (h : Alike a b) : Alike b a := ⟨h.hb, h.ha, h.fro, h.to⟩
theorem eq_id {x y : ED} (h : U.canRE x = U.canRE y) : U.id' x = U.id' y := eqAt U.id' (x := U.canRE x) (y := U.canRE y) h
theorem eq_sg {x y : ED} (h : U.canRE x = U.canRE y) : U.sg x = U.sg y := eqAt U.sg (x := U.canRE x) (y := U.canRE y) h
theorem eq_rg {x y : ED} (h : U.canRE x = U.canRE y) : U.rg x = U.rg y := eqAt U.rg (x := U.canRE x) (y := U.canRE y) h
theorem eq_ag {x y : ED} (h : U.canRE x = U.canRE y) : U.ag x = U.ag y := eqAt U.ag (x := U.canRE x) (y := U.canRE y) h
theorem eq_fm {x y : ED} (h : U.canRE x = U.canRE y) : U.canR (U.fm x) = U.canR (U.fm y) := eqAt U.fm (x := U.canRE x) (y := U.canRE y) h
theorem alike_first {a b : List ED} (h : Alike a b) (n : Nat) : U.firstOf a n = U.firstOf b n := by
  rcases firstOf_one a n with e | ⟨x, hx, hid, e⟩
  · rw [e]
    refine (firstOf_nil.2 (fun y hy hn => ?_)).symm
    obtain ⟨x, hx, hc⟩ := h.fro y hy
    have := eq_id hc
    exact firstOf_nil.1 e x hx (by omega)
  · obtain ⟨y, hy, hc⟩ := h.to x hx
    have := eq_id hc
    obtain ⟨z, hz, hzid, e2⟩ := firstOf_of hy (n := n) (by omega)
    rw [e, e2, hc, h.hb.nc y hy z hz (by omega)]
theorem alike_dist {a b : List ED} (h : Alike a b) : U.dist a = U.dist b := dist_congr (alike_first h)
theorem chk_book {l : List ED} (h : Book l) : U.chk l = 0 := chk_iff.2 h
theorem alike_ord {a b : List ED} (h : Alike a b) : U.ord a = U.ord b ∧ (U.ord a).2.1 = 0 := by
  rw [ord_eq, ord_eq]
  unfold U.ordR
  rw [chk_book h.ha, chk_book h.hb, if_neg (by simp), if_neg (by simp), alike_dist h]
  exact ⟨rfl, rfl⟩
theorem agrees_alike {s : SnD} (hs : SeenOk s) {x y : ED} (hx : U.okE x = true) (hy : U.okE y = true) (h : U.canRE x = U.canRE y) : U.agreesR x s = U.agreesR y s := by
  rw [← agrees_eq hs hx, ← agrees_eq hs hy, h]
theorem alike_find {a b : List ED} (h : Alike a b) {s : SnD} (hs : SeenOk s) : U.findR a s = U.findR b s := by
  refine strict_unique (fun x => by omega) (fun x y z h1 h2 => by omega) (findR_asc a s) (findR_asc b s) (fun n => ?_)
  rw [findR_mem h.ha, findR_mem h.hb]
  constructor
  · rintro ⟨x, hx, hn, hag⟩
    obtain ⟨y, hy, hc⟩ := h.to x hx
    exact ⟨y, hy, by rw [← eq_sg hc, hn], by rw [← agrees_alike hs (h.ha.ok x hx) (h.hb.ok y hy) hc, hag]⟩
  · rintro ⟨y, hy, hn, hag⟩
    obtain ⟨x, hx, hc⟩ := h.fro y hy
    exact ⟨x, hx, by rw [← eq_sg hc, hn], by rw [← agrees_alike hs (h.hb.ok y hy) (h.ha.ok x hx) hc, hag]⟩
theorem alike_most {a b : List ED} (h : Alike a b) {s : SnD} (hs : SeenOk s) (p : Int) : U.mostR a s p = U.mostR b s p := by
  unfold U.mostR U.numsR
  exact congrArg U.topOf (List.map_congr_left (fun o ho => by rw [alike_find h (answersR_seen hs ho)]))
theorem alike_best {a b : List ED} (h : Alike a b) {s : SnD} (hs : SeenOk s) : ∀ p : Nat, U.bestR a s p = U.bestR b s p
  | 0 => rfl
  | p + 1 => by
    have e1 : ∀ l : List ED, U.bestR l s (p + 1) = if (decide ((U.bestR l s p).1 < 0) || decide (U.mostR l s (p : Int) < (U.bestR l s p).2)) = true then ((p : Int), U.mostR l s (p : Int)) else U.bestR l s p := fun _ => rfl
    rw [e1, e1, alike_best h hs p, alike_most h hs]
theorem alike_ask {a b : List ED} (h : Alike a b) {s : SnD} (hs : U.okS s = true) : U.ask a s = U.ask b s := by
  have hS := okS_seen hs
  rw [ask_eq, ask_eq]
  unfold U.askR
  rw [lookR_ok h.ha hs, lookR_ok h.hb hs, alike_find h hS, alike_best h hS]
theorem twinR_def (u v : ED) : U.twinR u v = (decide (U.order (U.canR (U.fm u)) (U.canR (U.fm v)) = 0) && decide (band (U.rg u) (U.rg v) ≠ 0) && decide (max (U.lo (U.ag u)) (U.lo (U.ag v)) ≤ min (U.hi (U.ag u)) (U.hi (U.ag v)))) := rfl
theorem twin_alike {u v u' v' : ED} (h1 : U.canRE u = U.canRE u') (h2 : U.canRE v = U.canRE v') : U.twinR u v = U.twinR u' v' := by
  rw [twinR_def, twinR_def, eq_fm h1, eq_fm h2, eq_rg h1, eq_rg h2, eq_ag h1, eq_ag h2]
theorem alike_rows {a b : List ED} (h : Alike a b) {p : PaD} (hp : p ∈ U.rowsTo a (U.signsR a) (U.signsR a).length) : p ∈ U.rowsTo b (U.signsR b) (U.signsR b).length := by
  obtain ⟨u, hu, v, hv, hlt, ht, e⟩ := (twins_mem h.ha.ok).1 hp
  obtain ⟨u', hu', c1⟩ := h.to u hu
  obtain ⟨v', hv', c2⟩ := h.to v hv
  refine (twins_mem h.hb.ok).2 ⟨u', hu', v', hv', ?_, ?_, ?_⟩
  · rw [← eq_sg c1, ← eq_sg c2]; exact hlt
  · rw [← twin_alike c1 c2]; exact ht
  · rw [← eq_sg c1, ← eq_sg c2]; exact e
theorem twn_book {l : List ED} (hb : Book l) : U.twn l = (U.rowsTo l (U.signsR l) (U.signsR l).length, 0, ()) := by
  rw [twn_eq]; unfold U.twnR; rw [chk_book hb, if_neg (by simp)]
theorem alike_twn {a b : List ED} (h : Alike a b) : U.twn a = U.twn b ∧ (U.twn a).2.1 = 0 := by
  have e : U.rowsTo a (U.signsR a) (U.signsR a).length = U.rowsTo b (U.signsR b) (U.signsR b).length :=
    strict_unique (lt := fun a b => U.cmpP a b < 0) (fun x h => by have := cmpP_ok.refl x; omega) (fun x y z h1 h2 => cmpP_ok.lt_le h1 (by omega)) (rows_asc (signs_asc a 1000) _ (Nat.le_refl _)) (rows_asc (signs_asc b 1000) _ (Nat.le_refl _)) (fun _ => ⟨alike_rows h, alike_rows h.symm⟩)
  rw [twn_book h.ha, twn_book h.hb, e]
  exact ⟨rfl, rfl⟩
theorem book_nil : Book [] := ⟨by simp, by simp, by intro x hx; simp at hx⟩
theorem dist_le {l : List ED} (hb : Book l) : (U.dist l).length ≤ 40 := by
  rw [← hb.perm.length_eq]; exact vals_len l
theorem mrg_left {l : List ED} (hb : Book l) : U.mrg [] l = (U.dist l, 0, ()) := by
  rw [mrg_eq]; unfold U.mrgR
  rw [chk_book book_nil, chk_book hb, if_neg (by simp), if_neg (by simp), List.nil_append, if_neg (by have := dist_le hb; omega), if_neg (by rw [clash_iff.2 hb.nc]; simp)]
theorem mrg_right {l : List ED} (hb : Book l) : U.mrg l [] = (U.dist l, 0, ()) := by
  rw [mrg_eq]; unfold U.mrgR
  rw [chk_book book_nil, chk_book hb, if_neg (by simp), if_neg (by simp), List.append_nil, if_neg (by have := dist_le hb; omega), if_neg (by rw [clash_iff.2 hb.nc]; simp)]

/-! ### What is entered -/

theorem setFm_can {y : ED} (h : U.okE y = true) : U.okE (U.setFm y (U.mir (U.fm y))) = true ∧ U.canRE (U.setFm y (U.mir (U.fm y))) = U.canRE y := by
  have hf := okE_form h
  refine ⟨?_, ?_⟩
  · unfold U.okE at *
    rw [Bool.and_eq_true] at *
    exact ⟨h.1, mir_ok hf⟩
  · show (U.id' y, U.sg y, U.rg y, U.canR (U.mir (U.fm y)), U.ag y, ()) = _
    rw [canR_mir hf]; rfl
theorem mess_at {l : List ED} (hb : Book l) {x : MsD} (hx : 0 ≤ x.1) {i : Nat} (hl : 0 < l.length) : ∃ j : Nat, j < l.length ∧ (j : Int) = ((i : Int) + x.1) % (l.length : Int) ∧ U.okE (U.messAt l x i) = true ∧ U.canRE (U.messAt l x i) = U.canRE (nth l j) := by
  have e : ((i : Int) + x.1).tmod (l.length : Int) = ((i : Int) + x.1) % (l.length : Int) := Int.tmod_eq_emod_of_nonneg (by omega)
  have h0 : 0 ≤ ((i : Int) + x.1) % (l.length : Int) := Int.emod_nonneg _ (by omega)
  have h1 : ((i : Int) + x.1) % (l.length : Int) < (l.length : Int) := Int.emod_lt_of_pos _ (by omega)
  refine ⟨(((i : Int) + x.1) % (l.length : Int)).toNat, by omega, by omega, ?_⟩
  unfold U.messAt
  rw [e]
  have hok := hb.ok _ (L.mem_nth (by omega : (((i : Int) + x.1) % (l.length : Int)).toNat < l.length))
  split
  · exact setFm_can hok
  · exact ⟨hok, rfl⟩
theorem messTo_len (l : List ED) (x : MsD) (n : Nat) : (U.messTo l x n).length = n := by unfold U.messTo; simp
theorem messTo_succ (l : List ED) (x : MsD) (n : Nat) : U.messTo l x n ++ [U.messAt l x n] = U.messTo l x (n + 1) := by unfold U.messTo; rw [List.range_succ, List.map_append]; rfl
theorem alike_of {l m : List ED} (hb : Book l) (hlen : m.length ≤ 40) (h1 : ∀ y, y ∈ m → U.okE y = true ∧ ∃ x, x ∈ l ∧ U.canRE y = U.canRE x) (h2 : ∀ x, x ∈ l → ∃ y, y ∈ m ∧ U.canRE x = U.canRE y) : Alike l m :=
  ⟨hb, ⟨hlen, fun y hy => (h1 y hy).1, nc_of_mem (fun y hy => (h1 y hy).2) hb.nc⟩, h2, fun y hy => (h1 y hy).2⟩
theorem mess_alike {l : List ED} (hb : Book l) (h11 : l.length ≤ 11) {x : MsD} (hx : 0 ≤ x.1) {t : List ED} (ht : t.length ≤ 1) (htm : ∀ y, y ∈ t → y ∈ U.messTo l x l.length) : Alike l (U.messTo l x l.length ++ t) := by
  refine alike_of hb ?_ (fun y hy => ?_) (fun z hz => ?_)
  · rw [List.length_append, messTo_len]; omega
  · have hy : y ∈ U.messTo l x l.length := (List.mem_append.1 hy).elim id (htm y)
    unfold U.messTo at hy
    obtain ⟨i, hi, rfl⟩ := List.mem_map.1 hy
    rw [List.mem_range] at hi
    obtain ⟨j, hj, _, h3, h4⟩ := mess_at hb hx (i := i) (by omega)
    exact ⟨h3, _, L.mem_nth hj, h4⟩
  · obtain ⟨k, hk, rfl⟩ := L.mem_iff.1 hz
    have hpos : 0 < l.length := by omega
    have i0 : 0 ≤ ((k : Int) - x.1) % (l.length : Int) := Int.emod_nonneg _ (by omega)
    have i1 : ((k : Int) - x.1) % (l.length : Int) < (l.length : Int) := Int.emod_lt_of_pos _ (by omega)
    obtain ⟨j, hj, hje, h3, h4⟩ := mess_at hb hx (i := (((k : Int) - x.1) % (l.length : Int)).toNat) hpos
    have ei : (((((k : Int) - x.1) % (l.length : Int)).toNat : Nat) : Int) = ((k : Int) - x.1) % (l.length : Int) := by omega
    rw [ei, Int.emod_add_emod] at hje
    have ek : (k : Int) - x.1 + x.1 = (k : Int) := by omega
    rw [ek, Int.emod_eq_of_lt (by omega) (by omega)] at hje
    have : j = k := by omega
    subst this
    refine ⟨_, List.mem_append_left _ ?_, h4.symm⟩
    unfold U.messTo
    exact List.mem_map.2 ⟨_, List.mem_range.2 (by omega), rfl⟩
/-- what the statement compares -/
theorem alike_all {l m : List ED} (h : Alike l m) {s : SnD} (hs : U.okS s = true) : U.ord m = U.ord l ∧ (U.ord l).2.1 = 0 ∧ U.fnd m s = U.fnd l s ∧ (U.fnd l s).2.1 = 0 ∧ U.ask m s = U.ask l s ∧ U.twn m = U.twn l ∧ (U.twn l).2.1 = 0 ∧ U.mrg m [] = U.mrg [] l ∧ (U.mrg [] l).2.1 = 0 := by
  refine ⟨(alike_ord h).1.symm, (alike_ord h).2, ?_, ?_, (alike_ask h hs).symm, (alike_twn h).1.symm, (alike_twn h).2, ?_, ?_⟩
  · rw [fnd_ok h.ha hs, fnd_ok h.hb hs, alike_find h (okS_seen hs)]
  · rw [fnd_ok h.ha hs]
  · rw [mrg_left h.ha, mrg_right h.hb, alike_dist h]
  · rw [mrg_left h.ha]
theorem h13 : vc13 := by
  intro d _ _ _
  refine ⟨fun _ => rfl, fun hc => ?_⟩
  simp only [Bool.or_eq_false_iff, Bool.not_eq_false', decide_eq_false_iff_not] at hc
  obtain ⟨⟨⟨⟨⟨⟨⟨hr, h11⟩, hm⟩, hs⟩, x1⟩, x2⟩, x3⟩, x4⟩ := hc
  have hb := ready_book hr
  have h11 : d.1.length ≤ 11 := by omega
  have hx : 0 ≤ d.2.2.1.1 := by omega
  refine ⟨⟨0, ⟨⟨rfl, trivial, trivial⟩, rfl, trivial⟩, Nat.zero_le _⟩, fun x hxl _ => ⟨fun h => ⟨by unfold In64; omega, fun _ => ?_⟩, fun h _ => ⟨fun h2 => ?_, fun _ => ?_⟩⟩⟩
  · have h : (x : Int) < (d.1.length : Int) := of_decide_eq_true h
    have hpos : 0 < d.1.length := by omega
    have e : ((x : Int) + d.2.2.1.1).tmod (d.1.length : Int) = ((x : Int) + d.2.2.1.1) % (d.1.length : Int) := Int.tmod_eq_emod_of_nonneg (by omega)
    have e0 : 0 ≤ ((x : Int) + d.2.2.1.1).tmod (d.1.length : Int) := by rw [e]; exact Int.emod_nonneg _ (by omega)
    have e1 : ((x : Int) + d.2.2.1.1).tmod (d.1.length : Int) < (d.1.length : Int) := by rw [e]; exact Int.emod_lt_of_pos _ (by omega)
    have hok := hb.ok _ (L.mem_nth (by omega : (((x : Int) + d.2.2.1.1).tmod (d.1.length : Int)).toNat < d.1.length))
    have hsz : (U.messTo d.1 d.2.2.1 x).length = x := messTo_len _ _ _
    refine ⟨by omega, e0, e1, fun _ => by omega, fun _ => by omega, fun _ => by omega, fun _ => by omega, fun hc => ⟨okE_form hok, ?_, by unfold In64; omega, x + 1, ⟨⟨by omega, trivial, trivial⟩, ?_, trivial⟩, by omega, by omega⟩, fun hc => ⟨?_, by unfold In64; omega, x + 1, ⟨⟨by omega, trivial, trivial⟩, ?_, trivial⟩, by omega, by omega⟩⟩
    · show ((U.messTo d.1 d.2.2.1 x).length + 1) * 104 ≤ _; omega
    · rw [← messTo_succ]
      congr 1
      rw [Bool.and_eq_true, decide_eq_true_iff] at hc
      unfold U.messAt
      rw [if_pos ⟨by omega, hc.2⟩]
      rfl
    · show ((U.messTo d.1 d.2.2.1 x).length + 1) * 104 ≤ _; omega
    · rw [← messTo_succ]
      congr 1
      rw [Bool.and_eq_false_iff, decide_eq_false_iff_not] at hc
      unfold U.messAt
      rw [if_neg]
      rintro ⟨h1, h2⟩
      rcases hc with hc | hc
      · omega
      · have h2 : decide (band (d.2.2.1.2.2.1 / 2 ^ (x : Int).toNat) 1 = 1) = true := h2
        rw [hc] at h2; cases h2
  · have h : ¬ (x : Int) < (d.1.length : Int) := of_decide_eq_false h
    have hxe : x = d.1.length := by omega
    subst hxe
    have h2 : d.2.2.1.2.1 < ((U.messTo d.1 d.2.2.1 d.1.length).length : Int) := of_decide_eq_true h2
    have hsz := messTo_len d.1 d.2.2.1 d.1.length
    have hal : Alike d.1 (U.messTo d.1 d.2.2.1 d.1.length ++ [nth (U.messTo d.1 d.2.2.1 d.1.length) d.2.2.1.2.1.toNat]) := mess_alike hb h11 hx (by simp) (fun y hy => by rw [List.mem_singleton.1 hy]; exact L.mem_nth (by omega))
    obtain ⟨a1, a2, a3, a4, a5, a6, a7, a8, a9⟩ := alike_all hal hs
    refine ⟨by omega, h2, ?_, ?_⟩
    · show ((U.messTo d.1 d.2.2.1 d.1.length).length + 1) * 104 ≤ _; omega
    · rw [a1, a3, a5, a6, a8]
      rw [a2, a4, a7, a9, sameB_iff.2 rfl]
      simp
  · have h : ¬ (x : Int) < (d.1.length : Int) := of_decide_eq_false h
    have hxe : x = d.1.length := by omega
    subst hxe
    have hal : Alike d.1 (U.messTo d.1 d.2.2.1 d.1.length) := by
      have := mess_alike hb h11 hx (t := []) (by simp) (fun y hy => by simp at hy)
      rwa [List.append_nil] at this
    obtain ⟨a1, a2, a3, a4, a5, a6, a7, a8, a9⟩ := alike_all hal hs
    rw [a1, a3, a5, a6, a8]
    rw [a2, a4, a7, a9, sameB_iff.2 rfl]
    simp
theorem ok13 : FnOK PR 13 sp13 := mkFn (vc13_eq.mpr h13) Tryz.func13 (by kernel_rfl) (by kernel_rfl) (by kernel_rfl) (by kernel_rfl) ⟨fun _ => ok15, fun _ => ok14, fun _ => ok18, fun _ => ok20, fun _ => ok22, fun _ => ok23, fun _ => ok24, fun _ => ok27, fun _ => ok28, fun _ => ok29, fun _ => ok32, fun _ => ok34, fun _ => ok36, fun _ => ok39, fun _ => ok42, fun _ => ok43, fun _ => ok44, fun _ => ok45a, fun _ => ok47, fun _ => ok48, fun _ => ok49, trivial⟩ trivial

end Go.X
