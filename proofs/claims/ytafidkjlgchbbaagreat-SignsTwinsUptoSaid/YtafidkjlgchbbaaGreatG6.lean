/-
  Signs: bits, and what is seen of a form, plainly.
-/
import Derived.Test.YtafidkjlgchbbaaGreatG5
namespace Go.X
open Go.Proofs

/-! ### Books that are ready, and what is found in them -/

theorem long_iff {l : List ED} : U.long l = false ↔ l.length ≤ 60 ∧ ∀ x, x ∈ l → (U.mv (U.fm x)).length ≤ 20 := by
  unfold U.long
  rw [Bool.or_eq_false_iff, decide_eq_false_iff_not, List.any_eq_false]
  constructor
  · rintro ⟨h1, h2⟩
    exact ⟨by omega, fun x hx => by have := h1 x hx; rw [decide_eq_true_iff] at this; omega⟩
  · rintro ⟨h1, h2⟩
    exact ⟨fun x hx => by have := h2 x hx; rw [decide_eq_true_iff]; omega, by omega⟩
theorem far_long {l : List ED} (h : U.far l = false) : U.long l = false := by
  unfold U.far at h
  rw [Bool.or_eq_false_iff] at h; exact h.1
theorem long_copy {l : List ED} (h : U.long l = false) : l.length ≤ 1000 ∧ ∀ x, x ∈ l → (U.mv (U.fm x)).length ≤ 1000 := by
  obtain ⟨h1, h2⟩ := long_iff.1 h
  exact ⟨by omega, fun x hx => by have := h2 x hx; omega⟩
theorem ready_iff {l : List ED} : U.ready l = true ↔ U.far l = false ∧ U.chk l = 0 := by
  unfold U.ready
  rw [Bool.and_eq_true, Bool.not_eq_true', decide_eq_true_iff]
theorem ready_book {l : List ED} (h : U.ready l = true) : Book l := chk_iff.1 (ready_iff.1 h).2
theorem lookR_ok {l : List ED} (hb : Book l) {s : SnD} (hs : U.okS s = true) : U.lookR l s = 0 := by
  unfold U.lookR
  rw [if_neg (show ¬ U.chk l ≠ 0 by simp [chk_iff.2 hb]), if_neg (by rw [hs]; simp)]
theorem fnd_ok {l : List ED} (hb : Book l) {s : SnD} (hs : U.okS s = true) : U.fnd l s = (U.findR l s, 0, ()) := by
  rw [fnd_eq]; unfold U.fndR; rw [lookR_ok hb hs, if_neg (by simp)]
theorem findR_mem {l : List ED} (hb : Book l) {s : SnD} {n : Int} : n ∈ U.findR l s ↔ ∃ x, x ∈ l ∧ U.sg x = n ∧ U.agreesR x s = true := by
  unfold U.findR
  rw [findTo_mem]
  constructor
  · exact fun h => h.2
  · rintro ⟨x, hx, rfl, h⟩
    have := okE_sg (hb.ok x hx)
    exact ⟨⟨this.1, by omega⟩, x, hx, rfl, h⟩
theorem findR_asc (l : List ED) (s : SnD) : (U.findR l s).Pairwise (fun a b => a < b) := findTo_asc l s 1000
theorem findR_len {l : List ED} (hb : Book l) {s : SnD} (hs : U.okS s = true) : (U.findR l s).length ≤ l.length := by
  rw [← find_eq hb hb.reps (okS_seen hs)]
  refine Nat.le_trans (find_len _ _) ?_
  unfold U.vals
  rw [List.length_map, hb.opn]
  have := addTo_len [] l
  simpa using this
/-- the canon of a form and of its mirror form are the same -/
theorem canR_mir {f : FmD} (h : U.okForm f = true) : U.canR (U.mir f) = U.canR f := by
  have ha := order_ok.anti f (U.mir f)
  unfold U.canR
  rw [mir_mir h]
  by_cases h1 : U.order (U.mir f) f < 0
  · rw [if_pos h1, if_neg (by omega)]
  · rw [if_neg h1]
    by_cases h2 : U.order f (U.mir f) < 0
    · rw [if_pos h2]
    · rw [if_neg h2]
      exact (order_zero.1 (by omega))
theorem canR_or (f : FmD) : U.canR f = f ∨ U.canR f = U.mir f := by
  unfold U.canR; split
  · exact .inr rfl
  · exact .inl rfl
theorem canR_same {a b : FmD} (ha : U.okForm a = true) (hb : U.okForm b = true) : U.canR a = U.canR b ↔ a = b ∨ U.mir a = b := by
  constructor
  · intro h
    rcases canR_or a with e1 | e1 <;> rcases canR_or b with e2 | e2
    · exact .inl (by rw [← e1, ← e2, h])
    · refine .inr ?_
      have : a = U.mir b := by rw [← e1, ← e2, h]
      rw [this, mir_mir hb]
    · exact .inr (by rw [← e1, ← e2, h])
    · refine .inl ?_
      have : U.mir a = U.mir b := by rw [← e1, ← e2, h]
      rw [← mir_mir ha, this, mir_mir hb]
  · rintro (rfl | rfl)
    · rfl
    · exact (canR_mir ha).symm
theorem canF_ok {f : FmD} (h : U.okForm f = true) : U.canF f = (U.canR f, 0, ()) := by rw [canF_eq]; unfold U.canRF; rw [if_pos h]
theorem comF_ok {a b : FmD} (ha : U.okForm a = true) (hb : U.okForm b = true) : U.comF a b = (U.order (U.canR a) (U.canR b), 0, ()) := by
  rw [comF_eq]; unfold U.comRF; rw [if_pos ⟨ha, hb⟩]
theorem pow_le {k m : Nat} (h : k ≤ m) : (1 : Int) ≤ 2 ^ k ∧ (2 : Int) ^ k ≤ 2 ^ m := by
  have h1 : (1 : Nat) ≤ 2 ^ k := Nat.one_le_two_pow
  have h2 : (2 : Nat) ^ k ≤ 2 ^ m := Nat.pow_le_pow_right (by decide) h
  have e : ∀ j : Nat, ((2 : Int) ^ j) = ((2 ^ j : Nat) : Int) := fun j => by simp
  rw [e, e]
  omega
theorem has_range {N n : Int} (h : U.has N n = true) : 0 ≤ n ∧ U.bit N n = true := by
  unfold U.has at h
  rw [Bool.and_eq_true, decide_eq_true_iff] at h
  exact ⟨h.1.1, h.2⟩
theorem bit_small {N : Int} {m : Nat} (hN : 1 ≤ N) (hm : N < 2 ^ m) (hm2 : m ≤ 62) {n : Int} (h0 : 0 ≤ n) (h : U.bit N n = true) : n.toNat < m := by
  obtain ⟨k, rfl⟩ : ∃ k : Nat, N = (k : Int) := ⟨N.toNat, by omega⟩
  obtain ⟨i, rfl⟩ : ∃ i : Nat, n = (i : Int) := ⟨n.toNat, by omega⟩
  have hk : k < 2 ^ m := by
    have e : ((2 : Int) ^ m) = ((2 ^ m : Nat) : Int) := by simp
    rw [e] at hm; omega
  have hk2 : k < 2 ^ 63 := Nat.lt_of_lt_of_le hk (Nat.pow_le_pow_right (by decide) (by omega))
  rw [bit_nat hk2] at h
  have := Nat.ge_two_pow_of_testBit h
  show i < m
  rcases Nat.lt_or_ge i m with h1 | h1
  · exact h1
  · have := Nat.pow_le_pow_right (n := 2) (by decide) h1
    omega
theorem okS_iff {s : SnD} : U.okS s = true ↔ (1 ≤ U.rights s ∧ U.rights s ≤ 8589934591 ∧ 1 ≤ U.lefts s ∧ U.lefts s ≤ 8589934591 ∧ 1 ≤ U.faces s ∧ U.faces s ≤ 255 ∧ 1 ≤ U.rgs s ∧ U.rgs s ≤ 255 ∧ U.lo (U.cols s) ≤ U.hi (U.cols s) ∧ U.lo (U.rows s) ≤ U.hi (U.rows s) ∧ U.lo (U.ages s) ≤ U.hi (U.ages s) ∧ (U.mvs s).length ≤ 6 ∧ 0 ≤ U.lost s ∧ U.lost s ≤ 6) ∧ (U.mvs s).all U.okSet = true := by
  unfold U.okS; rw [Bool.and_eq_true, decide_eq_true_iff]
theorem ask_none {l : List ED} (hb : Book l) {s : SnD} (hs : U.okS s = true) (h : U.findR l s = []) : U.ask l s = (0, 0, 3, ()) := by
  rw [ask_eq]; unfold U.askR; rw [lookR_ok hb hs, if_neg (by simp), if_pos h]
theorem ask_some {l : List ED} (hb : Book l) {s : SnD} (hs : U.okS s = true) (h : U.findR l s ≠ []) : U.ask l s = ((U.bestR l s 5).1, (U.bestR l s 5).2, 0, ()) := by
  rw [ask_eq]; unfold U.askR; rw [lookR_ok hb hs, if_neg (by simp), if_neg h]
theorem findR_1000 (l : List ED) (s : SnD) : (U.findR l s).length ≤ 1000 := findTo_len l s 1000

/-! ### Bits -/

theorem two_nat (k : Nat) : (2 : Int) ^ k = ((2 ^ k : Nat) : Int) := by simp
theorem pow63 {k : Nat} (h : k ≤ 62) : 2 ^ k < 2 ^ 63 := Nat.pow_lt_pow_right (by decide) (by omega)
theorem bit_two {k : Nat} (hk : k ≤ 62) {n : Int} (hn : 0 ≤ n) : U.bit ((2 : Int) ^ k) n = decide (n = (k : Int)) := by
  obtain ⟨i, rfl⟩ : ∃ i : Nat, n = (i : Int) := ⟨n.toNat, by omega⟩
  rw [two_nat, bit_nat (pow63 hk), Nat.testBit_two_pow]
  exact decide_eq_decide.2 ⟨fun h => by omega, fun h => by omega⟩
theorem band_one {x : Int} (h0 : 0 ≤ x) (h1 : x < 2 ^ 62) {r : Int} (hr : 0 ≤ r) : band (x / 2 ^ r.toNat) 1 ≠ 0 ↔ U.bit x r = true := by
  obtain ⟨n, rfl⟩ : ∃ n : Nat, x = (n : Int) := ⟨x.toNat, by omega⟩
  have hn : n < 2 ^ 63 := by omega
  have hd : n / 2 ^ r.toNat < 2 ^ 63 := Nat.lt_of_le_of_lt (Nat.div_le_self _ _) hn
  unfold U.bit
  rw [decide_eq_true_iff, div_nat, show (1 : Int) = ((1 : Nat) : Int) from rfl, band_nat hd (by decide)]
  have := Nat.and_one_is_mod (n / 2 ^ r.toNat)
  omega
theorem band_two {x : Int} (h0 : 0 ≤ x) (h1 : x < 2 ^ 62) {r : Nat} (hr : r ≤ 62) : band x ((2 : Int) ^ r) ≠ 0 ↔ U.bit x (r : Int) = true := by
  obtain ⟨n, rfl⟩ : ∃ n : Nat, x = (n : Int) := ⟨x.toNat, by omega⟩
  have hn : n < 2 ^ 63 := by omega
  rw [two_nat, band_nat hn (pow63 hr), bit_nat hn]
  constructor
  · intro h
    cases e : n.testBit r with
    | true => rfl
    | false =>
      refine absurd ?_ h
      have : n &&& 2 ^ r = 0 := Nat.eq_of_testBit_eq (fun i => by
        rw [Nat.testBit_and, Nat.testBit_two_pow, Nat.zero_testBit]
        by_cases h : r = i
        · subst h; rw [e]; rfl
        · rw [decide_eq_false h, Bool.and_false])
      rw [this]; rfl
  · intro h hz
    have hz : n &&& 2 ^ r = 0 := by omega
    have := congrArg (fun k => k.testBit r) hz
    simp [h, Nat.testBit_two_pow] at this
theorem band_both {x y : Int} (h0 : 0 ≤ x) (h1 : x < 2 ^ 62) (h2 : 0 ≤ y) (h3 : y < 2 ^ 62) {r : Nat} (hx : U.bit x (r : Int) = true) (hy : U.bit y (r : Int) = true) : band x y ≠ 0 := by
  obtain ⟨n, rfl⟩ : ∃ n : Nat, x = (n : Int) := ⟨x.toNat, by omega⟩
  obtain ⟨m, rfl⟩ : ∃ m : Nat, y = (m : Int) := ⟨y.toNat, by omega⟩
  rw [bit_nat (by omega)] at hx hy
  rw [band_nat (by omega) (by omega)]
  intro h
  have h : n &&& m = 0 := by omega
  have := congrArg (fun k => k.testBit r) h
  simp [hx, hy] at this
theorem bor_nat {a b : Nat} (ha : a < 2 ^ 63) (hb : b < 2 ^ 63) : bor (a : Int) (b : Int) = ((a ||| b : Nat) : Int) := by
  unfold bor
  rw [BitVec.toNat_or, ofInt_nat ha, ofInt_nat hb, wrap_nat (Nat.or_lt_two_pow ha hb)]
theorem bor_range {a b : Int} {m : Nat} (hm : m ≤ 62) (ha : 0 ≤ a ∧ a < 2 ^ m) (hb : 0 ≤ b ∧ b < 2 ^ m) : 0 ≤ bor a b ∧ bor a b < 2 ^ m ∧ a ≤ bor a b ∧ b ≤ bor a b := by
  obtain ⟨n, rfl⟩ : ∃ n : Nat, a = (n : Int) := ⟨a.toNat, by omega⟩
  obtain ⟨k, rfl⟩ : ∃ k : Nat, b = (k : Int) := ⟨b.toNat, by omega⟩
  have e := two_nat m
  have hn : n < 2 ^ m := by omega
  have hk : k < 2 ^ m := by omega
  have hp := pow63 hm
  rw [bor_nat (by omega) (by omega)]
  have h1 := Nat.or_lt_two_pow hn hk
  have h2 : n ≤ n ||| k := Nat.left_le_or
  have h3 : k ≤ n ||| k := Nat.right_le_or
  omega
theorem bit_bor {a b : Int} (ha : 0 ≤ a ∧ a < 2 ^ 62) (hb : 0 ≤ b ∧ b < 2 ^ 62) {n : Int} (hn : 0 ≤ n) : U.bit (bor a b) n = (U.bit a n || U.bit b n) := by
  obtain ⟨x, rfl⟩ : ∃ x : Nat, a = (x : Int) := ⟨a.toNat, by omega⟩
  obtain ⟨y, rfl⟩ : ∃ y : Nat, b = (y : Int) := ⟨b.toNat, by omega⟩
  obtain ⟨i, rfl⟩ : ∃ i : Nat, n = (i : Int) := ⟨n.toNat, by omega⟩
  have hp : x ||| y < 2 ^ 62 := Nat.or_lt_two_pow (by omega) (by omega)
  rw [bor_nat (by omega) (by omega), bit_nat (by omega), bit_nat (by omega), bit_nat (by omega), Nat.testBit_or]
theorem band_mask {a : Int} (h : In64 a) {m : Nat} (hm : m ≤ 62) : 0 ≤ band a (2 ^ m - 1) ∧ band a (2 ^ m - 1) < 2 ^ m := by
  have hp : 1 ≤ 2 ^ m := Nat.one_le_two_pow
  have e : (2 : Int) ^ m - 1 = ((2 ^ m - 1 : Nat) : Int) := by rw [two_nat]; omega
  have hlt : 2 ^ m - 1 < 2 ^ 63 := by have := pow63 hm; omega
  unfold band
  rw [e, BitVec.toNat_and, ofInt_nat hlt]
  have h1 : (BitVec.ofInt 64 a).toNat &&& (2 ^ m - 1) ≤ 2 ^ m - 1 := Nat.and_le_right
  rw [wrap_nat (by omega), two_nat]
  omega
/-- what a set has in common with another is not less with more elements -/
theorem band_mono {x a b : Int} (hx : 0 ≤ x ∧ x < 2 ^ 62) (ha : 0 ≤ a ∧ a < 2 ^ 62) (hb : 0 ≤ b ∧ b < 2 ^ 62) (h : band x a ≠ 0) : band x (bor a b) ≠ 0 := by
  obtain ⟨n, rfl⟩ : ∃ n : Nat, x = (n : Int) := ⟨x.toNat, by omega⟩
  obtain ⟨k, rfl⟩ : ∃ k : Nat, a = (k : Int) := ⟨a.toNat, by omega⟩
  obtain ⟨m, rfl⟩ : ∃ m : Nat, b = (m : Int) := ⟨b.toNat, by omega⟩
  have hp : k ||| m < 2 ^ 62 := Nat.or_lt_two_pow (by omega) (by omega)
  rw [bor_nat (by omega) (by omega), band_nat (by omega) (by omega)]
  rw [band_nat (by omega) (by omega)] at h
  intro hz
  have hz : n &&& (k ||| m) = 0 := by omega
  apply h
  have : n &&& k = 0 := Nat.eq_of_testBit_eq (fun i => by
    have := congrArg (fun q => q.testBit i) hz
    simp only [Nat.testBit_and, Nat.testBit_or, Nat.zero_testBit] at this ⊢
    revert this; cases n.testBit i <;> cases k.testBit i <;> simp)
  rw [this]; rfl

end Go.X
/-
  Signs: the law of the twins.
-/
namespace Go.X
open Go.Proofs

abbrev tSg : Ty := .st [.int, .int, .int, .int, .bool]
abbrev SgD : Type := Int × Int × Int × Int × Bool × Unit
namespace U
def two (n : Int) : Int := 2 ^ n.toNat
/-- just what is shown of a form, in a region and at an age, with so many of its moves -/
def seen (f : FmD) (r a : Int) (ms : List Int) : SnD := (two (rt f + 1), two (lf f + 1), two (fc f), two r, 0, (co f, co f, ()), (rw' f, rw' f, ()), (a, a, ()), ms.map two, ())
def seen9 (l : List ED) (x : SgD) : SnD := seen (fm (nth l x.1.toNat)) x.2.1 x.2.2.1 (mv (fm (nth l x.1.toNat)))
def fnd9 (l : List ED) (x : SgD) : List Int := (fnd l (seen9 l x)).1
def tw9 (l : List ED) : List PaD := (twn l).1
def eqPair (t : List PaD) (p : PaD) : Bool := t.any (fun q => decide (q = p))
def twinAt (t : List PaD) (k : Nat) (l : List ED) (x y : ED) : Bool := decide ((comF (fm x) (fm y)).1 = 0) && decide (nth t k = (sg x, sg y, ())) && decide (band (rg x) (rg y) ≠ 0) && decide (max (lo (ag x)) (lo (ag y)) ≤ min (hi (ag x)) (hi (ag y)))
def twinRow (t : List PaD) (k : Nat) (l : List ED) (x : ED) : Bool := l.any (twinAt t k l x)
end U

def sp9 : Spec := lawSpec [.slice tE, tSg]
def an9 : Ann := fun r => match r with
  | 9 => some fun σ => { X := Nat, sl := fun i => [(8, .dat .int (i : Int))], ob := fun i => [(7, some (.box 27 false [.dat .int (U.two (U.rt (U.fm (nth (gd (.slice tE) σ 0) (gd tSg σ 1).1.toNat)) + 1)), .dat .int (U.two (U.lf (U.fm (nth (gd (.slice tE) σ 0) (gd tSg σ 1).1.toNat)) + 1)), .dat .int (U.two (U.fc (U.fm (nth (gd (.slice tE) σ 0) (gd tSg σ 1).1.toNat)))), .dat .int (U.two (gd tSg σ 1).2.1), .dat .int 0, .dat .int (U.co (U.fm (nth (gd (.slice tE) σ 0) (gd tSg σ 1).1.toNat))), .dat .int (U.co (U.fm (nth (gd (.slice tE) σ 0) (gd tSg σ 1).1.toNat))), .dat .int (U.rw' (U.fm (nth (gd (.slice tE) σ 0) (gd tSg σ 1).1.toNat))), .dat .int (U.rw' (U.fm (nth (gd (.slice tE) σ 0) (gd tSg σ 1).1.toNat))), .dat .int (gd tSg σ 1).2.2.1, .dat .int (gd tSg σ 1).2.2.1, .own (nestR 7 11) .int])), (nestR 7 11, some (.row 3 .int false .yes (((U.mv (U.fm (nth (gd (.slice tE) σ 0) (gd tSg σ 1).1.toNat))).take i).map U.two)))], inv := fun i => i ≤ (U.mv (U.fm (nth (gd (.slice tE) σ 0) (gd tSg σ 1).1.toNat))).length, mu := fun i => (U.mv (U.fm (nth (gd (.slice tE) σ 0) (gd tSg σ 1).1.toNat))).length - i }
  | 17 => some fun σ => { X := Nat, sl := fun i => [(13, .dat .int (i : Int)), (9, .dat (.slice .int) (U.fnd9 (gd (.slice tE) σ 0) (gd tSg σ 1))), (11, .dat (.slice tP) (U.tw9 (gd (.slice tE) σ 0)))], ob := fun _ => [], inv := fun i => i ≤ (U.fnd9 (gd (.slice tE) σ 0) (gd tSg σ 1)).length, mu := fun i => (U.fnd9 (gd (.slice tE) σ 0) (gd tSg σ 1)).length - i }
  | 21 => some fun σ => { X := Nat, sl := fun i => [(15, .dat .int (i : Int)), (14, .dat .bool (gd .bool σ 14 || U.eqPair ((gd (.slice tP) σ 11).take i) (min (nth (gd (.slice .int) σ 9) (gd .int σ 13).toNat) (U.sg (nth (gd (.slice tE) σ 0) (gd tSg σ 1).1.toNat)), max (nth (gd (.slice .int) σ 9) (gd .int σ 13).toNat) (U.sg (nth (gd (.slice tE) σ 0) (gd tSg σ 1).1.toNat)), ())))], ob := fun _ => [], inv := fun i => i ≤ (gd (.slice tP) σ 11).length, mu := fun i => (gd (.slice tP) σ 11).length - i }
  | 27 => some fun σ => { X := Nat, sl := fun i => [(16, .dat .int (i : Int))], ob := fun _ => [], inv := fun i => i ≤ (gd (.slice tP) σ 11).length, mu := fun i => (gd (.slice tP) σ 11).length - i }
  | 31 => some fun σ => { X := Nat, sl := fun i => [(18, .dat .int (i : Int)), (17, .dat .bool (((gd (.slice tE) σ 0).take i).any (U.twinRow (gd (.slice tP) σ 11) (gd .int σ 16).toNat (gd (.slice tE) σ 0))))], ob := fun _ => [], inv := fun i => i ≤ (gd (.slice tE) σ 0).length, mu := fun i => (gd (.slice tE) σ 0).length - i }
  | 34 => some fun σ => { X := Nat, sl := fun i => [(19, .dat .int (i : Int)), (17, .dat .bool (gd .bool σ 17 || ((gd (.slice tE) σ 0).take i).any (U.twinAt (gd (.slice tP) σ 11) (gd .int σ 16).toNat (gd (.slice tE) σ 0) (nth (gd (.slice tE) σ 0) (gd .int σ 18).toNat))))], ob := fun _ => [], inv := fun i => i ≤ (gd (.slice tE) σ 0).length, mu := fun i => (gd (.slice tE) σ 0).length - i }
  | _ => none
def vc9 : Prop :=
  ∀ (d : List ED × (Int × Int × Int × Int × Bool × Unit) × Unit),
  fitsAll 1048576
  [(Ty.int.pair (Ty.int.pair (Ty.int.pair ((Ty.int.pair (Ty.int.pair (Ty.int.pair (Ty.int.pair (Ty.int.pair (Ty.int.slice.pair Ty.unit)))))).pair ((Ty.int.pair (Ty.int.pair Ty.unit)).pair Ty.unit))))).slice,
  Ty.int.pair (Ty.int.pair (Ty.int.pair (Ty.int.pair (Ty.bool.pair Ty.unit))))]
  d →
  ((!(!U.ready d.1 || decide (d.2.1.1 < (0 : Int)))) = true → d.1.length < 4611686018427387904) →
  ((!U.ready d.1 || decide (d.2.1.1 < (0 : Int)) || decide ((d.1.length : Int) ≤ d.2.1.1)) = true → (true, ()) = (true, ())) ∧
  ((!U.ready d.1 || decide (d.2.1.1 < (0 : Int)) || decide ((d.1.length : Int) ≤ d.2.1.1)) = false →
  (0 : Int) ≤ d.2.1.1 ∧
  d.2.1.1 < (d.1.length : Int) ∧
  ((!(decide (d.2.1.2.1 < (0 : Int)) || decide ((7 : Int) < d.2.1.2.1))) = true → (0 : Int) ≤ d.2.1.2.1) ∧
  ((!(decide (d.2.1.2.1 < (0 : Int)) || decide ((7 : Int) < d.2.1.2.1))) = true → d.2.1.2.1 ≤ (18446744073709551615 : Int)) ∧
  ((!(decide (d.2.1.2.1 < (0 : Int)) || decide ((7 : Int) < d.2.1.2.1))) = true → (0 : Int) ≤ d.2.1.2.1) ∧
  ((!(decide (d.2.1.2.1 < (0 : Int)) || decide ((7 : Int) < d.2.1.2.1))) = true → d.2.1.2.1 ≤ (64 : Int)) ∧
  ((decide (d.2.1.2.1 < (0 : Int)) || decide ((7 : Int) < d.2.1.2.1) || decide (band ((nth d.1 d.2.1.1.toNat).2.2.1 / (2 : Int) ^ d.2.1.2.1.toNat) (1 : Int) = (0 : Int)) ||
  decide (d.2.1.2.2.1 < (nth d.1 d.2.1.1.toNat).2.2.2.2.1.1) ||
  decide ((nth d.1 d.2.1.1.toNat).2.2.2.2.1.2.1 < d.2.1.2.2.1)) =
  true →
  (true, ()) = (true, ())) ∧
  ((decide (d.2.1.2.1 < (0 : Int)) || decide ((7 : Int) < d.2.1.2.1) || decide (band ((nth d.1 d.2.1.1.toNat).2.2.1 / (2 : Int) ^ d.2.1.2.1.toNat) (1 : Int) = (0 : Int)) ||
  decide (d.2.1.2.2.1 < (nth d.1 d.2.1.1.toNat).2.2.2.2.1.1) ||
  decide ((nth d.1 d.2.1.1.toNat).2.2.2.2.1.2.1 < d.2.1.2.2.1)) =
  false →
  In64 ((nth d.1 d.2.1.1.toNat).2.2.2.1.1 + (1 : Int)) ∧
  (0 : Int) ≤ (nth d.1 d.2.1.1.toNat).2.2.2.1.1 + (1 : Int) ∧
  (nth d.1 d.2.1.1.toNat).2.2.2.1.1 + (1 : Int) ≤ (18446744073709551615 : Int) ∧
  (0 : Int) ≤ (nth d.1 d.2.1.1.toNat).2.2.2.1.1 + (1 : Int) ∧
  (nth d.1 d.2.1.1.toNat).2.2.2.1.1 + (1 : Int) ≤ (64 : Int) ∧
  In64 ((1 : Int) * (2 : Int) ^ ((nth d.1 d.2.1.1.toNat).2.2.2.1.1 + (1 : Int)).toNat) ∧
  In64 ((nth d.1 d.2.1.1.toNat).2.2.2.1.2.1 + (1 : Int)) ∧
  (0 : Int) ≤ (nth d.1 d.2.1.1.toNat).2.2.2.1.2.1 + (1 : Int) ∧
  (nth d.1 d.2.1.1.toNat).2.2.2.1.2.1 + (1 : Int) ≤ (18446744073709551615 : Int) ∧
  (0 : Int) ≤ (nth d.1 d.2.1.1.toNat).2.2.2.1.2.1 + (1 : Int) ∧
  (nth d.1 d.2.1.1.toNat).2.2.2.1.2.1 + (1 : Int) ≤ (64 : Int) ∧
  In64 ((1 : Int) * (2 : Int) ^ ((nth d.1 d.2.1.1.toNat).2.2.2.1.2.1 + (1 : Int)).toNat) ∧
  (0 : Int) ≤ (nth d.1 d.2.1.1.toNat).2.2.2.1.2.2.2.2.1 ∧
  (nth d.1 d.2.1.1.toNat).2.2.2.1.2.2.2.2.1 ≤ (18446744073709551615 : Int) ∧
  (0 : Int) ≤ (nth d.1 d.2.1.1.toNat).2.2.2.1.2.2.2.2.1 ∧
  (nth d.1 d.2.1.1.toNat).2.2.2.1.2.2.2.2.1 ≤ (64 : Int) ∧
  In64 ((1 : Int) * (2 : Int) ^ (nth d.1 d.2.1.1.toNat).2.2.2.1.2.2.2.2.1.toNat) ∧
  (0 : Int) ≤ d.2.1.2.1 ∧
  d.2.1.2.1 ≤ (18446744073709551615 : Int) ∧
  (0 : Int) ≤ d.2.1.2.1 ∧
  d.2.1.2.1 ≤ (64 : Int) ∧
  In64 ((1 : Int) * (2 : Int) ^ d.2.1.2.1.toNat) ∧
  (∃ (x : Nat),
  (((0 : Int) = (x : Int) ∧ True) ∧
  ((1 : Int) * (2 : Int) ^ ((nth d.1 d.2.1.1.toNat).2.2.2.1.1 + (1 : Int)).toNat =
  U.two (U.rt (U.fm (nth d.1 d.2.1.1.toNat)) + (1 : Int)) ∧
  (1 : Int) * (2 : Int) ^ ((nth d.1 d.2.1.1.toNat).2.2.2.1.2.1 + (1 : Int)).toNat =
  U.two (U.lf (U.fm (nth d.1 d.2.1.1.toNat)) + (1 : Int)) ∧
  (1 : Int) * (2 : Int) ^ (nth d.1 d.2.1.1.toNat).2.2.2.1.2.2.2.2.1.toNat = U.two (U.fc (U.fm (nth d.1 d.2.1.1.toNat))) ∧
  (1 : Int) * (2 : Int) ^ d.2.1.2.1.toNat = U.two d.2.1.2.1 ∧
  (0 : Int) = (0 : Int) ∧
  (nth d.1 d.2.1.1.toNat).2.2.2.1.2.2.1 = U.co (U.fm (nth d.1 d.2.1.1.toNat)) ∧
  (nth d.1 d.2.1.1.toNat).2.2.2.1.2.2.1 = U.co (U.fm (nth d.1 d.2.1.1.toNat)) ∧
  (nth d.1 d.2.1.1.toNat).2.2.2.1.2.2.2.1 = U.rw' (U.fm (nth d.1 d.2.1.1.toNat)) ∧
  (nth d.1 d.2.1.1.toNat).2.2.2.1.2.2.2.1 = U.rw' (U.fm (nth d.1 d.2.1.1.toNat)) ∧
  d.2.1.2.2.1 = d.2.1.2.2.1 ∧ d.2.1.2.2.1 = d.2.1.2.2.1 ∧ True ∧ True) ∧
  List.map U.two (List.take x (U.mv (U.fm (nth d.1 d.2.1.1.toNat)))) = [] ∧ True) ∧
  x ≤ (U.mv (U.fm (nth d.1 d.2.1.1.toNat))).length) ∧
  ∀ (x : Nat),
  x ≤ (U.mv (U.fm (nth d.1 d.2.1.1.toNat))).length →
  (nth d.1 d.2.1.1.toNat).2.2.2.1.2.2.2.2.2.1.length < 4611686018427387904 →
  (decide ((x : Int) < (↑(nth d.1 d.2.1.1.toNat).2.2.2.1.2.2.2.2.2.1.length : Int)) = true →
  0 ≤ (x : Int) ∧
  (x : Int) < (↑(nth d.1 d.2.1.1.toNat).2.2.2.1.2.2.2.2.2.1.length : Int) ∧
  (0 : Int) ≤ nth (nth d.1 d.2.1.1.toNat).2.2.2.1.2.2.2.2.2.1 (x : Int).toNat ∧
  nth (nth d.1 d.2.1.1.toNat).2.2.2.1.2.2.2.2.2.1 (x : Int).toNat ≤ (18446744073709551615 : Int) ∧
  (0 : Int) ≤ nth (nth d.1 d.2.1.1.toNat).2.2.2.1.2.2.2.2.2.1 (x : Int).toNat ∧
  nth (nth d.1 d.2.1.1.toNat).2.2.2.1.2.2.2.2.2.1 (x : Int).toNat ≤ (64 : Int) ∧
  In64 ((1 : Int) * (2 : Int) ^ (nth (nth d.1 d.2.1.1.toNat).2.2.2.1.2.2.2.2.2.1 (x : Int).toNat).toNat) ∧
  ((List.map U.two (List.take x (U.mv (U.fm (nth d.1 d.2.1.1.toNat))))).length +
  [(1 : Int) * (2 : Int) ^ (nth (nth d.1 d.2.1.1.toNat).2.2.2.1.2.2.2.2.2.1 (x : Int).toNat).toNat].length) *
  8 ≤
  140737488355328 ∧
  In64 ((x : Int) + 1) ∧
  ∃ (x' : Nat),
  (((x : Int) + 1 = (x' : Int) ∧ True) ∧
  (U.two (U.rt (U.fm (nth d.1 d.2.1.1.toNat)) + (1 : Int)) = U.two (U.rt (U.fm (nth d.1 d.2.1.1.toNat)) + (1 : Int)) ∧
  U.two (U.lf (U.fm (nth d.1 d.2.1.1.toNat)) + (1 : Int)) =
  U.two (U.lf (U.fm (nth d.1 d.2.1.1.toNat)) + (1 : Int)) ∧
  U.two (U.fc (U.fm (nth d.1 d.2.1.1.toNat))) = U.two (U.fc (U.fm (nth d.1 d.2.1.1.toNat))) ∧
  U.two d.2.1.2.1 = U.two d.2.1.2.1 ∧
  (0 : Int) = (0 : Int) ∧
  U.co (U.fm (nth d.1 d.2.1.1.toNat)) = U.co (U.fm (nth d.1 d.2.1.1.toNat)) ∧
  U.co (U.fm (nth d.1 d.2.1.1.toNat)) = U.co (U.fm (nth d.1 d.2.1.1.toNat)) ∧
  U.rw' (U.fm (nth d.1 d.2.1.1.toNat)) = U.rw' (U.fm (nth d.1 d.2.1.1.toNat)) ∧
  U.rw' (U.fm (nth d.1 d.2.1.1.toNat)) = U.rw' (U.fm (nth d.1 d.2.1.1.toNat)) ∧
  d.2.1.2.2.1 = d.2.1.2.2.1 ∧ d.2.1.2.2.1 = d.2.1.2.2.1 ∧ True ∧ True) ∧
  List.map U.two (List.take x (U.mv (U.fm (nth d.1 d.2.1.1.toNat)))) ++
  [(1 : Int) *
  (2 : Int) ^ (nth (nth d.1 d.2.1.1.toNat).2.2.2.1.2.2.2.2.2.1 (x : Int).toNat).toNat] =
  List.map U.two (List.take x' (U.mv (U.fm (nth d.1 d.2.1.1.toNat)))) ∧
  True) ∧
  x' ≤ (U.mv (U.fm (nth d.1 d.2.1.1.toNat))).length ∧
  (U.mv (U.fm (nth d.1 d.2.1.1.toNat))).length - x' < (U.mv (U.fm (nth d.1 d.2.1.1.toNat))).length - x) ∧
  (decide ((x : Int) < (↑(nth d.1 d.2.1.1.toNat).2.2.2.1.2.2.2.2.2.1.length : Int)) = false →
  ((decide
  ((U.fnd d.1
  (U.two (U.rt (U.fm (nth d.1 d.2.1.1.toNat)) + (1 : Int)), U.two (U.lf (U.fm (nth d.1 d.2.1.1.toNat)) + (1 : Int)),
  U.two (U.fc (U.fm (nth d.1 d.2.1.1.toNat))), U.two d.2.1.2.1, (0 : Int),
  (U.co (U.fm (nth d.1 d.2.1.1.toNat)), U.co (U.fm (nth d.1 d.2.1.1.toNat)), ()),
  (U.rw' (U.fm (nth d.1 d.2.1.1.toNat)), U.rw' (U.fm (nth d.1 d.2.1.1.toNat)), ()),
  (d.2.1.2.2.1, d.2.1.2.2.1, ()), List.map U.two (List.take x (U.mv (U.fm (nth d.1 d.2.1.1.toNat)))),
  ())).2.1 ≠
  (0 : Int)) ||
  decide ((U.twn d.1).2.1 ≠ (0 : Int)) ||
  !decide
  ((nth d.1 d.2.1.1.toNat).2.1 ∈
  (U.fnd d.1
  (U.two (U.rt (U.fm (nth d.1 d.2.1.1.toNat)) + (1 : Int)), U.two (U.lf (U.fm (nth d.1 d.2.1.1.toNat)) + (1 : Int)),
  U.two (U.fc (U.fm (nth d.1 d.2.1.1.toNat))), U.two d.2.1.2.1, (0 : Int),
  (U.co (U.fm (nth d.1 d.2.1.1.toNat)), U.co (U.fm (nth d.1 d.2.1.1.toNat)), ()),
  (U.rw' (U.fm (nth d.1 d.2.1.1.toNat)), U.rw' (U.fm (nth d.1 d.2.1.1.toNat)), ()),
  (d.2.1.2.2.1, d.2.1.2.2.1, ()), List.map U.two (List.take x (U.mv (U.fm (nth d.1 d.2.1.1.toNat)))),
  ())).1)) =
  true →
  (false, ()) = (true, ())) ∧
  ((decide
  ((U.fnd d.1
  (U.two (U.rt (U.fm (nth d.1 d.2.1.1.toNat)) + (1 : Int)), U.two (U.lf (U.fm (nth d.1 d.2.1.1.toNat)) + (1 : Int)),
  U.two (U.fc (U.fm (nth d.1 d.2.1.1.toNat))), U.two d.2.1.2.1, (0 : Int),
  (U.co (U.fm (nth d.1 d.2.1.1.toNat)), U.co (U.fm (nth d.1 d.2.1.1.toNat)), ()),
  (U.rw' (U.fm (nth d.1 d.2.1.1.toNat)), U.rw' (U.fm (nth d.1 d.2.1.1.toNat)), ()),
  (d.2.1.2.2.1, d.2.1.2.2.1, ()), List.map U.two (List.take x (U.mv (U.fm (nth d.1 d.2.1.1.toNat)))),
  ())).2.1 ≠
  (0 : Int)) ||
  decide ((U.twn d.1).2.1 ≠ (0 : Int)) ||
  !decide
  ((nth d.1 d.2.1.1.toNat).2.1 ∈
  (U.fnd d.1
  (U.two (U.rt (U.fm (nth d.1 d.2.1.1.toNat)) + (1 : Int)), U.two (U.lf (U.fm (nth d.1 d.2.1.1.toNat)) + (1 : Int)),
  U.two (U.fc (U.fm (nth d.1 d.2.1.1.toNat))), U.two d.2.1.2.1, (0 : Int),
  (U.co (U.fm (nth d.1 d.2.1.1.toNat)), U.co (U.fm (nth d.1 d.2.1.1.toNat)), ()),
  (U.rw' (U.fm (nth d.1 d.2.1.1.toNat)), U.rw' (U.fm (nth d.1 d.2.1.1.toNat)), ()),
  (d.2.1.2.2.1, d.2.1.2.2.1, ()), List.map U.two (List.take x (U.mv (U.fm (nth d.1 d.2.1.1.toNat)))),
  ())).1)) =
  false →
  (∃ (x_5 : Nat),
  (((0 : Int) = (x_5 : Int) ∧
  (U.fnd d.1
  (U.two (U.rt (U.fm (nth d.1 d.2.1.1.toNat)) + (1 : Int)), U.two (U.lf (U.fm (nth d.1 d.2.1.1.toNat)) + (1 : Int)),
  U.two (U.fc (U.fm (nth d.1 d.2.1.1.toNat))), U.two d.2.1.2.1, (0 : Int),
  (U.co (U.fm (nth d.1 d.2.1.1.toNat)), U.co (U.fm (nth d.1 d.2.1.1.toNat)), ()),
  (U.rw' (U.fm (nth d.1 d.2.1.1.toNat)), U.rw' (U.fm (nth d.1 d.2.1.1.toNat)), ()),
  (d.2.1.2.2.1, d.2.1.2.2.1, ()), List.map U.two (List.take x (U.mv (U.fm (nth d.1 d.2.1.1.toNat)))),
  ())).1 =
  U.fnd9 d.1 d.2.1 ∧
  (U.twn d.1).1 = U.tw9 d.1 ∧ True) ∧
  True) ∧
  x_5 ≤ (U.fnd9 d.1 d.2.1).length) ∧
  ∀ (x : Nat),
  x ≤ (U.fnd9 d.1 d.2.1).length →
  (U.fnd9 d.1 d.2.1).length < 4611686018427387904 →
  (decide ((x : Int) < (↑(U.fnd9 d.1 d.2.1).length : Int)) = true →
  0 ≤ (x : Int) ∧
  (x : Int) < (↑(U.fnd9 d.1 d.2.1).length : Int) ∧
  (∃ (x_8 : Nat),
  (((0 : Int) = (x_8 : Int) ∧
  decide (nth (U.fnd9 d.1 d.2.1) (x : Int).toNat = (nth d.1 d.2.1.1.toNat).2.1) =
  (decide (nth (U.fnd9 d.1 d.2.1) (x : Int).toNat = (nth d.1 d.2.1.1.toNat).2.1) ||
  U.eqPair (List.take x_8 (U.tw9 d.1))
  (min (nth (U.fnd9 d.1 d.2.1) (x : Int).toNat) (U.sg (nth d.1 d.2.1.1.toNat)),
  max (nth (U.fnd9 d.1 d.2.1) (x : Int).toNat) (U.sg (nth d.1 d.2.1.1.toNat)), ())) ∧
  True) ∧
  True) ∧
  x_8 ≤ (U.tw9 d.1).length) ∧
  ∀ (x_8 : Nat),
  x_8 ≤ (U.tw9 d.1).length →
  (U.tw9 d.1).length < 4611686018427387904 →
  (decide ((x_8 : Int) < (↑(U.tw9 d.1).length : Int)) = true →
  ((!(decide (nth (U.fnd9 d.1 d.2.1) (x : Int).toNat = (nth d.1 d.2.1.1.toNat).2.1) ||
  U.eqPair (List.take x_8 (U.tw9 d.1))
  (min (nth (U.fnd9 d.1 d.2.1) (x : Int).toNat) (U.sg (nth d.1 d.2.1.1.toNat)),
  max (nth (U.fnd9 d.1 d.2.1) (x : Int).toNat) (U.sg (nth d.1 d.2.1.1.toNat)), ()))) =
  true →
  0 ≤ (x_8 : Int)) ∧
  ((!(decide (nth (U.fnd9 d.1 d.2.1) (x : Int).toNat = (nth d.1 d.2.1.1.toNat).2.1) ||
  U.eqPair (List.take x_8 (U.tw9 d.1))
  (min (nth (U.fnd9 d.1 d.2.1) (x : Int).toNat) (U.sg (nth d.1 d.2.1.1.toNat)),
  max (nth (U.fnd9 d.1 d.2.1) (x : Int).toNat) (U.sg (nth d.1 d.2.1.1.toNat)), ()))) =
  true →
  (x_8 : Int) < (↑(U.tw9 d.1).length : Int)) ∧
  ((!(decide (nth (U.fnd9 d.1 d.2.1) (x : Int).toNat = (nth d.1 d.2.1.1.toNat).2.1) ||
  U.eqPair (List.take x_8 (U.tw9 d.1))
  (min (nth (U.fnd9 d.1 d.2.1) (x : Int).toNat) (U.sg (nth d.1 d.2.1.1.toNat)),
  max (nth (U.fnd9 d.1 d.2.1) (x : Int).toNat) (U.sg (nth d.1 d.2.1.1.toNat)), ()))) =
  true →
  0 ≤ (x : Int)) ∧
  ((!(decide (nth (U.fnd9 d.1 d.2.1) (x : Int).toNat = (nth d.1 d.2.1.1.toNat).2.1) ||
  U.eqPair (List.take x_8 (U.tw9 d.1))
  (min (nth (U.fnd9 d.1 d.2.1) (x : Int).toNat) (U.sg (nth d.1 d.2.1.1.toNat)),
  max (nth (U.fnd9 d.1 d.2.1) (x : Int).toNat) (U.sg (nth d.1 d.2.1.1.toNat)), ()))) =
  true →
  (x : Int) < (↑(U.fnd9 d.1 d.2.1).length : Int)) ∧
  ((!(decide (nth (U.fnd9 d.1 d.2.1) (x : Int).toNat = (nth d.1 d.2.1.1.toNat).2.1) ||
  U.eqPair (List.take x_8 (U.tw9 d.1))
  (min (nth (U.fnd9 d.1 d.2.1) (x : Int).toNat) (U.sg (nth d.1 d.2.1.1.toNat)),
  max (nth (U.fnd9 d.1 d.2.1) (x : Int).toNat) (U.sg (nth d.1 d.2.1.1.toNat)), ()))) =
  true →
  0 ≤ (x : Int)) ∧
  ((!(decide (nth (U.fnd9 d.1 d.2.1) (x : Int).toNat = (nth d.1 d.2.1.1.toNat).2.1) ||
  U.eqPair (List.take x_8 (U.tw9 d.1))
  (min (nth (U.fnd9 d.1 d.2.1) (x : Int).toNat) (U.sg (nth d.1 d.2.1.1.toNat)),
  max (nth (U.fnd9 d.1 d.2.1) (x : Int).toNat) (U.sg (nth d.1 d.2.1.1.toNat)), ()))) =
  true →
  (x : Int) < (↑(U.fnd9 d.1 d.2.1).length : Int)) ∧
  In64 ((x_8 : Int) + 1) ∧
  ∃ (x' : Nat),
  (((x_8 : Int) + 1 = (x' : Int) ∧
  (decide (nth (U.fnd9 d.1 d.2.1) (x : Int).toNat = (nth d.1 d.2.1.1.toNat).2.1) ||
  U.eqPair (List.take x_8 (U.tw9 d.1))
  (min (nth (U.fnd9 d.1 d.2.1) (x : Int).toNat) (U.sg (nth d.1 d.2.1.1.toNat)),
  max (nth (U.fnd9 d.1 d.2.1) (x : Int).toNat) (U.sg (nth d.1 d.2.1.1.toNat)),
  ()) ||
  decide
  (nth (U.tw9 d.1) (x_8 : Int).toNat =
  (min (nth (U.fnd9 d.1 d.2.1) (x : Int).toNat) (nth d.1 d.2.1.1.toNat).2.1,
  max (nth (U.fnd9 d.1 d.2.1) (x : Int).toNat) (nth d.1 d.2.1.1.toNat).2.1,
  ()))) =
  (decide (nth (U.fnd9 d.1 d.2.1) (x : Int).toNat = (nth d.1 d.2.1.1.toNat).2.1) ||
  U.eqPair (List.take x' (U.tw9 d.1))
  (min (nth (U.fnd9 d.1 d.2.1) (x : Int).toNat) (U.sg (nth d.1 d.2.1.1.toNat)),
  max (nth (U.fnd9 d.1 d.2.1) (x : Int).toNat) (U.sg (nth d.1 d.2.1.1.toNat)),
  ())) ∧
  True) ∧
  True) ∧
  x' ≤ (U.tw9 d.1).length ∧ (U.tw9 d.1).length - x' < (U.tw9 d.1).length - x_8) ∧
  (decide ((x_8 : Int) < (↑(U.tw9 d.1).length : Int)) = false →
  ((!(decide (nth (U.fnd9 d.1 d.2.1) (x : Int).toNat = (nth d.1 d.2.1.1.toNat).2.1) ||
  U.eqPair (List.take x_8 (U.tw9 d.1))
  (min (nth (U.fnd9 d.1 d.2.1) (x : Int).toNat) (U.sg (nth d.1 d.2.1.1.toNat)),
  max (nth (U.fnd9 d.1 d.2.1) (x : Int).toNat) (U.sg (nth d.1 d.2.1.1.toNat)), ()))) =
  true →
  (false, ()) = (true, ())) ∧
  ((!(decide (nth (U.fnd9 d.1 d.2.1) (x : Int).toNat = (nth d.1 d.2.1.1.toNat).2.1) ||
  U.eqPair (List.take x_8 (U.tw9 d.1))
  (min (nth (U.fnd9 d.1 d.2.1) (x : Int).toNat) (U.sg (nth d.1 d.2.1.1.toNat)),
  max (nth (U.fnd9 d.1 d.2.1) (x : Int).toNat) (U.sg (nth d.1 d.2.1.1.toNat)), ()))) =
  false →
  In64 ((x : Int) + 1) ∧
  ∃ (x' : Nat),
  ((U.tw9 d.1 = U.tw9 d.1 ∧
  U.fnd9 d.1 d.2.1 = U.fnd9 d.1 d.2.1 ∧ (x : Int) + 1 = (x' : Int) ∧ True) ∧
  True) ∧
  x' ≤ (U.fnd9 d.1 d.2.1).length ∧
  (U.fnd9 d.1 d.2.1).length - x' < (U.fnd9 d.1 d.2.1).length - x))) ∧
  (decide ((x : Int) < (↑(U.fnd9 d.1 d.2.1).length : Int)) = false →
  (∃ (x : Nat), (((0 : Int) = (x : Int) ∧ True) ∧ True) ∧ x ≤ (U.tw9 d.1).length) ∧
  ∀ (x : Nat),
  x ≤ (U.tw9 d.1).length →
  (U.tw9 d.1).length < 4611686018427387904 →
  (decide ((x : Int) < (↑(U.tw9 d.1).length : Int)) = true →
  (∃ (x_10 : Nat),
  (((0 : Int) = (x_10 : Int) ∧ false = (List.take x_10 d.1).any (U.twinRow (U.tw9 d.1) (x : Int).toNat d.1) ∧ True) ∧
  True) ∧
  x_10 ≤ d.1.length) ∧
  ∀ (x_10 : Nat),
  x_10 ≤ d.1.length →
  d.1.length < 4611686018427387904 →
  (decide ((x_10 : Int) < (d.1.length : Int)) = true →
  (∃ (x_14 : Nat),
  (((0 : Int) = (x_14 : Int) ∧
  (List.take x_10 d.1).any (U.twinRow (U.tw9 d.1) (x : Int).toNat d.1) =
  ((List.take x_10 d.1).any (U.twinRow (U.tw9 d.1) (x : Int).toNat d.1) ||
  (List.take x_14 d.1).any
  (U.twinAt (U.tw9 d.1) (x : Int).toNat d.1 (nth d.1 (x_10 : Int).toNat))) ∧
  True) ∧
  True) ∧
  x_14 ≤ d.1.length) ∧
  ∀ (x_14 : Nat),
  x_14 ≤ d.1.length →
  d.1.length < 4611686018427387904 →
  (decide ((x_14 : Int) < (d.1.length : Int)) = true →
  0 ≤ (x_10 : Int) ∧
  (x_10 : Int) < (d.1.length : Int) ∧
  0 ≤ (x_14 : Int) ∧
  (x_14 : Int) < (d.1.length : Int) ∧
  (decide
  ((U.comF (nth d.1 (x_10 : Int).toNat).2.2.2.1
  (nth d.1 (x_14 : Int).toNat).2.2.2.1).2.1 ≠
  (0 : Int)) =
  true →
  (false, ()) = (true, ())) ∧
  (decide
  ((U.comF (nth d.1 (x_10 : Int).toNat).2.2.2.1
  (nth d.1 (x_14 : Int).toNat).2.2.2.1).2.1 ≠
  (0 : Int)) =
  false →
  ((!((List.take x_10 d.1).any (U.twinRow (U.tw9 d.1) (x : Int).toNat d.1) ||
  (List.take x_14 d.1).any
  (U.twinAt (U.tw9 d.1) (x : Int).toNat d.1
  (nth d.1 (x_10 : Int).toNat))) &&
  decide
  ((U.comF (nth d.1 (x_10 : Int).toNat).2.2.2.1
  (nth d.1 (x_14 : Int).toNat).2.2.2.1).1 =
  (0 : Int))) =
  true →
  0 ≤ (x : Int)) ∧
  ((!((List.take x_10 d.1).any (U.twinRow (U.tw9 d.1) (x : Int).toNat d.1) ||
  (List.take x_14 d.1).any
  (U.twinAt (U.tw9 d.1) (x : Int).toNat d.1
  (nth d.1 (x_10 : Int).toNat))) &&
  decide
  ((U.comF (nth d.1 (x_10 : Int).toNat).2.2.2.1
  (nth d.1 (x_14 : Int).toNat).2.2.2.1).1 =
  (0 : Int))) =
  true →
  (x : Int) < (↑(U.tw9 d.1).length : Int)) ∧
  ((!((List.take x_10 d.1).any (U.twinRow (U.tw9 d.1) (x : Int).toNat d.1) ||
  (List.take x_14 d.1).any
  (U.twinAt (U.tw9 d.1) (x : Int).toNat d.1
  (nth d.1 (x_10 : Int).toNat))) &&
  decide
  ((U.comF (nth d.1 (x_10 : Int).toNat).2.2.2.1
  (nth d.1 (x_14 : Int).toNat).2.2.2.1).1 =
  (0 : Int))) =
  true →
  0 ≤ (x_10 : Int)) ∧
  ((!((List.take x_10 d.1).any (U.twinRow (U.tw9 d.1) (x : Int).toNat d.1) ||
  (List.take x_14 d.1).any
  (U.twinAt (U.tw9 d.1) (x : Int).toNat d.1
  (nth d.1 (x_10 : Int).toNat))) &&
  decide
  ((U.comF (nth d.1 (x_10 : Int).toNat).2.2.2.1
  (nth d.1 (x_14 : Int).toNat).2.2.2.1).1 =
  (0 : Int))) =
  true →
  (x_10 : Int) < (d.1.length : Int)) ∧
  ((!((List.take x_10 d.1).any (U.twinRow (U.tw9 d.1) (x : Int).toNat d.1) ||
  (List.take x_14 d.1).any
  (U.twinAt (U.tw9 d.1) (x : Int).toNat d.1
  (nth d.1 (x_10 : Int).toNat))) &&
  decide
  ((U.comF (nth d.1 (x_10 : Int).toNat).2.2.2.1
  (nth d.1 (x_14 : Int).toNat).2.2.2.1).1 =
  (0 : Int))) =
  true →
  0 ≤ (x_14 : Int)) ∧
  ((!((List.take x_10 d.1).any (U.twinRow (U.tw9 d.1) (x : Int).toNat d.1) ||
  (List.take x_14 d.1).any
  (U.twinAt (U.tw9 d.1) (x : Int).toNat d.1
  (nth d.1 (x_10 : Int).toNat))) &&
  decide
  ((U.comF (nth d.1 (x_10 : Int).toNat).2.2.2.1
  (nth d.1 (x_14 : Int).toNat).2.2.2.1).1 =
  (0 : Int))) =
  true →
  (x_14 : Int) < (d.1.length : Int)) ∧
  ((!((List.take x_10 d.1).any (U.twinRow (U.tw9 d.1) (x : Int).toNat d.1) ||
  (List.take x_14 d.1).any
  (U.twinAt (U.tw9 d.1) (x : Int).toNat d.1
  (nth d.1 (x_10 : Int).toNat))) &&
  (decide
  ((U.comF (nth d.1 (x_10 : Int).toNat).2.2.2.1
  (nth d.1 (x_14 : Int).toNat).2.2.2.1).1 =
  (0 : Int)) &&
  decide
  (nth (U.tw9 d.1) (x : Int).toNat =
  ((nth d.1 (x_10 : Int).toNat).2.1,
  (nth d.1 (x_14 : Int).toNat).2.1, ())))) =
  true →
  0 ≤ (x_10 : Int)) ∧
  ((!((List.take x_10 d.1).any
  (U.twinRow (U.tw9 d.1) (x : Int).toNat d.1) ||
  (List.take x_14 d.1).any
  (U.twinAt (U.tw9 d.1) (x : Int).toNat d.1
  (nth d.1 (x_10 : Int).toNat))) &&
  (decide
  ((U.comF (nth d.1 (x_10 : Int).toNat).2.2.2.1
  (nth d.1 (x_14 : Int).toNat).2.2.2.1).1 =
  (0 : Int)) &&
  decide
  (nth (U.tw9 d.1) (x : Int).toNat =
  ((nth d.1 (x_10 : Int).toNat).2.1,
  (nth d.1 (x_14 : Int).toNat).2.1, ())))) =
  true →
  (x_10 : Int) < (d.1.length : Int)) ∧
  ((!((List.take x_10 d.1).any
  (U.twinRow (U.tw9 d.1) (x : Int).toNat d.1) ||
  (List.take x_14 d.1).any
  (U.twinAt (U.tw9 d.1) (x : Int).toNat d.1
  (nth d.1 (x_10 : Int).toNat))) &&
  (decide
  ((U.comF (nth d.1 (x_10 : Int).toNat).2.2.2.1
  (nth d.1 (x_14 : Int).toNat).2.2.2.1).1 =
  (0 : Int)) &&
  decide
  (nth (U.tw9 d.1) (x : Int).toNat =
  ((nth d.1 (x_10 : Int).toNat).2.1,
  (nth d.1 (x_14 : Int).toNat).2.1, ())))) =
  true →
  0 ≤ (x_14 : Int)) ∧
  ((!((List.take x_10 d.1).any
  (U.twinRow (U.tw9 d.1) (x : Int).toNat d.1) ||
  (List.take x_14 d.1).any
  (U.twinAt (U.tw9 d.1) (x : Int).toNat d.1
  (nth d.1 (x_10 : Int).toNat))) &&
  (decide
  ((U.comF (nth d.1 (x_10 : Int).toNat).2.2.2.1
  (nth d.1 (x_14 : Int).toNat).2.2.2.1).1 =
  (0 : Int)) &&
  decide
  (nth (U.tw9 d.1) (x : Int).toNat =
  ((nth d.1 (x_10 : Int).toNat).2.1,
  (nth d.1 (x_14 : Int).toNat).2.1, ())))) =
  true →
  (x_14 : Int) < (d.1.length : Int)) ∧
  ((!((List.take x_10 d.1).any
  (U.twinRow (U.tw9 d.1) (x : Int).toNat d.1) ||
  (List.take x_14 d.1).any
  (U.twinAt (U.tw9 d.1) (x : Int).toNat d.1
  (nth d.1 (x_10 : Int).toNat))) &&
  (decide
  ((U.comF (nth d.1 (x_10 : Int).toNat).2.2.2.1
  (nth d.1 (x_14 : Int).toNat).2.2.2.1).1 =
  (0 : Int)) &&
  decide
  (nth (U.tw9 d.1) (x : Int).toNat =
  ((nth d.1 (x_10 : Int).toNat).2.1,
  (nth d.1 (x_14 : Int).toNat).2.1, ())) &&
  decide
  (band (nth d.1 (x_10 : Int).toNat).2.2.1
  (nth d.1 (x_14 : Int).toNat).2.2.1 ≠
  (0 : Int)))) =
  true →
  0 ≤ (x_10 : Int)) ∧
  ((!((List.take x_10 d.1).any
  (U.twinRow (U.tw9 d.1) (x : Int).toNat d.1) ||
  (List.take x_14 d.1).any
  (U.twinAt (U.tw9 d.1) (x : Int).toNat d.1
  (nth d.1 (x_10 : Int).toNat))) &&
  (decide
  ((U.comF (nth d.1 (x_10 : Int).toNat).2.2.2.1
  (nth d.1
  (↑x_14 :
  Int).toNat).2.2.2.1).1 =
  (0 : Int)) &&
  decide
  (nth (U.tw9 d.1) (x : Int).toNat =
  ((nth d.1 (x_10 : Int).toNat).2.1,
  (nth d.1 (x_14 : Int).toNat).2.1, ())) &&
  decide
  (band (nth d.1 (x_10 : Int).toNat).2.2.1
  (nth d.1 (x_14 : Int).toNat).2.2.1 ≠
  (0 : Int)))) =
  true →
  (x_10 : Int) < (d.1.length : Int)) ∧
  ((!((List.take x_10 d.1).any
  (U.twinRow (U.tw9 d.1) (x : Int).toNat d.1) ||
  (List.take x_14 d.1).any
  (U.twinAt (U.tw9 d.1) (x : Int).toNat d.1
  (nth d.1 (x_10 : Int).toNat))) &&
  (decide
  ((U.comF (nth d.1 (x_10 : Int).toNat).2.2.2.1
  (nth d.1
  (↑x_14 :
  Int).toNat).2.2.2.1).1 =
  (0 : Int)) &&
  decide
  (nth (U.tw9 d.1) (x : Int).toNat =
  ((nth d.1 (x_10 : Int).toNat).2.1,
  (nth d.1 (x_14 : Int).toNat).2.1, ())) &&
  decide
  (band (nth d.1 (x_10 : Int).toNat).2.2.1
  (nth d.1 (x_14 : Int).toNat).2.2.1 ≠
  (0 : Int)))) =
  true →
  0 ≤ (x_14 : Int)) ∧
  ((!((List.take x_10 d.1).any
  (U.twinRow (U.tw9 d.1) (x : Int).toNat d.1) ||
  (List.take x_14 d.1).any
  (U.twinAt (U.tw9 d.1) (x : Int).toNat d.1
  (nth d.1 (x_10 : Int).toNat))) &&
  (decide
  ((U.comF
  (nth d.1 (x_10 : Int).toNat).2.2.2.1
  (nth d.1
  (↑x_14 :
  Int).toNat).2.2.2.1).1 =
  (0 : Int)) &&
  decide
  (nth (U.tw9 d.1) (x : Int).toNat =
  ((nth d.1 (x_10 : Int).toNat).2.1,
  (nth d.1 (x_14 : Int).toNat).2.1, ())) &&
  decide
  (band (nth d.1 (x_10 : Int).toNat).2.2.1
  (nth d.1 (x_14 : Int).toNat).2.2.1 ≠
  (0 : Int)))) =
  true →
  (x_14 : Int) < (d.1.length : Int)) ∧
  ((!((List.take x_10 d.1).any
  (U.twinRow (U.tw9 d.1) (x : Int).toNat d.1) ||
  (List.take x_14 d.1).any
  (U.twinAt (U.tw9 d.1) (x : Int).toNat d.1
  (nth d.1 (x_10 : Int).toNat))) &&
  (decide
  ((U.comF
  (nth d.1
  (x_10 : Int).toNat).2.2.2.1
  (nth d.1
  (↑x_14 :
  Int).toNat).2.2.2.1).1 =
  (0 : Int)) &&
  decide
  (nth (U.tw9 d.1) (x : Int).toNat =
  ((nth d.1 (x_10 : Int).toNat).2.1,
  (nth d.1 (x_14 : Int).toNat).2.1, ())) &&
  decide
  (band (nth d.1 (x_10 : Int).toNat).2.2.1
  (nth d.1 (x_14 : Int).toNat).2.2.1 ≠
  (0 : Int)))) =
  true →
  0 ≤ (x_10 : Int)) ∧
  ((!((List.take x_10 d.1).any
  (U.twinRow (U.tw9 d.1) (x : Int).toNat
  d.1) ||
  (List.take x_14 d.1).any
  (U.twinAt (U.tw9 d.1) (x : Int).toNat d.1
  (nth d.1 (x_10 : Int).toNat))) &&
  (decide
  ((U.comF
  (nth d.1
  (↑x_10 :
  Int).toNat).2.2.2.1
  (nth d.1
  (↑x_14 :
  Int).toNat).2.2.2.1).1 =
  (0 : Int)) &&
  decide
  (nth (U.tw9 d.1) (x : Int).toNat =
  ((nth d.1 (x_10 : Int).toNat).2.1,
  (nth d.1 (x_14 : Int).toNat).2.1,
  ())) &&
  decide
  (band (nth d.1 (x_10 : Int).toNat).2.2.1
  (nth d.1 (x_14 : Int).toNat).2.2.1 ≠
  (0 : Int)))) =
  true →
  (x_10 : Int) < (d.1.length : Int)) ∧
  ((!((List.take x_10 d.1).any
  (U.twinRow (U.tw9 d.1) (x : Int).toNat
  d.1) ||
  (List.take x_14 d.1).any
  (U.twinAt (U.tw9 d.1) (x : Int).toNat d.1
  (nth d.1 (x_10 : Int).toNat))) &&
  (decide
  ((U.comF
  (nth d.1
  (↑x_10 :
  Int).toNat).2.2.2.1
  (nth d.1
  (↑x_14 :
  Int).toNat).2.2.2.1).1 =
  (0 : Int)) &&
  decide
  (nth (U.tw9 d.1) (x : Int).toNat =
  ((nth d.1 (x_10 : Int).toNat).2.1,
  (nth d.1 (x_14 : Int).toNat).2.1,
  ())) &&
  decide
  (band (nth d.1 (x_10 : Int).toNat).2.2.1
  (nth d.1 (x_14 : Int).toNat).2.2.1 ≠
  (0 : Int)))) =
  true →
  0 ≤ (x_14 : Int)) ∧
  ((!((List.take x_10 d.1).any
  (U.twinRow (U.tw9 d.1) (x : Int).toNat
  d.1) ||
  (List.take x_14 d.1).any
  (U.twinAt (U.tw9 d.1) (x : Int).toNat d.1
  (nth d.1 (x_10 : Int).toNat))) &&
  (decide
  ((U.comF
  (nth d.1
  (↑x_10 :
  Int).toNat).2.2.2.1
  (nth d.1
  (↑x_14 :
  Int).toNat).2.2.2.1).1 =
  (0 : Int)) &&
  decide
  (nth (U.tw9 d.1) (x : Int).toNat =
  ((nth d.1 (x_10 : Int).toNat).2.1,
  (nth d.1 (x_14 : Int).toNat).2.1,
  ())) &&
  decide
  (band
  (nth d.1 (x_10 : Int).toNat).2.2.1
  (nth d.1
  (x_14 : Int).toNat).2.2.1 ≠
  (0 : Int)))) =
  true →
  (x_14 : Int) < (d.1.length : Int)) ∧
  In64 ((x_14 : Int) + 1) ∧
  ∃ (x' : Nat),
  (((x_14 : Int) + 1 = (x' : Int) ∧
  ((List.take x_10 d.1).any
  (U.twinRow (U.tw9 d.1)
  (x : Int).toNat d.1) ||
  (List.take x_14 d.1).any
  (U.twinAt (U.tw9 d.1)
  (x : Int).toNat d.1
  (nth d.1 (x_10 : Int).toNat)) ||
  decide
  ((U.comF
  (nth d.1
  (↑x_10 :
  Int).toNat).2.2.2.1
  (nth d.1
  (↑x_14 :
  Int).toNat).2.2.2.1).1 =
  (0 : Int)) &&
  decide
  (nth (U.tw9 d.1)
  (x : Int).toNat =
  ((nth d.1
  (↑x_10 :
  Int).toNat).2.1,
  (nth d.1
  (↑x_14 :
  Int).toNat).2.1,
  ())) &&
  decide
  (band
  (nth d.1
  (↑x_10 :
  Int).toNat).2.2.1
  (nth d.1
  (↑x_14 :
  Int).toNat).2.2.1 ≠
  (0 : Int)) &&
  decide
  (max
  (nth d.1
  (↑x_10 :
  Int).toNat).2.2.2.2.1.1
  (nth d.1
  (↑x_14 :
  Int).toNat).2.2.2.2.1.1 ≤
  min
  (nth d.1
  (↑x_10 :
  Int).toNat).2.2.2.2.1.2.1
  (nth d.1
  (↑x_14 :
  Int).toNat).2.2.2.2.1.2.1)) =
  ((List.take x_10 d.1).any
  (U.twinRow (U.tw9 d.1)
  (x : Int).toNat d.1) ||
  (List.take x' d.1).any
  (U.twinAt (U.tw9 d.1) (x : Int).toNat
  d.1
  (nth d.1 (x_10 : Int).toNat))) ∧
  True) ∧
  True) ∧
  x' ≤ d.1.length ∧
  d.1.length - x' < d.1.length - x_14)) ∧
  (decide ((x_14 : Int) < (d.1.length : Int)) = false →
  In64 ((x_10 : Int) + 1) ∧
  ∃ (x' : Nat),
  (((x_10 : Int) + 1 = (x' : Int) ∧
  ((List.take x_10 d.1).any (U.twinRow (U.tw9 d.1) (x : Int).toNat d.1) ||
  (List.take x_14 d.1).any
  (U.twinAt (U.tw9 d.1) (x : Int).toNat d.1 (nth d.1 (x_10 : Int).toNat))) =
  (List.take x' d.1).any (U.twinRow (U.tw9 d.1) (x : Int).toNat d.1) ∧
  True) ∧
  True) ∧
  x' ≤ d.1.length ∧ d.1.length - x' < d.1.length - x_10)) ∧
  (decide ((x_10 : Int) < (d.1.length : Int)) = false →
  ((!!(List.take x_10 d.1).any (U.twinRow (U.tw9 d.1) (x : Int).toNat d.1)) = true → 0 ≤ (x : Int)) ∧
  ((!!(List.take x_10 d.1).any (U.twinRow (U.tw9 d.1) (x : Int).toNat d.1)) = true →
  (x : Int) < (↑(U.tw9 d.1).length : Int)) ∧
  ((!!(List.take x_10 d.1).any (U.twinRow (U.tw9 d.1) (x : Int).toNat d.1)) = true → (0 : Int) ≤ (0 : Int)) ∧
  ((!!(List.take x_10 d.1).any (U.twinRow (U.tw9 d.1) (x : Int).toNat d.1)) = true →
  0 ≤ (x : Int)) ∧
  ((!!(List.take x_10 d.1).any (U.twinRow (U.tw9 d.1) (x : Int).toNat d.1)) = true →
  (x : Int) < (↑(U.tw9 d.1).length : Int)) ∧
  ((!!(List.take x_10 d.1).any (U.twinRow (U.tw9 d.1) (x : Int).toNat d.1)) = true →
  (0 : Int) ≤ (1 : Int)) ∧
  ((!(List.take x_10 d.1).any (U.twinRow (U.tw9 d.1) (x : Int).toNat d.1) ||
  decide
  ((nth (U.tw9 d.1) (x : Int).toNat).2.1 ≤ (nth (U.tw9 d.1) (x : Int).toNat).1)) =
  true →
  (false, ()) = (true, ())) ∧
  ((!(List.take x_10 d.1).any (U.twinRow (U.tw9 d.1) (x : Int).toNat d.1) ||
  decide
  ((nth (U.tw9 d.1) (x : Int).toNat).2.1 ≤ (nth (U.tw9 d.1) (x : Int).toNat).1)) =
  false →
  In64 ((x : Int) + 1) ∧
  ∃ (x' : Nat),
  (((x : Int) + 1 = (x' : Int) ∧ True) ∧ True) ∧
  x' ≤ (U.tw9 d.1).length ∧ (U.tw9 d.1).length - x' < (U.tw9 d.1).length - x))) ∧
  (decide ((x : Int) < (↑(U.tw9 d.1).length : Int)) = false → (true, ()) = (true, ())))))))

theorem vc9_eq : fnVC (ctx 317 ((15, sp15) :: FS) []) (an9) Tryz.f9 (bodyOf Tryz.f9) sp9 = vc9 := by kernel_rfl


end Go.X
/-
  Signs: the twins.
-/
namespace Go.X
open Go.Proofs

theorem two_pos {n : Int} (h : 0 ≤ n) (h2 : n ≤ 59) {m : Nat} (hm : n.toNat ≤ m) : 1 ≤ U.two n ∧ U.two n ≤ 2 ^ m := pow_le hm
theorem has_two {n m : Int} (h : 0 ≤ n) (h2 : n ≤ 59) : U.has (U.two n) m = decide (m = n) := by
  unfold U.has U.two
  by_cases hm : 0 ≤ m ∧ m < 60
  · rw [decide_eq_true hm, Bool.true_and, bit_two (by omega) hm.1]
    exact decide_eq_decide.2 ⟨fun h => by omega, fun h => by omega⟩
  · rw [decide_eq_false hm, Bool.false_and, decide_eq_false (by omega)]
theorem emb_self : ∀ {ms : List Int}, (∀ m, m ∈ ms → U.okMove m = true) → emb (ms.map U.two) ms = true
  | [], _ => rfl
  | m :: r, h => by
    have h0 := okMove_iff.1 (h m (by simp))
    rw [List.map_cons, emb_cc, emb_self (fun x hx => h x (List.mem_cons_of_mem _ hx))]
    unfold U.two
    rw [bit_two (by omega) h0.1, decide_eq_true (by omega)]
    rfl
theorem emb_same : ∀ {ms gs : List Int}, (∀ m, m ∈ ms → U.okMove m = true) → (∀ m, m ∈ gs → U.okMove m = true) → emb (ms.map U.two) gs = true → gs.length ≤ ms.length → gs = ms
  | [], [], _, _, _, _ => rfl
  | [], g :: t, _, _, _, h => by simp at h
  | m :: r, [], _, _, h, _ => by simp [emb] at h
  | m :: r, g :: t, hm, hg, h, hl => by
    simp only [List.length_cons] at hl
    rw [List.map_cons, emb_cc, Bool.or_eq_true, Bool.and_eq_true] at h
    rcases h with ⟨h1, h2⟩ | h
    · have h0 := okMove_iff.1 (hm m (by simp))
      have g0 := okMove_iff.1 (hg g (by simp))
      unfold U.two at h1
      rw [bit_two (by omega) g0.1, decide_eq_true_iff] at h1
      have e : g = m := by omega
      rw [e, emb_same (fun x hx => hm x (List.mem_cons_of_mem _ hx)) (fun x hx => hg x (List.mem_cons_of_mem _ hx)) h2 (by omega)]
    · have := emb_len h
      simp only [List.length_cons, List.length_map] at this
      omega
theorem moves_ok {f : FmD} (h : U.okForm f = true) : ∀ m, m ∈ U.mv f → U.okMove m = true := List.all_eq_true.1 (okForm_moves h)
theorem okForm_u {f : FmD} (h : U.okForm f = true) : -1 ≤ U.rt f ∧ U.rt f ≤ 31 ∧ -1 ≤ U.lf f ∧ U.lf f ≤ 31 ∧ 0 ≤ U.fc f ∧ U.fc f ≤ 7 := by
  unfold U.okForm at h
  simp only [Bool.and_eq_true, decide_eq_true_eq] at h
  omega
theorem shown_iff {f g : FmD} (hf : U.okForm f = true) (hg : U.okForm g = true) {r a : Int} : U.shownR g (U.seen f r a (U.mv f)) = true ↔ g = f := by
  obtain ⟨f1, f2, f3, f4, f5, f6⟩ := okForm_u hf
  have e : U.shownR g (U.seen f r a (U.mv f)) = (U.has (U.two (U.rt f + 1)) (U.rt g + 1) && U.has (U.two (U.lf f + 1)) (U.lf g + 1) && U.has (U.two (U.fc f)) (U.fc g) && U.within (U.co g) (U.co f) (U.co f) && U.within (U.rw' g) (U.rw' f) (U.rw' f) && U.fits (U.mv g) ((U.mv f).map U.two) 0) := rfl
  rw [e, has_two (by omega) (by omega), has_two (by omega) (by omega), has_two (by omega) (by omega), fits_emb _ _ _ (moves_ok hg) (Int.le_refl _)]
  unfold U.within
  simp only [Bool.and_eq_true, decide_eq_true_eq, List.length_map]
  constructor
  · rintro ⟨⟨⟨⟨⟨h1, h2⟩, h3⟩, h4⟩, h5⟩, h6, h7⟩
    have := emb_same (moves_ok hf) (moves_ok hg) h6 (by omega)
    exact fm_ext (show U.rt g = U.rt f by omega) (show U.lf g = U.lf f by omega) (show U.co g = U.co f by omega) (show U.rw' g = U.rw' f by omega) (show U.fc g = U.fc f by omega) this
  · rintro rfl
    exact ⟨⟨⟨⟨⟨rfl, rfl⟩, rfl⟩, by omega⟩, by omega⟩, emb_self (moves_ok hf), by omega⟩
theorem okE_u {x : ED} (h : U.okE x = true) : 1 ≤ U.rg x ∧ U.rg x ≤ 255 ∧ 0 ≤ U.lo (U.ag x) ∧ U.lo (U.ag x) ≤ U.hi (U.ag x) ∧ U.hi (U.ag x) ≤ 120 := by
  unfold U.okE at h
  simp only [Bool.and_eq_true, decide_eq_true_eq] at h
  omega
theorem seen_ok {f : FmD} (hf : U.okForm f = true) {r a : Int} (hr : 0 ≤ r ∧ r ≤ 7) : U.okS (U.seen f r a (U.mv f)) = true := by
  obtain ⟨f1, f2, f3, f4, f5, f6⟩ := okForm_u hf
  have a1 := two_pos (n := U.rt f + 1) (m := 32) (by omega) (by omega) (by omega)
  have a2 := two_pos (n := U.lf f + 1) (m := 32) (by omega) (by omega) (by omega)
  have a3 := two_pos (n := U.fc f) (m := 7) (by omega) (by omega) (by omega)
  have a4 := two_pos (n := r) (m := 7) (by omega) (by omega) (by omega)
  have hlen := okForm_len hf
  refine okS_iff.2 ⟨⟨a1.1, ?_, a2.1, ?_, a3.1, ?_, a4.1, ?_, Int.le_refl _, Int.le_refl _, Int.le_refl _, ?_, Int.le_refl _, ?_⟩, ?_⟩
  · show U.two (U.rt f + 1) ≤ _; omega
  · show U.two (U.lf f + 1) ≤ _; omega
  · show U.two (U.fc f) ≤ _; omega
  · show U.two r ≤ _; omega
  · show ((U.mv f).map U.two).length ≤ 6; rw [List.length_map]; exact hlen
  · show (0 : Int) ≤ 6; omega
  · show ((U.mv f).map U.two).all U.okSet = true
    rw [List.all_eq_true]
    intro y hy
    obtain ⟨m, hm, rfl⟩ := List.mem_map.1 hy
    have h0 := okMove_iff.1 (moves_ok hf m hm)
    have := two_pos (n := m) (m := 7) (by omega) (by omega) (by omega)
    unfold U.okSet
    exact decide_eq_true (by omega)
theorem agrees_iff {x : ED} (hx : U.okE x = true) {f : FmD} (hf : U.okForm f = true) {r a : Int} (hr : 0 ≤ r ∧ r ≤ 7) : U.agreesR x (U.seen f r a (U.mv f)) = true ↔ U.bit (U.rg x) r = true ∧ (U.lo (U.ag x) ≤ a ∧ a ≤ U.hi (U.ag x)) ∧ (U.fm x = f ∨ U.mir (U.fm x) = f) := by
  obtain ⟨x1, x2, x3, x4, x5⟩ := okE_u hx
  have hg := okE_form hx
  have e : U.agreesR x (U.seen f r a (U.mv f)) = (decide (band (U.rg x) (2 ^ r.toNat) ≠ 0) && decide (max (U.lo (U.ag x)) a ≤ min (U.hi (U.ag x)) a) && (U.shownR (U.fm x) (U.seen f r a (U.mv f)) || U.shownR (U.mir (U.fm x)) (U.seen f r a (U.mv f)))) := rfl
  rw [e, Bool.and_eq_true, Bool.and_eq_true, Bool.or_eq_true, decide_eq_true_iff, decide_eq_true_iff, shown_iff hf hg, shown_iff hf (mir_ok hg), band_two (by omega) (by omega) (by omega)]
  have er : ((r.toNat : Nat) : Int) = r := by omega
  rw [er, and_assoc]
  exact and_congr_right fun _ => and_congr_left fun _ => ⟨fun h => by omega, fun h => by omega⟩
theorem twn_ok {l : List ED} (hb : Book l) : U.twn l = (U.rowsTo l (U.signsR l) (U.signsR l).length, 0, ()) := by
  rw [twn_eq]; unfold U.twnR; rw [if_neg (show ¬ U.chk l ≠ 0 by simp [chk_iff.2 hb])]
theorem twinR_iff {u v : ED} : U.twinR u v = true ↔ U.canR (U.fm u) = U.canR (U.fm v) ∧ band (U.rg u) (U.rg v) ≠ 0 ∧ max (U.lo (U.ag u)) (U.lo (U.ag v)) ≤ min (U.hi (U.ag u)) (U.hi (U.ag v)) := by
  unfold U.twinR
  rw [Bool.and_eq_true, Bool.and_eq_true, decide_eq_true_iff, decide_eq_true_iff, decide_eq_true_iff, order_zero, and_assoc]
/-- what is found is the entry's own sign, or a twin's -/
theorem found_twin {l : List ED} (hb : Book l) {y : ED} (hy : y ∈ l) {r a : Int} (hr : 0 ≤ r ∧ r ≤ 7) (hyr : U.bit (U.rg y) r = true) (ha : U.lo (U.ag y) ≤ a ∧ a ≤ U.hi (U.ag y)) {n : Int} (hn : n ∈ U.findR l (U.seen (U.fm y) r a (U.mv (U.fm y)))) :
    n = U.sg y ∨ (min n (U.sg y), max n (U.sg y), ()) ∈ U.rowsTo l (U.signsR l) (U.signsR l).length := by
  have hyo := hb.ok y hy
  have hf := okE_form hyo
  obtain ⟨x, hx, rfl, hag⟩ := (findR_mem hb).1 hn
  have hxo := hb.ok x hx
  obtain ⟨h1, h2, h3⟩ := (agrees_iff hxo hf hr).1 hag
  have hc : U.canR (U.fm x) = U.canR (U.fm y) := (canR_same (okE_form hxo) hf).2 h3
  obtain ⟨x1, x2, x3, x4, x5⟩ := okE_u hxo
  obtain ⟨y1, y2, y3, y4, y5⟩ := okE_u hyo
  have er : ((r.toNat : Nat) : Int) = r := by omega
  rw [← er] at h1 hyr
  by_cases hs : U.sg x = U.sg y
  · exact .inl hs
  · refine .inr ((twins_mem hb.ok).2 ?_)
    rcases Int.lt_or_gt_of_ne hs with hlt | hlt
    · exact ⟨x, hx, y, hy, hlt, twinR_iff.2 ⟨hc, band_both (by omega) (by omega) (by omega) (by omega) h1 hyr, by omega⟩, by rw [show min (U.sg x) (U.sg y) = U.sg x by omega, show max (U.sg x) (U.sg y) = U.sg y by omega]⟩
    · exact ⟨y, hy, x, hx, hlt, twinR_iff.2 ⟨hc.symm, band_both (by omega) (by omega) (by omega) (by omega) hyr h1, by omega⟩, by rw [show min (U.sg x) (U.sg y) = U.sg y by omega, show max (U.sg x) (U.sg y) = U.sg x by omega]⟩
theorem twinAt_iff {t : List PaD} {k : Nat} {l : List ED} {x y : ED} (hx : U.okE x = true) (hy : U.okE y = true) : U.twinAt t k l x y = true ↔ nth t k = (U.sg x, U.sg y, ()) ∧ U.twinR x y = true := by
  unfold U.twinAt
  rw [comF_ok (okE_form hx) (okE_form hy), Bool.and_eq_true, Bool.and_eq_true, Bool.and_eq_true, decide_eq_true_iff, decide_eq_true_iff, decide_eq_true_iff, decide_eq_true_iff, twinR_iff]
  show ((U.order _ _ = 0 ∧ _) ∧ _) ∧ _ ↔ _
  rw [order_zero]
  constructor
  · rintro ⟨⟨⟨h1, h2⟩, h3⟩, h4⟩; exact ⟨h2, h1, h3, h4⟩
  · rintro ⟨h2, h1, h3, h4⟩; exact ⟨⟨⟨h1, h2⟩, h3⟩, h4⟩
theorem in64_two {n : Int} (h : n ≤ 59) : In64 (1 * 2 ^ n.toNat) := by
  have := pow_le (k := n.toNat) (m := 59) (by omega)
  unfold In64
  omega
theorem tw9_eq {l : List ED} (hb : Book l) : U.twn l = (U.tw9 l, 0, ()) := by
  have := twn_ok hb
  unfold U.tw9; rw [this]
theorem tw9_rows {l : List ED} (hb : Book l) : U.tw9 l = U.rowsTo l (U.signsR l) (U.signsR l).length := by
  unfold U.tw9; rw [twn_ok hb]
theorem tw9_mem {l : List ED} (hb : Book l) {p : PaD} : p ∈ U.tw9 l ↔ ∃ u, u ∈ l ∧ ∃ v, v ∈ l ∧ U.sg u < U.sg v ∧ U.twinR u v = true ∧ p = (U.sg u, U.sg v, ()) := by
  rw [tw9_rows hb]; exact twins_mem hb.ok
theorem h9 : vc9 := by
  intro d _ _
  refine ⟨fun _ => rfl, fun hc => ?_⟩
  simp only [Bool.or_eq_false_iff, Bool.not_eq_false', decide_eq_false_iff_not] at hc
  obtain ⟨⟨hr, he⟩, hlt⟩ := hc
  have hb := ready_book hr
  have hlt' : d.2.1.1.toNat < d.1.length := by omega
  have hy : nth d.1 d.2.1.1.toNat ∈ d.1 := L.mem_nth hlt'
  have hyo := hb.ok _ hy
  have hf := okE_form hyo
  obtain ⟨f1, f2, f3, f4, f5, f6⟩ := okForm_u hf
  have f1 : -1 ≤ (nth d.1 d.2.1.1.toNat).2.2.2.1.1 := f1
  have f2 : (nth d.1 d.2.1.1.toNat).2.2.2.1.1 ≤ 31 := f2
  have f3 : -1 ≤ (nth d.1 d.2.1.1.toNat).2.2.2.1.2.1 := f3
  have f4 : (nth d.1 d.2.1.1.toNat).2.2.2.1.2.1 ≤ 31 := f4
  have f5 : 0 ≤ (nth d.1 d.2.1.1.toNat).2.2.2.1.2.2.2.2.1 := f5
  have f6 : (nth d.1 d.2.1.1.toNat).2.2.2.1.2.2.2.2.1 ≤ 7 := f6
  have hg : (!(decide (d.2.1.2.1 < (0 : Int)) || decide ((7 : Int) < d.2.1.2.1))) = true → 0 ≤ d.2.1.2.1 ∧ d.2.1.2.1 ≤ 7 := by
    intro h
    simp only [Bool.not_eq_true', Bool.or_eq_false_iff, decide_eq_false_iff_not] at h
    omega
  refine ⟨by omega, by omega, fun h => (hg h).1, fun h => by have := hg h; omega, fun h => (hg h).1, fun h => by have := hg h; omega, fun _ => rfl, fun hc => ?_⟩
  simp only [Bool.or_eq_false_iff, decide_eq_false_iff_not] at hc
  obtain ⟨⟨⟨⟨r1, r2⟩, r3⟩, r4⟩, r5⟩ := hc
  have hrr : 0 ≤ d.2.1.2.1 ∧ d.2.1.2.1 ≤ 7 := by omega
  obtain ⟨y1, y2, y3, y4, y5⟩ := okE_u hyo
  have hbit : U.bit (U.rg (nth d.1 d.2.1.1.toNat)) d.2.1.2.1 = true := (band_one (by omega) (by omega) hrr.1).1 r3
  have hage : U.lo (U.ag (nth d.1 d.2.1.1.toNat)) ≤ d.2.1.2.2.1 ∧ d.2.1.2.2.1 ≤ U.hi (U.ag (nth d.1 d.2.1.1.toNat)) := ⟨Int.not_lt.1 r4, Int.not_lt.1 r5⟩
  have hs := seen_ok (a := d.2.1.2.2.1) hf hrr
  have e9 : U.fnd9 d.1 d.2.1 = U.findR d.1 (U.seen (U.fm (nth d.1 d.2.1.1.toNat)) d.2.1.2.1 d.2.1.2.2.1 (U.mv (U.fm (nth d.1 d.2.1.1.toNat)))) := by
    show (U.fnd d.1 (U.seen (U.fm (nth d.1 d.2.1.1.toNat)) d.2.1.2.1 d.2.1.2.2.1 (U.mv (U.fm (nth d.1 d.2.1.1.toNat))))).1 = _
    rw [fnd_ok hb hs]
  have ef : ∀ ms : List Int, ms = (U.mv (U.fm (nth d.1 d.2.1.1.toNat))).map U.two → U.fnd d.1 (U.two (U.rt (U.fm (nth d.1 d.2.1.1.toNat)) + 1), U.two (U.lf (U.fm (nth d.1 d.2.1.1.toNat)) + 1), U.two (U.fc (U.fm (nth d.1 d.2.1.1.toNat))), U.two d.2.1.2.1, 0, (U.co (U.fm (nth d.1 d.2.1.1.toNat)), U.co (U.fm (nth d.1 d.2.1.1.toNat)), ()), (U.rw' (U.fm (nth d.1 d.2.1.1.toNat)), U.rw' (U.fm (nth d.1 d.2.1.1.toNat)), ()), (d.2.1.2.2.1, d.2.1.2.2.1, ()), ms, ()) = (U.fnd9 d.1 d.2.1, 0, ()) := by
    rintro _ rfl
    rw [e9]
    exact fnd_ok hb hs
  have hown : U.sg (nth d.1 d.2.1.1.toNat) ∈ U.fnd9 d.1 d.2.1 := by
    rw [e9]
    exact (findR_mem hb).2 ⟨_, hy, rfl, (agrees_iff hyo hf hrr).2 ⟨hbit, hage, .inl rfl⟩⟩
  have htw : ∀ n, n ∈ U.fnd9 d.1 d.2.1 → n = U.sg (nth d.1 d.2.1.1.toNat) ∨ (min n (U.sg (nth d.1 d.2.1.1.toNat)), max n (U.sg (nth d.1 d.2.1.1.toNat)), ()) ∈ U.tw9 d.1 := by
    intro n hn
    rw [e9] at hn
    have := found_twin hb hy hrr hbit hage hn
    rw [tw9_rows hb]
    exact this
  have hmem := fun p => tw9_mem hb (p := p)
  have et := tw9_eq hb
  have h40 := hb.len
  have hmv := okForm_len hf
  clear e9
  revert ef hown htw hmem et
  generalize U.fnd9 d.1 d.2.1 = F
  generalize U.tw9 d.1 = T
  intro ef hown htw hmem et
  refine ⟨by unfold In64; omega, by omega, by omega, by omega, by omega, in64_two (by omega), by unfold In64; omega, by omega, by omega, by omega, by omega, in64_two (by omega), by omega, by omega, by omega, by omega, in64_two (by omega), by omega, by omega, by omega, by omega, in64_two (by omega),
    ⟨0, ⟨⟨rfl, trivial⟩, ⟨Int.one_mul _, Int.one_mul _, Int.one_mul _, Int.one_mul _, rfl, rfl, rfl, rfl, rfl, rfl, rfl, trivial, trivial⟩, by rw [List.take_zero]; rfl, trivial⟩, Nat.zero_le _⟩, fun x hx _ => ⟨fun h1 => ?_, fun h1 => ?_⟩⟩
  · have h1 : (x : Int) < ((U.mv (U.fm (nth d.1 d.2.1.1.toNat))).length : Int) := of_decide_eq_true h1
    have hx1 : x < (U.mv (U.fm (nth d.1 d.2.1.1.toNat))).length := by omega
    have hm := okMove_iff.1 (moves_ok hf _ (L.mem_nth hx1))
    have hm1 : 0 ≤ nth (nth d.1 d.2.1.1.toNat).2.2.2.1.2.2.2.2.2.1 (x : Int).toNat := hm.1
    have hm2 : nth (nth d.1 d.2.1.1.toNat).2.2.2.1.2.2.2.2.2.1 (x : Int).toNat ≤ 7 := hm.2
    refine ⟨by omega, h1, hm1, by omega, hm1, by omega, in64_two (by omega), ?_, by unfold In64; omega, x + 1, ⟨⟨by omega, trivial⟩, ⟨rfl, rfl, rfl, rfl, rfl, rfl, rfl, rfl, rfl, rfl, rfl, trivial, trivial⟩, ?_, trivial⟩, by omega, by omega⟩
    · rw [List.length_map, List.length_take]
      show (_ + 1) * 8 ≤ _
      omega
    · rw [L.take_succ hx1, List.map_append]
      congr 1
      show [(1 : Int) * _] = [_]
      rw [Int.one_mul]; rfl
  · have h1 : ¬ (x : Int) < ((U.mv (U.fm (nth d.1 d.2.1.1.toNat))).length : Int) := of_decide_eq_false h1
    rw [ef _ (by rw [List.take_of_length_le (by omega)]), et]
    refine ⟨fun h => ?_, fun _ => ⟨⟨0, ⟨⟨rfl, rfl, rfl, trivial⟩, trivial⟩, Nat.zero_le _⟩, fun x hx hFl => ⟨fun h2 => ?_, fun _ => ⟨⟨0, ⟨⟨rfl, trivial⟩, trivial⟩, Nat.zero_le _⟩, fun x hx hTl => ⟨fun h2 => ?_, fun _ => rfl⟩⟩⟩⟩⟩
    · exfalso
      have h : (decide ((0 : Int) ≠ 0) || decide ((0 : Int) ≠ 0) || !decide (U.sg (nth d.1 d.2.1.1.toNat) ∈ F)) = true := h
      rw [decide_eq_true hown] at h
      exact absurd h (by decide)
    · have h2 : (x : Int) < (F.length : Int) := of_decide_eq_true h2
      have hxF : x < F.length := by omega
      have hn := htw _ (L.mem_nth hxF)
      have a0 : (0 : Int) ≤ (x : Int) := by omega
      refine ⟨a0, h2, ⟨0, ⟨⟨rfl, by rw [List.take_zero]; exact (Bool.or_false _).symm, trivial⟩, trivial⟩, Nat.zero_le _⟩, fun y hy hTl => ⟨fun h3 => ?_, fun h3 => ?_⟩⟩
      · have h3 : (y : Int) < (T.length : Int) := of_decide_eq_true h3
        have hyT : y < T.length := by omega
        refine ⟨fun _ => by omega, fun _ => h3, fun _ => a0, fun _ => h2, fun _ => a0, fun _ => h2, by unfold In64; omega, y + 1, ⟨⟨by omega, ?_, trivial⟩, trivial⟩, by omega, by omega⟩
        unfold U.eqPair
        rw [L.take_succ hyT, List.any_append, ← Bool.or_assoc]
        simp only [List.any_cons, List.any_nil, Bool.or_false]
        rfl
      · have h3 : ¬ (y : Int) < (T.length : Int) := of_decide_eq_false h3
        refine ⟨fun h => ?_, fun _ => ⟨by unfold In64; omega, x + 1, ⟨⟨rfl, rfl, by omega, trivial⟩, trivial⟩, by omega, by omega⟩⟩
        exfalso
        rw [List.take_of_length_le (by omega), Bool.not_eq_true', Bool.or_eq_false_iff, decide_eq_false_iff_not] at h
        rcases hn with hn | hn
        · exact h.1 hn
        · have : U.eqPair T (min (nth F x) (U.sg (nth d.1 d.2.1.1.toNat)), max (nth F x) (U.sg (nth d.1 d.2.1.1.toNat)), ()) = true := List.any_eq_true.2 ⟨_, hn, decide_eq_true rfl⟩
          have h := h.2
          rw [show (x : Int).toNat = x from rfl, this] at h
          cases h
    · have h2 : (x : Int) < (T.length : Int) := of_decide_eq_true h2
      have hxT : x < T.length := by omega
      have a0 : (0 : Int) ≤ (x : Int) := by omega
      obtain ⟨u, hu, v, hv, huv, htr, hp⟩ := (hmem _).1 (L.mem_nth hxT)
      refine ⟨⟨0, ⟨⟨rfl, by rw [List.take_zero]; rfl, trivial⟩, trivial⟩, Nat.zero_le _⟩, fun y hy _ => ⟨fun h3 => ⟨⟨0, ⟨⟨rfl, by rw [List.take_zero]; exact (Bool.or_false _).symm, trivial⟩, trivial⟩, Nat.zero_le _⟩, fun z hz _ => ⟨fun h4 => ?_, fun h4 => ?_⟩⟩, fun h3 => ?_⟩⟩
      · have h3 : (y : Int) < (d.1.length : Int) := of_decide_eq_true h3
        have h4 : (z : Int) < (d.1.length : Int) := of_decide_eq_true h4
        have hyl : y < d.1.length := by omega
        have hzl : z < d.1.length := by omega
        have b0 : (0 : Int) ≤ (y : Int) := by omega
        have c0 : (0 : Int) ≤ (z : Int) := by omega
        refine ⟨b0, h3, c0, h4, fun h => ?_, fun _ => ?_⟩
        · exfalso
          have h : decide ((U.comF (U.fm (nth d.1 y)) (U.fm (nth d.1 z))).2.1 ≠ 0) = true := h
          rw [comF_ok (okE_form (hb.ok _ (L.mem_nth hyl))) (okE_form (hb.ok _ (L.mem_nth hzl)))] at h
          exact absurd h (by simp)
        · repeat (first | refine And.intro (fun _ => by first | exact a0 | exact h2 | exact b0 | exact h3 | exact c0 | exact h4) ?_)
          refine ⟨by unfold In64; omega, z + 1, ⟨⟨by omega, ?_, trivial⟩, trivial⟩, by omega, by omega⟩
          rw [L.take_succ hzl, List.any_append, ← Bool.or_assoc]
          simp only [List.any_cons, List.any_nil, Bool.or_false]
          rfl
      · have h3 : (y : Int) < (d.1.length : Int) := of_decide_eq_true h3
        have h4 : ¬ (z : Int) < (d.1.length : Int) := of_decide_eq_false h4
        refine ⟨by unfold In64; omega, y + 1, ⟨⟨by omega, ?_, trivial⟩, trivial⟩, by omega, by omega⟩
        rw [L.take_succ (by omega : y < d.1.length), List.any_append, List.take_of_length_le (by omega : d.1.length ≤ z)]
        simp only [List.any_cons, List.any_nil, Bool.or_false]
        rfl
      · have h3 : ¬ (y : Int) < (d.1.length : Int) := of_decide_eq_false h3
        refine ⟨fun _ => a0, fun _ => h2, fun _ => Int.le_refl _, fun _ => a0, fun _ => h2, fun _ => by decide, fun h => ?_, fun _ => ⟨by unfold In64; omega, x + 1, ⟨⟨by omega, trivial⟩, trivial⟩, by omega, by omega⟩⟩
        exfalso
        rw [List.take_of_length_le (by omega), Bool.or_eq_true, Bool.not_eq_true', decide_eq_true_iff, show (x : Int).toNat = x from rfl] at h
        rcases h with h | h
        · have h5 : U.twinAt T x d.1 u v = true := (twinAt_iff (hb.ok u hu) (hb.ok v hv)).2 ⟨hp, htr⟩
          have h6 : U.twinRow T x d.1 u = true := List.any_eq_true.2 ⟨v, hv, h5⟩
          rw [List.any_eq_true.2 ⟨u, hu, h6⟩] at h
          cases h
        · rw [hp] at h
          have h : U.sg v ≤ U.sg u := h
          omega
theorem ok9 : FnOK PR 9 sp9 := mkFn (vc9_eq.mpr h9) Tryz.func9 (by kernel_rfl) (by kernel_rfl) (by kernel_rfl) (by kernel_rfl) ⟨fun _ => ok15, fun _ => ok14, fun _ => ok18, fun _ => ok20, fun _ => ok22, fun _ => ok23, fun _ => ok26, fun _ => ok27, fun _ => ok28, fun _ => ok29, fun _ => ok32, fun _ => ok34, fun _ => ok37, fun _ => ok39, fun _ => ok43, fun _ => ok44, fun _ => ok48, fun _ => ok49, trivial⟩ trivial

end Go.X
