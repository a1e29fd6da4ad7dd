/-
  Signs: bits, and what is seen of a form, plainly.
-/
import Derived.Test.YtafidkjlgchbbaaGreatG5
namespace Go.X
open Go.Proofs

/-! ### Books that are ready, and what is found in them -/

theorem long_iff {l : List ED} : U.long l = false ↔ l.length ≤ 60 ∧ ∀ x, x ∈ l → (U.mv (U.fm x)).length ≤ 20 := by
  unfold U.long
  rw [Bool.or_eq_false_iff, decide_eq_false_iff_not, List.any_eq_false]
  constructor
  · rintro ⟨h1, h2⟩
    exact ⟨by omega, fun x hx => by have := h1 x hx; rw [decide_eq_true_iff] at this; omega⟩
  · rintro ⟨h1, h2⟩
    exact ⟨fun x hx => by have := h2 x hx; rw [decide_eq_true_iff]; omega, by omega⟩
theorem far_long {l : List ED} (h : U.far l = false) : U.long l = false := by
  unfold U.far at h
  rw [Bool.or_eq_false_iff] at h; exact h.1
theorem long_copy {l : List ED} (h : U.long l = false) : l.length ≤ 1000 ∧ ∀ x, x ∈ l → (U.mv (U.fm x)).length ≤ 1000 := by
  obtain ⟨h1, h2⟩ := long_iff.1 h
  exact ⟨by omega, fun x hx => by have := h2 x hx; omega⟩
theorem ready_iff {l : List ED} : U.ready l = true ↔ U.far l = false ∧ U.chk l = 0 := by
  unfold U.ready
  rw [Bool.and_eq_true, Bool.not_eq_true', decide_eq_true_iff]
theorem ready_book {l : List ED} (h : U.ready l = true) : Book l := chk_iff.1 (ready_iff.1 h).2
theorem lookR_ok {l : List ED} (hb : Book l) {s : SnD} (hs : U.okS s = true) : U.lookR l s = 0 := by
  unfold U.lookR
  rw [if_neg (show ¬ U.chk l ≠ 0 by simp [chk_iff.2 hb]), if_neg (by rw [hs]; simp)]
theorem fnd_ok {l : List ED} (hb : Book l) {s : SnD} (hs : U.okS s = true) : U.fnd l s = (U.findR l s, 0, ()) := by
  rw [fnd_eq]; unfold U.fndR; rw [lookR_ok hb hs, if_neg (by simp)]
theorem findR_mem {l : List ED} (hb : Book l) {s : SnD} {n : Int} : n ∈ U.findR l s ↔ ∃ x, x ∈ l ∧ U.sg x = n ∧ U.agreesR x s = true := by
  unfold U.findR
  rw [findTo_mem]
  constructor
  · exact fun h => h.2
  · rintro ⟨x, hx, rfl, h⟩
    have := okE_sg (hb.ok x hx)
    exact ⟨⟨this.1, by omega⟩, x, hx, rfl, h⟩
theorem findR_asc (l : List ED) (s : SnD) : (U.findR l s).Pairwise (fun a b => a < b) := findTo_asc l s 1000
theorem findR_len {l : List ED} (hb : Book l) {s : SnD} (hs : U.okS s = true) : (U.findR l s).length ≤ l.length := by
  rw [← find_eq hb hb.reps (okS_seen hs)]
  refine Nat.le_trans (find_len _ _) ?_
  unfold U.vals
  rw [List.length_map, hb.opn]
  have := addTo_len [] l
  simpa using this
/-- the canon of a form and of its mirror form are the same -/
theorem canR_mir {f : FmD} (h : U.okForm f = true) : U.canR (U.mir f) = U.canR f := by
  have ha := order_ok.anti f (U.mir f)
  unfold U.canR
  rw [mir_mir h]
  by_cases h1 : U.order (U.mir f) f < 0
  · rw [if_pos h1, if_neg (by omega)]
  · rw [if_neg h1]
    by_cases h2 : U.order f (U.mir f) < 0
    · rw [if_pos h2]
    · rw [if_neg h2]
      exact (order_zero.1 (by omega))
theorem canR_or (f : FmD) : U.canR f = f ∨ U.canR f = U.mir f := by
  unfold U.canR; split
  · exact .inr rfl
  · exact .inl rfl
theorem canR_same {a b : FmD} (ha : U.okForm a = true) (hb : U.okForm b = true) : U.canR a = U.canR b ↔ a = b ∨ U.mir a = b := by
  constructor
  · intro h
    rcases canR_or a with e1 | e1 <;> rcases canR_or b with e2 | e2
    · exact .inl (by rw [← e1, ← e2, h])
    · refine .inr ?_
      have : a = U.mir b := by rw [← e1, ← e2, h]
      rw [this, mir_mir hb]
    · exact .inr (by rw [← e1, ← e2, h])
    · refine .inl ?_
      have : U.mir a = U.mir b := by rw [← e1, ← e2, h]
      rw [← mir_mir ha, this, mir_mir hb]
  · rintro (rfl | rfl)
    · rfl
    · exact (canR_mir ha).symm
theorem canF_ok {f : FmD} (h : U.okForm f = true) : U.canF f = (U.canR f, 0, ()) := by rw [canF_eq]; unfold U.canRF; rw [if_pos h]
theorem comF_ok {a b : FmD} (ha : U.okForm a = true) (hb : U.okForm b = true) : U.comF a b = (U.order (U.canR a) (U.canR b), 0, ()) := by
  rw [comF_eq]; unfold U.comRF; rw [if_pos ⟨ha, hb⟩]
theorem pow_le {k m : Nat} (h : k ≤ m) : (1 : Int) ≤ 2 ^ k ∧ (2 : Int) ^ k ≤ 2 ^ m := by
  have h1 : (1 : Nat) ≤ 2 ^ k := Nat.one_le_two_pow
  have h2 : (2 : Nat) ^ k ≤ 2 ^ m := Nat.pow_le_pow_right (by decide) h
  have e : ∀ j : Nat, ((2 : Int) ^ j) = ((2 ^ j : Nat) : Int) := fun j => by simp
  rw [e, e]
  omega
theorem has_range {N n : Int} (h : U.has N n = true) : 0 ≤ n ∧ U.bit N n = true := by
  unfold U.has at h
  rw [Bool.and_eq_true, decide_eq_true_iff] at h
  exact ⟨h.1.1, h.2⟩
theorem bit_small {N : Int} {m : Nat} (hN : 1 ≤ N) (hm : N < 2 ^ m) (hm2 : m ≤ 62) {n : Int} (h0 : 0 ≤ n) (h : U.bit N n = true) : n.toNat < m := by
  obtain ⟨k, rfl⟩ : ∃ k : Nat, N = (k : Int) := ⟨N.toNat, by omega⟩
  obtain ⟨i, rfl⟩ : ∃ i : Nat, n = (i : Int) := ⟨n.toNat, by omega⟩
  have hk : k < 2 ^ m := by
    have e : ((2 : Int) ^ m) = ((2 ^ m : Nat) : Int) := by simp
    rw [e] at hm; omega
  have hk2 : k < 2 ^ 63 := Nat.lt_of_lt_of_le hk (Nat.pow_le_pow_right (by decide) (by omega))
  rw [bit_nat hk2] at h
  have := Nat.ge_two_pow_of_testBit h
  show i < m
  rcases Nat.lt_or_ge i m with h1 | h1
  · exact h1
  · have := Nat.pow_le_pow_right (n := 2) (by decide) h1
    omega
theorem okS_iff {s : SnD} : U.okS s = true ↔ (1 ≤ U.rights s ∧ U.rights s ≤ 8589934591 ∧ 1 ≤ U.lefts s ∧ U.lefts s ≤ 8589934591 ∧ 1 ≤ U.faces s ∧ U.faces s ≤ 255 ∧ 1 ≤ U.rgs s ∧ U.rgs s ≤ 255 ∧ U.lo (U.cols s) ≤ U.hi (U.cols s) ∧ U.lo (U.rows s) ≤ U.hi (U.rows s) ∧ U.lo (U.ages s) ≤ U.hi (U.ages s) ∧ (U.mvs s).length ≤ 6 ∧ 0 ≤ U.lost s ∧ U.lost s ≤ 6) ∧ (U.mvs s).all U.okSet = true := by
  unfold U.okS; rw [Bool.and_eq_true, decide_eq_true_iff]
theorem ask_none {l : List ED} (hb : Book l) {s : SnD} (hs : U.okS s = true) (h : U.findR l s = []) : U.ask l s = (0, 0, 3, ()) := by
  rw [ask_eq]; unfold U.askR; rw [lookR_ok hb hs, if_neg (by simp), if_pos h]
theorem ask_some {l : List ED} (hb : Book l) {s : SnD} (hs : U.okS s = true) (h : U.findR l s ≠ []) : U.ask l s = ((U.bestR l s 5).1, (U.bestR l s 5).2, 0, ()) := by
  rw [ask_eq]; unfold U.askR; rw [lookR_ok hb hs, if_neg (by simp), if_neg h]
theorem findR_1000 (l : List ED) (s : SnD) : (U.findR l s).length ≤ 1000 := findTo_len l s 1000

/-! ### Bits -/

theorem two_nat (k : Nat) : (2 : Int) ^ k = ((2 ^ k : Nat) : Int) := by simp
theorem pow63 {k : Nat} (h : k ≤ 62) : 2 ^ k < 2 ^ 63 := Nat.pow_lt_pow_right (by decide) (by omega)
theorem bit_two {k : Nat} (hk : k ≤ 62) {n : Int} (hn : 0 ≤ n) : U.bit ((2 : Int) ^ k) n = decide (n = (k : Int)) := by
  obtain ⟨i, rfl⟩ : ∃ i : Nat, n = (i : Int) := ⟨n.toNat, by omega⟩
  rw [two_nat, bit_nat (pow63 hk), Nat.testBit_two_pow]
  exact decide_eq_decide.2 ⟨fun h => by omega, fun h => by omega⟩
theorem band_one {x : Int} (h0 : 0 ≤ x) (h1 : x < 2 ^ 62) {r : Int} (hr : 0 ≤ r) : band (x / 2 ^ r.toNat) 1 ≠ 0 ↔ U.bit x r = true := by
  obtain ⟨n, rfl⟩ : ∃ n : Nat, x = (n : Int) := ⟨x.toNat, by omega⟩
  have hn : n < 2 ^ 63 := by omega
  have hd : n / 2 ^ r.toNat < 2 ^ 63 := Nat.lt_of_le_of_lt (Nat.div_le_self _ _) hn
  unfold U.bit
  rw [decide_eq_true_iff, div_nat, show (1 : Int) = ((1 : Nat) : Int) from rfl, band_nat hd (by decide)]
  have := Nat.and_one_is_mod (n / 2 ^ r.toNat)
  omega
theorem band_two {x : Int} (h0 : 0 ≤ x) (h1 : x < 2 ^ 62) {r : Nat} (hr : r ≤ 62) : band x ((2 : Int) ^ r) ≠ 0 ↔ U.bit x (r : Int) = true := by
  obtain ⟨n, rfl⟩ : ∃ n : Nat, x = (n : Int) := ⟨x.toNat, by omega⟩
  have hn : n < 2 ^ 63 := by omega
  rw [two_nat, band_nat hn (pow63 hr), bit_nat hn]
  constructor
  · intro h
    cases e : n.testBit r with
    | true => rfl
    | false =>
      refine absurd ?_ h
      have : n &&& 2 ^ r = 0 := Nat.eq_of_testBit_eq (fun i => by
        rw [Nat.testBit_and, Nat.testBit_two_pow, Nat.zero_testBit]
        by_cases h : r = i
        · subst h; rw [e]; rfl
        · rw [decide_eq_false h, Bool.and_false])
      rw [this]; rfl
  · intro h hz
    have hz : n &&& 2 ^ r = 0 := by omega
    have := congrArg (fun k => k.testBit r) hz
    simp [h, Nat.testBit_two_pow] at this
theorem band_both {x y : Int} (h0 : 0 ≤ x) (h1 : x < 2 ^ 62) (h2 : 0 ≤ y) (h3 : y < 2 ^ 62) {r : Nat} (hx : U.bit x (r : Int) = true) (hy : U.bit y (r : Int) = true) : band x y ≠ 0 := by
  obtain ⟨n, rfl⟩ : ∃ n : Nat, x = (n : Int) := ⟨x.toNat, by omega⟩
  obtain ⟨m, rfl⟩ : ∃ m : Nat, y = (m : Int) := ⟨y.toNat, by omega⟩
  rw [bit_nat (by omega)] at hx hy
  rw [band_nat (by omega) (by omega)]
  intro h
  have h : n &&& m = 0 := by omega
  have := congrArg (fun k => k.testBit r) h
  simp [hx, hy] at this
theorem bor_nat {a b : Nat} (ha : a < 2 ^ 63) (hb : b < 2 ^ 63) : bor (a : Int) (b : Int) = ((a ||| b : Nat) : Int) := by
  unfold bor
  rw [BitVec.toNat_or, ofInt_nat ha, ofInt_nat hb, wrap_nat (Nat.or_lt_two_pow ha hb)]
theorem bor_range {a b : Int} {m : Nat} (hm : m ≤ 62) (ha : 0 ≤ a ∧ a < 2 ^ m) (hb : 0 ≤ b ∧ b < 2 ^ m) : 0 ≤ bor a b ∧ bor a b < 2 ^ m ∧ a ≤ bor a b ∧ b ≤ bor a b := by
  obtain ⟨n, rfl⟩ : ∃ n : Nat, a = (n : Int) := ⟨a.toNat, by omega⟩
  obtain ⟨k, rfl⟩ : ∃ k : Nat, b = (k : Int) := ⟨b.toNat, by omega⟩
  have e := two_nat m
  have hn : n < 2 ^ m := by omega
  have hk : k < 2 ^ m := by omega
  have hp := pow63 hm
  rw [bor_nat (by omega) (by omega)]
  have h1 := Nat.or_lt_two_pow hn hk
  have h2 : n ≤ n ||| k := Nat.left_le_or
  have h3 : k ≤ n ||| k := Nat.right_le_or
  omega
theorem bit_bor {a b : Int} (ha : 0 ≤ a ∧ a < 2 ^ 62) (hb : 0 ≤ b ∧ b < 2 ^ 62) {n : Int} (hn : 0 ≤ n) : U.bit (bor a b) n = (U.bit a n || U.bit b n) := by
  obtain ⟨x, rfl⟩ : ∃ x : Nat, a = (x : Int) := ⟨a.toNat, by omega⟩
  obtain ⟨y, rfl⟩ : ∃ y : Nat, b = (y : Int) := ⟨b.toNat, by omega⟩
  obtain ⟨i, rfl⟩ : ∃ i : Nat, n = (i : Int) := ⟨n.toNat, by omega⟩
  have hp : x ||| y < 2 ^ 62 := Nat.or_lt_two_pow (by omega) (by omega)
  rw [bor_nat (by omega) (by omega), bit_nat (by omega), bit_nat (by omega), bit_nat (by omega), Nat.testBit_or]
theorem band_mask {a : Int} (h : In64 a) {m : Nat} (hm : m ≤ 62) : 0 ≤ band a (2 ^ m - 1) ∧ band a (2 ^ m - 1) < 2 ^ m := by
  have hp : 1 ≤ 2 ^ m := Nat.one_le_two_pow
  have e : (2 : Int) ^ m - 1 = ((2 ^ m - 1 : Nat) : Int) := by rw [two_nat]; omega
  have hlt : 2 ^ m - 1 < 2 ^ 63 := by have := pow63 hm; omega
  unfold band
  rw [e, BitVec.toNat_and, ofInt_nat hlt]
  have h1 : (BitVec.ofInt 64 a).toNat &&& (2 ^ m - 1) ≤ 2 ^ m - 1 := Nat.and_le_right
  rw [wrap_nat (by omega), two_nat]
  omega
/-- what a set has in common with another is not less with more elements -/
theorem band_mono {x a b : Int} (hx : 0 ≤ x ∧ x < 2 ^ 62) (ha : 0 ≤ a ∧ a < 2 ^ 62) (hb : 0 ≤ b ∧ b < 2 ^ 62) (h : band x a ≠ 0) : band x (bor a b) ≠ 0 := by
  obtain ⟨n, rfl⟩ : ∃ n : Nat, x = (n : Int) := ⟨x.toNat, by omega⟩
  obtain ⟨k, rfl⟩ : ∃ k : Nat, a = (k : Int) := ⟨a.toNat, by omega⟩
  obtain ⟨m, rfl⟩ : ∃ m : Nat, b = (m : Int) := ⟨b.toNat, by omega⟩
  have hp : k ||| m < 2 ^ 62 := Nat.or_lt_two_pow (by omega) (by omega)
  rw [bor_nat (by omega) (by omega), band_nat (by omega) (by omega)]
  rw [band_nat (by omega) (by omega)] at h
  intro hz
  have hz : n &&& (k ||| m) = 0 := by omega
  apply h
  have : n &&& k = 0 := Nat.eq_of_testBit_eq (fun i => by
    have := congrArg (fun q => q.testBit i) hz
    simp only [Nat.testBit_and, Nat.testBit_or, Nat.zero_testBit] at this ⊢
    revert this; cases n.testBit i <;> cases k.testBit i <;> simp)
  rw [this]; rfl

end Go.X
/-
  Signs: the law of the wider sets.
-/
namespace Go.X
open Go.Proofs

def so16 : OSpec := ⟨[.val (.slice tE)], [.cl (.row 44 tE .yes)], fun d => [d.1.length ≤ 1000, ∀ x ∈ d.1, (U.mv (U.fm x)).length ≤ 1000], fun d => ((d.1, ()), ())⟩
def vc16o : Prop :=
  ∀ (d : List ED × Unit),
  d.1.length ≤ 1000 →
  (∀ (x : ED), x ∈ d.1 → (U.mv (U.fm x)).length ≤ 1000) →
  (∃ (x : Nat), (((0 : Int) = (x : Int) ∧ True ∧ True) ∧ List.take x d.1 = [] ∧ True) ∧ x ≤ d.1.length) ∧
  ∀ (x : Nat),
  x ≤ d.1.length →
  d.1.length < 4611686018427387904 →
  (decide ((x : Int) < (d.1.length : Int)) = true →
  0 ≤ (x : Int) ∧
  (x : Int) < (d.1.length : Int) ∧
  (U.mv (nth d.1 (x : Int).toNat).2.2.2.1).length ≤ 1000 ∧
  ((List.take x d.1).length + [nth d.1 (x : Int).toNat].length) * 104 ≤ 140737488355328 ∧
  In64 ((x : Int) + 1) ∧
  ∃ (x' : Nat), (((x : Int) + 1 = (x' : Int) ∧ True ∧ True) ∧ List.take x d.1 ++ [nth d.1 (x : Int).toNat] = List.take x' d.1 ∧ True) ∧ x' ≤ d.1.length ∧ d.1.length - x' < d.1.length - x) ∧
  (decide ((x : Int) < (d.1.length : Int)) = false → (List.take x d.1, ()) = d ∧ () = ())

theorem vc16o_eq : ofnVC (ctx 25 [(39, sp39)] []) (an16) Tryz.f16 (bodyOf Tryz.f16) so16 = vc16o := by kernel_rfl


abbrev tWi : Ty := .st [.int, .int, .int, .int, .int, .int, tE]
abbrev WiD : Type := Int × Int × Int × Int × Int × Int × ED × Unit
namespace U
def wider (s : SnD) (x : WiD) : SnD := (bor (rights s) (band x.1 8589934591), bor (lefts s) (band x.2.1 8589934591), bor (faces s) (band x.2.2.1 255), bor (rgs s) (band x.2.2.2.1 255), min 6 (lost s + x.2.2.2.2.1),
  (lo (cols s) - x.2.2.2.2.2.1, hi (cols s) + x.2.2.2.2.2.1, ()), (lo (rows s) - x.2.2.2.2.2.1, hi (rows s) + x.2.2.2.2.2.1, ()), (lo (ages s) - x.2.2.2.2.2.1, hi (ages s) + x.2.2.2.2.2.1, ()), mvs s, ())
def fnd5 (l : List ED) (s : SnD) (x : WiD) : List Int := (fnd l (wider s x)).1
def fnd5s (l : List ED) (s : SnD) : List Int := (fnd l s).1
def fnd5e (l : List ED) (s : SnD) (x : WiD) : List Int := (fnd (l ++ [x.2.2.2.2.2.2.1]) s).1
end U

def sp5 : Spec := lawSpec [.slice tE, tSn, tWi]
def an5 : Ann := fun r => match r with
  | 15 => some fun σ => { X := Nat, sl := fun i => [(13, .dat .int (i : Int)), (11, .dat (.slice .int) (U.fnd5 (gd (.slice tE) σ 0) (gd tSn σ 1) (gd tWi σ 2))), (9, .dat (.slice .int) (U.fnd5s (gd (.slice tE) σ 0) (gd tSn σ 1)))], ob := fun _ => [], inv := fun i => i ≤ (U.fnd5s (gd (.slice tE) σ 0) (gd tSn σ 1)).length, mu := fun i => (U.fnd5s (gd (.slice tE) σ 0) (gd tSn σ 1)).length - i }
  | 26 => some fun σ => { X := Nat, sl := fun i => [(17, .dat .int (i : Int)), (15, .dat (.slice .int) (U.fnd5e (gd (.slice tE) σ 0) (gd tSn σ 1) (gd tWi σ 2)))], ob := fun _ => [], inv := fun i => i ≤ (gd (.slice .int) σ 9).length, mu := fun i => (gd (.slice .int) σ 9).length - i }
  | 31 => some fun σ => { X := Nat, sl := fun i => [(18, .dat .int (i : Int))], ob := fun _ => [], inv := fun i => i ≤ (gd (.slice .int) σ 15).length, mu := fun i => (gd (.slice .int) σ 15).length - i }
  | _ => none
def vc5 : Prop :=
  ∀
  (d :
  List ED ×
  SnD ×
  (Int × Int × Int × Int × Int × Int × ED × Unit) × Unit),
  fitsAll 1048576
  [(Ty.int.pair (Ty.int.pair (Ty.int.pair ((Ty.int.pair (Ty.int.pair (Ty.int.pair (Ty.int.pair (Ty.int.pair (Ty.int.slice.pair Ty.unit)))))).pair ((Ty.int.pair (Ty.int.pair Ty.unit)).pair Ty.unit))))).slice,
  Ty.int.pair (Ty.int.pair (Ty.int.pair (Ty.int.pair (Ty.int.pair ((Ty.int.pair (Ty.int.pair Ty.unit)).pair ((Ty.int.pair (Ty.int.pair Ty.unit)).pair ((Ty.int.pair (Ty.int.pair Ty.unit)).pair (Ty.int.slice.pair Ty.unit)))))))),
  Ty.int.pair
  (Ty.int.pair
  (Ty.int.pair
  (Ty.int.pair
  (Ty.int.pair
  (Ty.int.pair
  ((Ty.int.pair (Ty.int.pair (Ty.int.pair ((Ty.int.pair (Ty.int.pair (Ty.int.pair (Ty.int.pair (Ty.int.pair (Ty.int.slice.pair Ty.unit)))))).pair ((Ty.int.pair (Ty.int.pair Ty.unit)).pair Ty.unit))))).pair Ty.unit))))))]
  d →
  ((!!U.ready d.1) = true → d.1.length < 4611686018427387904) →
  ((!(!U.ready d.1 || decide (11 < (d.1.length : Int)))) = true → d.2.1.2.2.2.2.2.2.2.2.1.length < 4611686018427387904) →
  ((!(!U.ready d.1 || decide (11 < (d.1.length : Int)) || decide (20 < (d.2.1.2.2.2.2.2.2.2.2.1.length : Int)) || !U.okS d.2.1 ||
  decide (d.2.2.1.2.2.2.2.1 < (0 : Int)) ||
  decide ((6 : Int) < d.2.2.1.2.2.2.2.1) ||
  decide (d.2.2.1.2.2.2.2.2.1 < (0 : Int)) ||
  decide ((100 : Int) < d.2.2.1.2.2.2.2.2.1))) =
  true →
  d.2.2.1.2.2.2.2.2.2.1.2.2.2.1.2.2.2.2.2.1.length < 4611686018427387904) →
  ((!U.ready d.1 || decide (11 < (d.1.length : Int)) || decide (20 < (d.2.1.2.2.2.2.2.2.2.2.1.length : Int)) || !U.okS d.2.1 ||
  decide (d.2.2.1.2.2.2.2.1 < (0 : Int)) ||
  decide ((6 : Int) < d.2.2.1.2.2.2.2.1) ||
  decide (d.2.2.1.2.2.2.2.2.1 < (0 : Int)) ||
  decide ((100 : Int) < d.2.2.1.2.2.2.2.2.1) ||
  decide (20 < (d.2.2.1.2.2.2.2.2.2.1.2.2.2.1.2.2.2.2.2.1.length : Int)) ||
  decide (d.2.1.2.2.2.2.2.1.1 < (-1000 : Int)) ||
  decide ((1000 : Int) < d.2.1.2.2.2.2.2.1.2.1) ||
  decide (d.2.1.2.2.2.2.2.2.1.1 < (-1000 : Int)) ||
  decide ((1000 : Int) < d.2.1.2.2.2.2.2.2.1.2.1) ||
  decide (d.2.1.2.2.2.2.2.2.2.1.1 < (-1000 : Int)) ||
  decide ((1000 : Int) < d.2.1.2.2.2.2.2.2.2.1.2.1)) =
  true →
  (true, ()) = (true, ())) ∧
  ((!U.ready d.1 || decide (11 < (d.1.length : Int)) || decide (20 < (d.2.1.2.2.2.2.2.2.2.2.1.length : Int)) || !U.okS d.2.1 ||
  decide (d.2.2.1.2.2.2.2.1 < (0 : Int)) ||
  decide ((6 : Int) < d.2.2.1.2.2.2.2.1) ||
  decide (d.2.2.1.2.2.2.2.2.1 < (0 : Int)) ||
  decide ((100 : Int) < d.2.2.1.2.2.2.2.2.1) ||
  decide (20 < (d.2.2.1.2.2.2.2.2.2.1.2.2.2.1.2.2.2.2.2.1.length : Int)) ||
  decide (d.2.1.2.2.2.2.2.1.1 < (-1000 : Int)) ||
  decide ((1000 : Int) < d.2.1.2.2.2.2.2.1.2.1) ||
  decide (d.2.1.2.2.2.2.2.2.1.1 < (-1000 : Int)) ||
  decide ((1000 : Int) < d.2.1.2.2.2.2.2.2.1.2.1) ||
  decide (d.2.1.2.2.2.2.2.2.2.1.1 < (-1000 : Int)) ||
  decide ((1000 : Int) < d.2.1.2.2.2.2.2.2.2.1.2.1)) =
  false →
  (U.mvs d.2.1).length ≤ 1000 ∧
  In64 (d.2.1.2.2.2.2.1 + d.2.2.1.2.2.2.2.1) ∧
  In64 (d.2.1.2.2.2.2.2.1.1 - d.2.2.1.2.2.2.2.2.1) ∧
  In64 (d.2.1.2.2.2.2.2.1.2.1 + d.2.2.1.2.2.2.2.2.1) ∧
  In64 (d.2.1.2.2.2.2.2.2.1.1 - d.2.2.1.2.2.2.2.2.1) ∧
  In64 (d.2.1.2.2.2.2.2.2.1.2.1 + d.2.2.1.2.2.2.2.2.1) ∧
  In64 (d.2.1.2.2.2.2.2.2.2.1.1 - d.2.2.1.2.2.2.2.2.1) ∧
  In64 (d.2.1.2.2.2.2.2.2.2.1.2.1 + d.2.2.1.2.2.2.2.2.1) ∧
  ((decide ((U.fnd d.1 d.2.1).2.1 ≠ (0 : Int)) ||
  decide
  ((U.fnd d.1
  (bor d.2.1.1 (band d.2.2.1.1 (8589934591 : Int)), bor d.2.1.2.1 (band d.2.2.1.2.1 (8589934591 : Int)),
  bor d.2.1.2.2.1 (band d.2.2.1.2.2.1 (255 : Int)), bor d.2.1.2.2.2.1 (band d.2.2.1.2.2.2.1 (255 : Int)),
  min (6 : Int) (d.2.1.2.2.2.2.1 + d.2.2.1.2.2.2.2.1),
  (d.2.1.2.2.2.2.2.1.1 - d.2.2.1.2.2.2.2.2.1, d.2.1.2.2.2.2.2.1.2.1 + d.2.2.1.2.2.2.2.2.1, ()),
  (d.2.1.2.2.2.2.2.2.1.1 - d.2.2.1.2.2.2.2.2.1, d.2.1.2.2.2.2.2.2.1.2.1 + d.2.2.1.2.2.2.2.2.1, ()),
  (d.2.1.2.2.2.2.2.2.2.1.1 - d.2.2.1.2.2.2.2.2.1, d.2.1.2.2.2.2.2.2.2.1.2.1 + d.2.2.1.2.2.2.2.2.1, ()),
  d.2.1.2.2.2.2.2.2.2.2)).2.1 ≠
  (0 : Int))) =
  true →
  (false, ()) = (true, ())) ∧
  ((decide ((U.fnd d.1 d.2.1).2.1 ≠ (0 : Int)) ||
  decide
  ((U.fnd d.1
  (bor d.2.1.1 (band d.2.2.1.1 (8589934591 : Int)), bor d.2.1.2.1 (band d.2.2.1.2.1 (8589934591 : Int)),
  bor d.2.1.2.2.1 (band d.2.2.1.2.2.1 (255 : Int)), bor d.2.1.2.2.2.1 (band d.2.2.1.2.2.2.1 (255 : Int)),
  min (6 : Int) (d.2.1.2.2.2.2.1 + d.2.2.1.2.2.2.2.1),
  (d.2.1.2.2.2.2.2.1.1 - d.2.2.1.2.2.2.2.2.1, d.2.1.2.2.2.2.2.1.2.1 + d.2.2.1.2.2.2.2.2.1, ()),
  (d.2.1.2.2.2.2.2.2.1.1 - d.2.2.1.2.2.2.2.2.1, d.2.1.2.2.2.2.2.2.1.2.1 + d.2.2.1.2.2.2.2.2.1, ()),
  (d.2.1.2.2.2.2.2.2.2.1.1 - d.2.2.1.2.2.2.2.2.1, d.2.1.2.2.2.2.2.2.2.1.2.1 + d.2.2.1.2.2.2.2.2.1, ()),
  d.2.1.2.2.2.2.2.2.2.2)).2.1 ≠
  (0 : Int))) =
  false →
  (∃ (x : Nat),
  (((0 : Int) = (x : Int) ∧
  (U.fnd d.1
  (bor d.2.1.1 (band d.2.2.1.1 (8589934591 : Int)), bor d.2.1.2.1 (band d.2.2.1.2.1 (8589934591 : Int)),
  bor d.2.1.2.2.1 (band d.2.2.1.2.2.1 (255 : Int)), bor d.2.1.2.2.2.1 (band d.2.2.1.2.2.2.1 (255 : Int)),
  min (6 : Int) (d.2.1.2.2.2.2.1 + d.2.2.1.2.2.2.2.1),
  (d.2.1.2.2.2.2.2.1.1 - d.2.2.1.2.2.2.2.2.1, d.2.1.2.2.2.2.2.1.2.1 + d.2.2.1.2.2.2.2.2.1, ()),
  (d.2.1.2.2.2.2.2.2.1.1 - d.2.2.1.2.2.2.2.2.1, d.2.1.2.2.2.2.2.2.1.2.1 + d.2.2.1.2.2.2.2.2.1, ()),
  (d.2.1.2.2.2.2.2.2.2.1.1 - d.2.2.1.2.2.2.2.2.1, d.2.1.2.2.2.2.2.2.2.1.2.1 + d.2.2.1.2.2.2.2.2.1, ()),
  d.2.1.2.2.2.2.2.2.2.2)).1 =
  U.fnd5 d.1 d.2.1 d.2.2.1 ∧
  (U.fnd d.1 d.2.1).1 = U.fnd5s d.1 d.2.1 ∧ True) ∧
  True) ∧
  x ≤ (U.fnd5s d.1 d.2.1).length) ∧
  ∀ (x : Nat),
  x ≤ (U.fnd5s d.1 d.2.1).length →
  (U.fnd5s d.1 d.2.1).length < 4611686018427387904 →
  (decide ((x : Int) < (↑(U.fnd5s d.1 d.2.1).length : Int)) = true →
  0 ≤ (x : Int) ∧
  (x : Int) < (↑(U.fnd5s d.1 d.2.1).length : Int) ∧
  ((!decide (nth (U.fnd5s d.1 d.2.1) (x : Int).toNat ∈ U.fnd5 d.1 d.2.1 d.2.2.1)) = true → (false, ()) = (true, ())) ∧
  ((!decide (nth (U.fnd5s d.1 d.2.1) (x : Int).toNat ∈ U.fnd5 d.1 d.2.1 d.2.2.1)) = false →
  In64 ((x : Int) + 1) ∧
  ∃ (x' : Nat),
  ((U.fnd5s d.1 d.2.1 = U.fnd5s d.1 d.2.1 ∧ U.fnd5 d.1 d.2.1 d.2.2.1 = U.fnd5 d.1 d.2.1 d.2.2.1 ∧ (x : Int) + 1 = (x' : Int) ∧ True) ∧
  True) ∧
  x' ≤ (U.fnd5s d.1 d.2.1).length ∧ (U.fnd5s d.1 d.2.1).length - x' < (U.fnd5s d.1 d.2.1).length - x)) ∧
  (decide ((x : Int) < (↑(U.fnd5s d.1 d.2.1).length : Int)) = false →
  d.1.length ≤ 1000 ∧
  (∀ (x : ED), x ∈ d.1 → (U.mv (U.fm x)).length ≤ 1000) ∧
  (d.1.length + [d.2.2.1.2.2.2.2.2.2.1].length) * 104 ≤ 140737488355328 ∧
  (decide (U.chk (d.1 ++ [d.2.2.1.2.2.2.2.2.2.1]) ≠ (0 : Int)) = true → (true, ()) = (true, ())) ∧
  (decide (U.chk (d.1 ++ [d.2.2.1.2.2.2.2.2.2.1]) ≠ (0 : Int)) = false →
  (decide ((U.fnd (d.1 ++ [d.2.2.1.2.2.2.2.2.2.1]) d.2.1).2.1 ≠ (0 : Int)) = true → (false, ()) = (true, ())) ∧
  (decide ((U.fnd (d.1 ++ [d.2.2.1.2.2.2.2.2.2.1]) d.2.1).2.1 ≠ (0 : Int)) = false →
  (∃ (x : Nat),
  (((0 : Int) = (x : Int) ∧ (U.fnd (d.1 ++ [d.2.2.1.2.2.2.2.2.2.1]) d.2.1).1 = U.fnd5e d.1 d.2.1 d.2.2.1 ∧ True) ∧ True) ∧
  x ≤ (U.fnd5s d.1 d.2.1).length) ∧
  ∀ (x : Nat),
  x ≤ (U.fnd5s d.1 d.2.1).length →
  (U.fnd5s d.1 d.2.1).length < 4611686018427387904 →
  (decide ((x : Int) < (↑(U.fnd5s d.1 d.2.1).length : Int)) = true →
  0 ≤ (x : Int) ∧
  (x : Int) < (↑(U.fnd5s d.1 d.2.1).length : Int) ∧
  ((!decide (nth (U.fnd5s d.1 d.2.1) (x : Int).toNat ∈ U.fnd5e d.1 d.2.1 d.2.2.1)) = true → (false, ()) = (true, ())) ∧
  ((!decide (nth (U.fnd5s d.1 d.2.1) (x : Int).toNat ∈ U.fnd5e d.1 d.2.1 d.2.2.1)) = false →
  In64 ((x : Int) + 1) ∧
  ∃ (x' : Nat),
  ((U.fnd5e d.1 d.2.1 d.2.2.1 = U.fnd5e d.1 d.2.1 d.2.2.1 ∧ (x : Int) + 1 = (x' : Int) ∧ True) ∧ True) ∧
  x' ≤ (U.fnd5s d.1 d.2.1).length ∧ (U.fnd5s d.1 d.2.1).length - x' < (U.fnd5s d.1 d.2.1).length - x)) ∧
  (decide ((x : Int) < (↑(U.fnd5s d.1 d.2.1).length : Int)) = false →
  (∃ (x : Nat), (((0 : Int) = (x : Int) ∧ True) ∧ True) ∧ x ≤ (U.fnd5e d.1 d.2.1 d.2.2.1).length) ∧
  ∀ (x : Nat),
  x ≤ (U.fnd5e d.1 d.2.1 d.2.2.1).length →
  (U.fnd5e d.1 d.2.1 d.2.2.1).length < 4611686018427387904 →
  (decide ((x : Int) < (↑(U.fnd5e d.1 d.2.1 d.2.2.1).length : Int)) = true →
  0 ≤ (x : Int) ∧
  (x : Int) < (↑(U.fnd5e d.1 d.2.1 d.2.2.1).length : Int) ∧
  ((!decide (nth (U.fnd5e d.1 d.2.1 d.2.2.1) (x : Int).toNat ∈ U.fnd5s d.1 d.2.1)) = true → 0 ≤ (x : Int)) ∧
  ((!decide (nth (U.fnd5e d.1 d.2.1 d.2.2.1) (x : Int).toNat ∈ U.fnd5s d.1 d.2.1)) = true →
  (x : Int) < (↑(U.fnd5e d.1 d.2.1 d.2.2.1).length : Int)) ∧
  ((!decide (nth (U.fnd5e d.1 d.2.1 d.2.2.1) (x : Int).toNat ∈ U.fnd5s d.1 d.2.1) &&
  decide (nth (U.fnd5e d.1 d.2.1 d.2.2.1) (x : Int).toNat ≠ d.2.2.1.2.2.2.2.2.2.1.2.1)) =
  true →
  (false, ()) = (true, ())) ∧
  ((!decide (nth (U.fnd5e d.1 d.2.1 d.2.2.1) (x : Int).toNat ∈ U.fnd5s d.1 d.2.1) &&
  decide (nth (U.fnd5e d.1 d.2.1 d.2.2.1) (x : Int).toNat ≠ d.2.2.1.2.2.2.2.2.2.1.2.1)) =
  false →
  In64 ((x : Int) + 1) ∧
  ∃ (x' : Nat),
  (((x : Int) + 1 = (x' : Int) ∧ True) ∧ True) ∧
  x' ≤ (U.fnd5e d.1 d.2.1 d.2.2.1).length ∧
  (U.fnd5e d.1 d.2.1 d.2.2.1).length - x' < (U.fnd5e d.1 d.2.1 d.2.2.1).length - x)) ∧
  (decide ((x : Int) < (↑(U.fnd5e d.1 d.2.1 d.2.2.1).length : Int)) = false → (true, ()) = (true, ()))))))))

theorem vc5_eq : fnVC (ctx 270 ((15, sp15) :: FS.filter (fun p => !(Nat.beq p.1 16))) [(16, so16)]) (an5) Tryz.f5 (bodyOf Tryz.f5) sp5 = vc5 := by kernel_rfl


end Go.X
/-
  Signs: wider sets, and one more entry.
-/
namespace Go.X
open Go.Proofs

theorem h16o : vc16o := by
  rintro ⟨l, ⟨⟩⟩ h1000 hmv
  have h1000 : l.length ≤ 1000 := h1000
  have hmv : ∀ x, x ∈ l → (U.mv (U.fm x)).length ≤ 1000 := hmv
  refine ⟨⟨0, ⟨⟨rfl, trivial, trivial⟩, rfl, trivial⟩, Nat.zero_le _⟩, fun i hi _ => ⟨fun h => ?_, fun h => ?_⟩⟩
  · have h : i < l.length := by simpa using h
    simp only [Int.toNat_natCast]
    refine ⟨by omega, by omega, hmv _ (L.mem_nth h), ?_, L.in64 (by omega) (by omega), i + 1, ⟨⟨by simp, trivial, trivial⟩, (L.take_succ h).symm, trivial⟩, h, by omega⟩
    simp only [List.length_take, List.length_cons, List.length_nil]; omega
  · have h : l.length ≤ i := by simpa using h
    rw [List.take_of_length_le h]
    exact ⟨rfl, rfl⟩
theorem ok16o : OFnOK PR 16 so16 := mkFnO (vc16o_eq.mpr h16o) Tryz.func16 (by kernel_rfl) (by kernel_rfl) (by kernel_rfl) (by kernel_rfl) (by kernel_rfl) ⟨fun _ => ok39, trivial⟩ trivial

theorem has_mono {a b n : Int} (ha : 0 ≤ a ∧ a < 2 ^ 62) (hb : 0 ≤ b ∧ b < 2 ^ 62) (h : U.has a n = true) : U.has (bor a b) n = true := by
  unfold U.has at *
  rw [Bool.and_eq_true, decide_eq_true_iff] at *
  exact ⟨h.1, by rw [bit_bor ha hb h.1.1, h.2]; rfl⟩
theorem fits_mono {l sets : List Int} {a b : Int} (hl : ∀ m, m ∈ l → U.okMove m = true) (ha : 0 ≤ a) (hab : a ≤ b) (h : U.fits l sets a = true) : U.fits l sets b = true := by
  rw [fits_emb l sets a hl ha] at h
  rw [fits_emb l sets b hl (by omega)]
  rw [Bool.and_eq_true, decide_eq_true_iff] at *
  exact ⟨h.1, by omega⟩
theorem mask33 {a : Int} (h : In64 a) : 0 ≤ band a 8589934591 ∧ band a 8589934591 < 2 ^ 33 := band_mask h (m := 33) (by decide)
theorem mask8 {a : Int} (h : In64 a) : 0 ≤ band a 255 ∧ band a 255 < 2 ^ 8 := band_mask h (m := 8) (by decide)
structure WiOk (x : WiD) : Prop where
  a : In64 x.1
  b : In64 x.2.1
  c : In64 x.2.2.1
  e : In64 x.2.2.2.1
  lost : 0 ≤ x.2.2.2.2.1 ∧ x.2.2.2.2.1 ≤ 6
  span : 0 ≤ x.2.2.2.2.2.1 ∧ x.2.2.2.2.2.1 ≤ 100
theorem wider_ok {s : SnD} (hs : U.okS s = true) {x : WiD} (hx : WiOk x) : U.okS (U.wider s x) = true := by
  obtain ⟨⟨a1, a2, a3, a4, a5, a6, a7, a8, a9, a10, a11, a12, a13, a14⟩, h2⟩ := okS_iff.1 hs
  have m1 := bor_range (m := 33) (by decide) (a := U.rights s) (by omega) (mask33 hx.a)
  have m2 := bor_range (m := 33) (by decide) (a := U.lefts s) (by omega) (mask33 hx.b)
  have m3 := bor_range (m := 8) (by decide) (a := U.faces s) (by omega) (mask8 hx.c)
  have m4 := bor_range (m := 8) (by decide) (a := U.rgs s) (by omega) (mask8 hx.e)
  have p := hx.span
  have q := hx.lost
  refine okS_iff.2 ⟨⟨?_, ?_, ?_, ?_, ?_, ?_, ?_, ?_, ?_, ?_, ?_, a12, ?_, ?_⟩, h2⟩
  · show 1 ≤ bor (U.rights s) (band x.1 8589934591); omega
  · show bor (U.rights s) (band x.1 8589934591) ≤ _; omega
  · show 1 ≤ bor (U.lefts s) (band x.2.1 8589934591); omega
  · show bor (U.lefts s) (band x.2.1 8589934591) ≤ _; omega
  · show 1 ≤ bor (U.faces s) (band x.2.2.1 255); omega
  · show bor (U.faces s) (band x.2.2.1 255) ≤ _; omega
  · show 1 ≤ bor (U.rgs s) (band x.2.2.2.1 255); omega
  · show bor (U.rgs s) (band x.2.2.2.1 255) ≤ _; omega
  · show U.lo (U.cols s) - x.2.2.2.2.2.1 ≤ U.hi (U.cols s) + x.2.2.2.2.2.1; omega
  · show U.lo (U.rows s) - x.2.2.2.2.2.1 ≤ U.hi (U.rows s) + x.2.2.2.2.2.1; omega
  · show U.lo (U.ages s) - x.2.2.2.2.2.1 ≤ U.hi (U.ages s) + x.2.2.2.2.2.1; omega
  · show 0 ≤ min 6 (U.lost s + x.2.2.2.2.1); omega
  · show min 6 (U.lost s + x.2.2.2.2.1) ≤ 6; omega
theorem shown_wider {s : SnD} (hs : U.okS s = true) {x : WiD} (hx : WiOk x) {f : FmD} (hf : U.okForm f = true) (h : U.shownR f s = true) : U.shownR f (U.wider s x) = true := by
  obtain ⟨⟨a1, a2, a3, a4, a5, a6, a7, a8, a9, a10, a11, a12, a13, a14⟩, h2⟩ := okS_iff.1 hs
  have m1 := mask33 hx.a
  have m2 := mask33 hx.b
  have m3 := mask8 hx.c
  have p := hx.span
  have q := hx.lost
  have e : U.shownR f (U.wider s x) = (U.has (bor (U.rights s) (band x.1 8589934591)) (U.rt f + 1) && U.has (bor (U.lefts s) (band x.2.1 8589934591)) (U.lf f + 1) && U.has (bor (U.faces s) (band x.2.2.1 255)) (U.fc f) && U.within (U.co f) (U.lo (U.cols s) - x.2.2.2.2.2.1) (U.hi (U.cols s) + x.2.2.2.2.2.1) && U.within (U.rw' f) (U.lo (U.rows s) - x.2.2.2.2.2.1) (U.hi (U.rows s) + x.2.2.2.2.2.1) && U.fits (U.mv f) (U.mvs s) (min 6 (U.lost s + x.2.2.2.2.1))) := rfl
  rw [e]
  unfold U.shownR at h
  unfold U.within at *
  simp only [Bool.and_eq_true, decide_eq_true_eq] at *
  obtain ⟨⟨⟨⟨⟨g1, g2⟩, g3⟩, g4⟩, g5⟩, g6⟩ := h
  exact ⟨⟨⟨⟨⟨has_mono (by omega) (by omega) g1, has_mono (by omega) (by omega) g2⟩, has_mono (by omega) (by omega) g3⟩, by omega⟩, by omega⟩, fits_mono (List.all_eq_true.1 (okForm_moves hf)) a13 (by omega) g6⟩
theorem agrees_wider {s : SnD} (hs : U.okS s = true) {x : WiD} (hx : WiOk x) {y : ED} (hy : U.okE y = true) (h : U.agreesR y s = true) : U.agreesR y (U.wider s x) = true := by
  obtain ⟨⟨a1, a2, a3, a4, a5, a6, a7, a8, a9, a10, a11, a12, a13, a14⟩, h2⟩ := okS_iff.1 hs
  have m4 := mask8 hx.e
  have p := hx.span
  have hf := okE_form hy
  have e : U.agreesR y (U.wider s x) = (decide (band (U.rg y) (bor (U.rgs s) (band x.2.2.2.1 255)) ≠ 0) && decide (max (U.lo (U.ag y)) (U.lo (U.ages s) - x.2.2.2.2.2.1) ≤ min (U.hi (U.ag y)) (U.hi (U.ages s) + x.2.2.2.2.2.1)) && (U.shownR (U.fm y) (U.wider s x) || U.shownR (U.mir (U.fm y)) (U.wider s x))) := rfl
  rw [e]
  have hrg : 1 ≤ U.rg y ∧ U.rg y ≤ 255 := by
    unfold U.okE at hy
    simp only [Bool.and_eq_true, decide_eq_true_eq] at hy
    omega
  unfold U.agreesR at h
  simp only [Bool.and_eq_true, Bool.or_eq_true, decide_eq_true_eq] at *
  obtain ⟨⟨g1, g2⟩, g3⟩ := h
  exact ⟨⟨band_mono (by omega) (by omega) (by omega) g1, by omega⟩, g3.imp (shown_wider hs hx hf) (shown_wider hs hx (mir_ok hf))⟩

theorem h5 : vc5 := by
  intro d hfit _ _ _
  refine ⟨fun _ => rfl, fun hc => ?_⟩
  simp only [Bool.or_eq_false_iff, Bool.not_eq_false', decide_eq_false_iff_not] at hc
  obtain ⟨⟨⟨⟨⟨⟨⟨⟨⟨⟨⟨⟨⟨⟨hr, h11⟩, hm⟩, hs⟩, x1⟩, x2⟩, x3⟩, x4⟩, hmx⟩, s1⟩, s2⟩, s3⟩, s4⟩, s5⟩, s6⟩ := hc
  have hb := ready_book hr
  have hx : WiOk d.2.2.1 := by
    obtain ⟨_, _, hw, _⟩ := hfit
    obtain ⟨b1, b2, b3, b4, b5, b6, b7, b8⟩ := hw
    exact ⟨b1, b2, b3, b4, ⟨by omega, by omega⟩, ⟨by omega, by omega⟩⟩
  have hws := wider_ok hs hx
  obtain ⟨⟨a1, a2, a3, a4, a5, a6, a7, a8, a9, a10, a11, a12, a13, a14⟩, _⟩ := okS_iff.1 hs
  have a9 : d.2.1.2.2.2.2.2.1.1 ≤ d.2.1.2.2.2.2.2.1.2.1 := a9
  have a10 : d.2.1.2.2.2.2.2.2.1.1 ≤ d.2.1.2.2.2.2.2.2.1.2.1 := a10
  have a11 : d.2.1.2.2.2.2.2.2.2.1.1 ≤ d.2.1.2.2.2.2.2.2.2.1.2.1 := a11
  have a13 : 0 ≤ d.2.1.2.2.2.2.1 := a13
  have a14 : d.2.1.2.2.2.2.1 ≤ 6 := a14
  have h40 := hb.len
  have ea : U.fnd d.1 d.2.1 = (U.fnd5s d.1 d.2.1, 0, ()) := by unfold U.fnd5s; rw [fnd_ok hb hs]
  have eb : U.fnd d.1 (U.wider d.2.1 d.2.2.1) = (U.fnd5 d.1 d.2.1 d.2.2.1, 0, ()) := by unfold U.fnd5; rw [fnd_ok hb hws]
  have sub1 : ∀ n, n ∈ U.fnd5s d.1 d.2.1 → n ∈ U.fnd5 d.1 d.2.1 d.2.2.1 := by
    intro n hn
    have e1 : U.fnd5s d.1 d.2.1 = U.findR d.1 d.2.1 := by unfold U.fnd5s; rw [fnd_ok hb hs]
    have e2 : U.fnd5 d.1 d.2.1 d.2.2.1 = U.findR d.1 (U.wider d.2.1 d.2.2.1) := by unfold U.fnd5; rw [fnd_ok hb hws]
    rw [e1] at hn
    rw [e2]
    obtain ⟨y, hy, hn, hag⟩ := (findR_mem hb).1 hn
    exact (findR_mem hb).2 ⟨y, hy, hn, agrees_wider hs hx (hb.ok y hy) hag⟩
  have more : U.chk (d.1 ++ [d.2.2.1.2.2.2.2.2.2.1]) = 0 → U.fnd (d.1 ++ [d.2.2.1.2.2.2.2.2.2.1]) d.2.1 = (U.fnd5e d.1 d.2.1 d.2.2.1, 0, ()) ∧ (∀ n, n ∈ U.fnd5s d.1 d.2.1 → n ∈ U.fnd5e d.1 d.2.1 d.2.2.1) ∧ (∀ n, n ∈ U.fnd5e d.1 d.2.1 d.2.2.1 → n ∈ U.fnd5s d.1 d.2.1 ∨ n = U.sg d.2.2.1.2.2.2.2.2.2.1) := by
    intro h
    have hb2 := chk_iff.1 h
    have e1 : U.fnd5e d.1 d.2.1 d.2.2.1 = U.findR (d.1 ++ [d.2.2.1.2.2.2.2.2.2.1]) d.2.1 := by unfold U.fnd5e; rw [fnd_ok hb2 hs]
    have e2 : U.fnd5s d.1 d.2.1 = U.findR d.1 d.2.1 := by unfold U.fnd5s; rw [fnd_ok hb hs]
    rw [e1, e2]
    refine ⟨fnd_ok hb2 hs, fun n hn => ?_, fun n hn => ?_⟩
    · obtain ⟨y, hy, hn, hag⟩ := (findR_mem hb).1 hn
      exact (findR_mem hb2).2 ⟨y, List.mem_append_left _ hy, hn, hag⟩
    · obtain ⟨y, hy, hn, hag⟩ := (findR_mem hb2).1 hn
      rcases List.mem_append.1 hy with hy | hy
      · exact .inl ((findR_mem hb).2 ⟨y, hy, hn, hag⟩)
      · rw [List.mem_singleton.1 hy] at hn; exact .inr hn.symm
  have eb' : U.fnd d.1 (bor d.2.1.1 (band d.2.2.1.1 8589934591), bor d.2.1.2.1 (band d.2.2.1.2.1 8589934591), bor d.2.1.2.2.1 (band d.2.2.1.2.2.1 255), bor d.2.1.2.2.2.1 (band d.2.2.1.2.2.2.1 255), min 6 (d.2.1.2.2.2.2.1 + d.2.2.1.2.2.2.2.1), (d.2.1.2.2.2.2.2.1.1 - d.2.2.1.2.2.2.2.2.1, d.2.1.2.2.2.2.2.1.2.1 + d.2.2.1.2.2.2.2.2.1, ()), (d.2.1.2.2.2.2.2.2.1.1 - d.2.2.1.2.2.2.2.2.1, d.2.1.2.2.2.2.2.2.1.2.1 + d.2.2.1.2.2.2.2.2.1, ()), (d.2.1.2.2.2.2.2.2.2.1.1 - d.2.2.1.2.2.2.2.2.1, d.2.1.2.2.2.2.2.2.2.1.2.1 + d.2.2.1.2.2.2.2.2.1, ()), d.2.1.2.2.2.2.2.2.2.2) = (U.fnd5 d.1 d.2.1 d.2.2.1, 0, ()) := eb
  clear eb
  have hm6 : ∀ x, x ∈ d.1 → (U.mv (U.fm x)).length ≤ 1000 := fun x hx => by have := okForm_len (okE_form (hb.ok x hx)); omega
  rw [ea, eb']
  revert more sub1
  generalize U.fnd5s d.1 d.2.1 = A
  generalize U.fnd5 d.1 d.2.1 d.2.2.1 = B
  generalize U.fnd5e d.1 d.2.1 d.2.2.1 = C
  intro sub1 more
  refine ⟨by omega, by unfold In64; omega, by unfold In64; omega, by unfold In64; omega, by unfold In64; omega, by unfold In64; omega, by unfold In64; omega, by unfold In64; omega, fun h => absurd h (by simp), fun _ => ⟨⟨0, ⟨⟨rfl, rfl, rfl, trivial⟩, trivial⟩, Nat.zero_le _⟩, fun x hx _ => ⟨fun h1 => ?_, fun _ => ⟨by omega, hm6, ?_, fun _ => rfl, fun h => ?_⟩⟩⟩⟩
  · have h1 : (x : Int) < (A.length : Int) := of_decide_eq_true h1
    refine ⟨by omega, h1, fun h => ?_, fun _ => ⟨by unfold In64; omega, x + 1, ⟨⟨rfl, rfl, by omega, trivial⟩, trivial⟩, by omega, by omega⟩⟩
    rw [Bool.not_eq_true', decide_eq_false_iff_not] at h
    exact absurd (sub1 _ (L.mem_nth (by omega : x < A.length))) h
  · show (d.1.length + 1) * 104 ≤ _; omega
  · obtain ⟨e, sub2, sub3⟩ := more (Classical.not_not.1 (of_decide_eq_false h))
    rw [e]
    refine ⟨fun h => absurd h (by simp), fun _ => ⟨⟨0, ⟨⟨rfl, rfl, trivial⟩, trivial⟩, Nat.zero_le _⟩, fun x hx _ => ⟨fun h1 => ?_, fun _ => ⟨⟨0, ⟨⟨rfl, trivial⟩, trivial⟩, Nat.zero_le _⟩, fun x hx _ => ⟨fun h1 => ?_, fun _ => rfl⟩⟩⟩⟩⟩
    · have h1 : (x : Int) < (A.length : Int) := of_decide_eq_true h1
      refine ⟨by omega, h1, fun h => ?_, fun _ => ⟨by unfold In64; omega, x + 1, ⟨⟨rfl, by omega, trivial⟩, trivial⟩, by omega, by omega⟩⟩
      rw [Bool.not_eq_true', decide_eq_false_iff_not] at h
      exact absurd (sub2 _ (L.mem_nth (by omega : x < A.length))) h
    · have h1 : (x : Int) < (C.length : Int) := of_decide_eq_true h1
      refine ⟨by omega, h1, fun _ => by omega, fun _ => h1, fun h => ?_, fun _ => ⟨by unfold In64; omega, x + 1, ⟨⟨by omega, trivial⟩, trivial⟩, by omega, by omega⟩⟩
      rw [Bool.and_eq_true, Bool.not_eq_true', decide_eq_false_iff_not, decide_eq_true_iff] at h
      rcases sub3 _ (L.mem_nth (by omega : x < C.length)) with h2 | h2
      · exact absurd h2 h.1
      · exact absurd h2 h.2
theorem known_FS16 : Known (FS.filter (fun p => !(Nat.beq p.1 16))) := ⟨known_FS.1, known_FS.2.2⟩
theorem ok5 : FnOK PR 5 sp5 := mkFn (vc5_eq.mpr h5) Tryz.func5 (by kernel_rfl) (by kernel_rfl) (by kernel_rfl) (by kernel_rfl) ⟨fun _ => ok15, known_FS16⟩ ⟨ok16o, trivial⟩

end Go.X
