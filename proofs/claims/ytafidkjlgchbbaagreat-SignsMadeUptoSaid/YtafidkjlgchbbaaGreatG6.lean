/-
  Signs: bits, and what is seen of a form, plainly.
-/
import Derived.Test.YtafidkjlgchbbaaGreatG5
namespace Go.X
open Go.Proofs

/-! ### Books that are ready, and what is found in them -/

theorem long_iff {l : List ED} : U.long l = false ↔ l.length ≤ 60 ∧ ∀ x, x ∈ l → (U.mv (U.fm x)).length ≤ 20 := by
  unfold U.long
  rw [Bool.or_eq_false_iff, decide_eq_false_iff_not, List.any_eq_false]
  constructor
  · rintro ⟨h1, h2⟩
    exact ⟨by omega, fun x hx => by have := h1 x hx; rw [decide_eq_true_iff] at this; omega⟩
  · rintro ⟨h1, h2⟩
    exact ⟨fun x hx => by have := h2 x hx; rw [decide_eq_true_iff]; omega, by omega⟩
theorem far_long {l : List ED} (h : U.far l = false) : U.long l = false := by
  unfold U.far at h
  rw [Bool.or_eq_false_iff] at h; exact h.1
theorem long_copy {l : List ED} (h : U.long l = false) : l.length ≤ 1000 ∧ ∀ x, x ∈ l → (U.mv (U.fm x)).length ≤ 1000 := by
  obtain ⟨h1, h2⟩ := long_iff.1 h
  exact ⟨by omega, fun x hx => by have := h2 x hx; omega⟩
theorem ready_iff {l : List ED} : U.ready l = true ↔ U.far l = false ∧ U.chk l = 0 := by
  unfold U.ready
  rw [Bool.and_eq_true, Bool.not_eq_true', decide_eq_true_iff]
theorem ready_book {l : List ED} (h : U.ready l = true) : Book l := chk_iff.1 (ready_iff.1 h).2
theorem lookR_ok {l : List ED} (hb : Book l) {s : SnD} (hs : U.okS s = true) : U.lookR l s = 0 := by
  unfold U.lookR
  rw [if_neg (show ¬ U.chk l ≠ 0 by simp [chk_iff.2 hb]), if_neg (by rw [hs]; simp)]
theorem fnd_ok {l : List ED} (hb : Book l) {s : SnD} (hs : U.okS s = true) : U.fnd l s = (U.findR l s, 0, ()) := by
  rw [fnd_eq]; unfold U.fndR; rw [lookR_ok hb hs, if_neg (by simp)]
theorem findR_mem {l : List ED} (hb : Book l) {s : SnD} {n : Int} : n ∈ U.findR l s ↔ ∃ x, x ∈ l ∧ U.sg x = n ∧ U.agreesR x s = true := by
  unfold U.findR
  rw [findTo_mem]
  constructor
  · exact fun h => h.2
  · rintro ⟨x, hx, rfl, h⟩
    have := okE_sg (hb.ok x hx)
    exact ⟨⟨this.1, by omega⟩, x, hx, rfl, h⟩
theorem findR_asc (l : List ED) (s : SnD) : (U.findR l s).Pairwise (fun a b => a < b) := findTo_asc l s 1000
theorem findR_len {l : List ED} (hb : Book l) {s : SnD} (hs : U.okS s = true) : (U.findR l s).length ≤ l.length := by
  rw [← find_eq hb hb.reps (okS_seen hs)]
  refine Nat.le_trans (find_len _ _) ?_
  unfold U.vals
  rw [List.length_map, hb.opn]
  have := addTo_len [] l
  simpa using this
/-- the canon of a form and of its mirror form are the same -/
theorem canR_mir {f : FmD} (h : U.okForm f = true) : U.canR (U.mir f) = U.canR f := by
  have ha := order_ok.anti f (U.mir f)
  unfold U.canR
  rw [mir_mir h]
  by_cases h1 : U.order (U.mir f) f < 0
  · rw [if_pos h1, if_neg (by omega)]
  · rw [if_neg h1]
    by_cases h2 : U.order f (U.mir f) < 0
    · rw [if_pos h2]
    · rw [if_neg h2]
      exact (order_zero.1 (by omega))
theorem canR_or (f : FmD) : U.canR f = f ∨ U.canR f = U.mir f := by
  unfold U.canR; split
  · exact .inr rfl
  · exact .inl rfl
theorem canR_same {a b : FmD} (ha : U.okForm a = true) (hb : U.okForm b = true) : U.canR a = U.canR b ↔ a = b ∨ U.mir a = b := by
  constructor
  · intro h
    rcases canR_or a with e1 | e1 <;> rcases canR_or b with e2 | e2
    · exact .inl (by rw [← e1, ← e2, h])
    · refine .inr ?_
      have : a = U.mir b := by rw [← e1, ← e2, h]
      rw [this, mir_mir hb]
    · exact .inr (by rw [← e1, ← e2, h])
    · refine .inl ?_
      have : U.mir a = U.mir b := by rw [← e1, ← e2, h]
      rw [← mir_mir ha, this, mir_mir hb]
  · rintro (rfl | rfl)
    · rfl
    · exact (canR_mir ha).symm
theorem canF_ok {f : FmD} (h : U.okForm f = true) : U.canF f = (U.canR f, 0, ()) := by rw [canF_eq]; unfold U.canRF; rw [if_pos h]
theorem comF_ok {a b : FmD} (ha : U.okForm a = true) (hb : U.okForm b = true) : U.comF a b = (U.order (U.canR a) (U.canR b), 0, ()) := by
  rw [comF_eq]; unfold U.comRF; rw [if_pos ⟨ha, hb⟩]
theorem pow_le {k m : Nat} (h : k ≤ m) : (1 : Int) ≤ 2 ^ k ∧ (2 : Int) ^ k ≤ 2 ^ m := by
  have h1 : (1 : Nat) ≤ 2 ^ k := Nat.one_le_two_pow
  have h2 : (2 : Nat) ^ k ≤ 2 ^ m := Nat.pow_le_pow_right (by decide) h
  have e : ∀ j : Nat, ((2 : Int) ^ j) = ((2 ^ j : Nat) : Int) := fun j => by simp
  rw [e, e]
  omega
theorem has_range {N n : Int} (h : U.has N n = true) : 0 ≤ n ∧ U.bit N n = true := by
  unfold U.has at h
  rw [Bool.and_eq_true, decide_eq_true_iff] at h
  exact ⟨h.1.1, h.2⟩
theorem bit_small {N : Int} {m : Nat} (hN : 1 ≤ N) (hm : N < 2 ^ m) (hm2 : m ≤ 62) {n : Int} (h0 : 0 ≤ n) (h : U.bit N n = true) : n.toNat < m := by
  obtain ⟨k, rfl⟩ : ∃ k : Nat, N = (k : Int) := ⟨N.toNat, by omega⟩
  obtain ⟨i, rfl⟩ : ∃ i : Nat, n = (i : Int) := ⟨n.toNat, by omega⟩
  have hk : k < 2 ^ m := by
    have e : ((2 : Int) ^ m) = ((2 ^ m : Nat) : Int) := by simp
    rw [e] at hm; omega
  have hk2 : k < 2 ^ 63 := Nat.lt_of_lt_of_le hk (Nat.pow_le_pow_right (by decide) (by omega))
  rw [bit_nat hk2] at h
  have := Nat.ge_two_pow_of_testBit h
  show i < m
  rcases Nat.lt_or_ge i m with h1 | h1
  · exact h1
  · have := Nat.pow_le_pow_right (n := 2) (by decide) h1
    omega
theorem okS_iff {s : SnD} : U.okS s = true ↔ (1 ≤ U.rights s ∧ U.rights s ≤ 8589934591 ∧ 1 ≤ U.lefts s ∧ U.lefts s ≤ 8589934591 ∧ 1 ≤ U.faces s ∧ U.faces s ≤ 255 ∧ 1 ≤ U.rgs s ∧ U.rgs s ≤ 255 ∧ U.lo (U.cols s) ≤ U.hi (U.cols s) ∧ U.lo (U.rows s) ≤ U.hi (U.rows s) ∧ U.lo (U.ages s) ≤ U.hi (U.ages s) ∧ (U.mvs s).length ≤ 6 ∧ 0 ≤ U.lost s ∧ U.lost s ≤ 6) ∧ (U.mvs s).all U.okSet = true := by
  unfold U.okS; rw [Bool.and_eq_true, decide_eq_true_iff]
theorem ask_none {l : List ED} (hb : Book l) {s : SnD} (hs : U.okS s = true) (h : U.findR l s = []) : U.ask l s = (0, 0, 3, ()) := by
  rw [ask_eq]; unfold U.askR; rw [lookR_ok hb hs, if_neg (by simp), if_pos h]
theorem ask_some {l : List ED} (hb : Book l) {s : SnD} (hs : U.okS s = true) (h : U.findR l s ≠ []) : U.ask l s = ((U.bestR l s 5).1, (U.bestR l s 5).2, 0, ()) := by
  rw [ask_eq]; unfold U.askR; rw [lookR_ok hb hs, if_neg (by simp), if_neg h]
theorem findR_1000 (l : List ED) (s : SnD) : (U.findR l s).length ≤ 1000 := findTo_len l s 1000

/-! ### Bits -/

theorem two_nat (k : Nat) : (2 : Int) ^ k = ((2 ^ k : Nat) : Int) := by simp
theorem pow63 {k : Nat} (h : k ≤ 62) : 2 ^ k < 2 ^ 63 := Nat.pow_lt_pow_right (by decide) (by omega)
theorem bit_two {k : Nat} (hk : k ≤ 62) {n : Int} (hn : 0 ≤ n) : U.bit ((2 : Int) ^ k) n = decide (n = (k : Int)) := by
  obtain ⟨i, rfl⟩ : ∃ i : Nat, n = (i : Int) := ⟨n.toNat, by omega⟩
  rw [two_nat, bit_nat (pow63 hk), Nat.testBit_two_pow]
  exact decide_eq_decide.2 ⟨fun h => by omega, fun h => by omega⟩
theorem band_one {x : Int} (h0 : 0 ≤ x) (h1 : x < 2 ^ 62) {r : Int} (hr : 0 ≤ r) : band (x / 2 ^ r.toNat) 1 ≠ 0 ↔ U.bit x r = true := by
  obtain ⟨n, rfl⟩ : ∃ n : Nat, x = (n : Int) := ⟨x.toNat, by omega⟩
  have hn : n < 2 ^ 63 := by omega
  have hd : n / 2 ^ r.toNat < 2 ^ 63 := Nat.lt_of_le_of_lt (Nat.div_le_self _ _) hn
  unfold U.bit
  rw [decide_eq_true_iff, div_nat, show (1 : Int) = ((1 : Nat) : Int) from rfl, band_nat hd (by decide)]
  have := Nat.and_one_is_mod (n / 2 ^ r.toNat)
  omega
theorem band_two {x : Int} (h0 : 0 ≤ x) (h1 : x < 2 ^ 62) {r : Nat} (hr : r ≤ 62) : band x ((2 : Int) ^ r) ≠ 0 ↔ U.bit x (r : Int) = true := by
  obtain ⟨n, rfl⟩ : ∃ n : Nat, x = (n : Int) := ⟨x.toNat, by omega⟩
  have hn : n < 2 ^ 63 := by omega
  rw [two_nat, band_nat hn (pow63 hr), bit_nat hn]
  constructor
  · intro h
    cases e : n.testBit r with
    | true => rfl
    | false =>
      refine absurd ?_ h
      have : n &&& 2 ^ r = 0 := Nat.eq_of_testBit_eq (fun i => by
        rw [Nat.testBit_and, Nat.testBit_two_pow, Nat.zero_testBit]
        by_cases h : r = i
        · subst h; rw [e]; rfl
        · rw [decide_eq_false h, Bool.and_false])
      rw [this]; rfl
  · intro h hz
    have hz : n &&& 2 ^ r = 0 := by omega
    have := congrArg (fun k => k.testBit r) hz
    simp [h, Nat.testBit_two_pow] at this
theorem band_both {x y : Int} (h0 : 0 ≤ x) (h1 : x < 2 ^ 62) (h2 : 0 ≤ y) (h3 : y < 2 ^ 62) {r : Nat} (hx : U.bit x (r : Int) = true) (hy : U.bit y (r : Int) = true) : band x y ≠ 0 := by
  obtain ⟨n, rfl⟩ : ∃ n : Nat, x = (n : Int) := ⟨x.toNat, by omega⟩
  obtain ⟨m, rfl⟩ : ∃ m : Nat, y = (m : Int) := ⟨y.toNat, by omega⟩
  rw [bit_nat (by omega)] at hx hy
  rw [band_nat (by omega) (by omega)]
  intro h
  have h : n &&& m = 0 := by omega
  have := congrArg (fun k => k.testBit r) h
  simp [hx, hy] at this
theorem bor_nat {a b : Nat} (ha : a < 2 ^ 63) (hb : b < 2 ^ 63) : bor (a : Int) (b : Int) = ((a ||| b : Nat) : Int) := by
  unfold bor
  rw [BitVec.toNat_or, ofInt_nat ha, ofInt_nat hb, wrap_nat (Nat.or_lt_two_pow ha hb)]
theorem bor_range {a b : Int} {m : Nat} (hm : m ≤ 62) (ha : 0 ≤ a ∧ a < 2 ^ m) (hb : 0 ≤ b ∧ b < 2 ^ m) : 0 ≤ bor a b ∧ bor a b < 2 ^ m ∧ a ≤ bor a b ∧ b ≤ bor a b := by
  obtain ⟨n, rfl⟩ : ∃ n : Nat, a = (n : Int) := ⟨a.toNat, by omega⟩
  obtain ⟨k, rfl⟩ : ∃ k : Nat, b = (k : Int) := ⟨b.toNat, by omega⟩
  have e := two_nat m
  have hn : n < 2 ^ m := by omega
  have hk : k < 2 ^ m := by omega
  have hp := pow63 hm
  rw [bor_nat (by omega) (by omega)]
  have h1 := Nat.or_lt_two_pow hn hk
  have h2 : n ≤ n ||| k := Nat.left_le_or
  have h3 : k ≤ n ||| k := Nat.right_le_or
  omega
theorem bit_bor {a b : Int} (ha : 0 ≤ a ∧ a < 2 ^ 62) (hb : 0 ≤ b ∧ b < 2 ^ 62) {n : Int} (hn : 0 ≤ n) : U.bit (bor a b) n = (U.bit a n || U.bit b n) := by
  obtain ⟨x, rfl⟩ : ∃ x : Nat, a = (x : Int) := ⟨a.toNat, by omega⟩
  obtain ⟨y, rfl⟩ : ∃ y : Nat, b = (y : Int) := ⟨b.toNat, by omega⟩
  obtain ⟨i, rfl⟩ : ∃ i : Nat, n = (i : Int) := ⟨n.toNat, by omega⟩
  have hp : x ||| y < 2 ^ 62 := Nat.or_lt_two_pow (by omega) (by omega)
  rw [bor_nat (by omega) (by omega), bit_nat (by omega), bit_nat (by omega), bit_nat (by omega), Nat.testBit_or]
theorem band_mask {a : Int} (h : In64 a) {m : Nat} (hm : m ≤ 62) : 0 ≤ band a (2 ^ m - 1) ∧ band a (2 ^ m - 1) < 2 ^ m := by
  have hp : 1 ≤ 2 ^ m := Nat.one_le_two_pow
  have e : (2 : Int) ^ m - 1 = ((2 ^ m - 1 : Nat) : Int) := by rw [two_nat]; omega
  have hlt : 2 ^ m - 1 < 2 ^ 63 := by have := pow63 hm; omega
  unfold band
  rw [e, BitVec.toNat_and, ofInt_nat hlt]
  have h1 : (BitVec.ofInt 64 a).toNat &&& (2 ^ m - 1) ≤ 2 ^ m - 1 := Nat.and_le_right
  rw [wrap_nat (by omega), two_nat]
  omega
/-- what a set has in common with another is not less with more elements -/
theorem band_mono {x a b : Int} (hx : 0 ≤ x ∧ x < 2 ^ 62) (ha : 0 ≤ a ∧ a < 2 ^ 62) (hb : 0 ≤ b ∧ b < 2 ^ 62) (h : band x a ≠ 0) : band x (bor a b) ≠ 0 := by
  obtain ⟨n, rfl⟩ : ∃ n : Nat, x = (n : Int) := ⟨x.toNat, by omega⟩
  obtain ⟨k, rfl⟩ : ∃ k : Nat, a = (k : Int) := ⟨a.toNat, by omega⟩
  obtain ⟨m, rfl⟩ : ∃ m : Nat, b = (m : Int) := ⟨b.toNat, by omega⟩
  have hp : k ||| m < 2 ^ 62 := Nat.or_lt_two_pow (by omega) (by omega)
  rw [bor_nat (by omega) (by omega), band_nat (by omega) (by omega)]
  rw [band_nat (by omega) (by omega)] at h
  intro hz
  have hz : n &&& (k ||| m) = 0 := by omega
  apply h
  have : n &&& k = 0 := Nat.eq_of_testBit_eq (fun i => by
    have := congrArg (fun q => q.testBit i) hz
    simp only [Nat.testBit_and, Nat.testBit_or, Nat.zero_testBit] at this ⊢
    revert this; cases n.testBit i <;> cases k.testBit i <;> simp)
  rw [this]; rfl

end Go.X
/-
  Signs: the law of the twins.
-/
namespace Go.X
open Go.Proofs

abbrev tSg : Ty := .st [.int, .int, .int, .int, .bool]
abbrev SgD : Type := Int × Int × Int × Int × Bool × Unit
namespace U
def two (n : Int) : Int := 2 ^ n.toNat
/-- just what is shown of a form, in a region and at an age, with so many of its moves -/
def seen (f : FmD) (r a : Int) (ms : List Int) : SnD := (two (rt f + 1), two (lf f + 1), two (fc f), two r, 0, (co f, co f, ()), (rw' f, rw' f, ()), (a, a, ()), ms.map two, ())
def seen9 (l : List ED) (x : SgD) : SnD := seen (fm (nth l x.1.toNat)) x.2.1 x.2.2.1 (mv (fm (nth l x.1.toNat)))
def fnd9 (l : List ED) (x : SgD) : List Int := (fnd l (seen9 l x)).1
def tw9 (l : List ED) : List PaD := (twn l).1
def eqPair (t : List PaD) (p : PaD) : Bool := t.any (fun q => decide (q = p))
def twinAt (t : List PaD) (k : Nat) (l : List ED) (x y : ED) : Bool := decide ((comF (fm x) (fm y)).1 = 0) && decide (nth t k = (sg x, sg y, ())) && decide (band (rg x) (rg y) ≠ 0) && decide (max (lo (ag x)) (lo (ag y)) ≤ min (hi (ag x)) (hi (ag y)))
def twinRow (t : List PaD) (k : Nat) (l : List ED) (x : ED) : Bool := l.any (twinAt t k l x)
end U




end Go.X
/-
  Signs: the twins.
-/
namespace Go.X
open Go.Proofs

theorem two_pos {n : Int} (h : 0 ≤ n) (h2 : n ≤ 59) {m : Nat} (hm : n.toNat ≤ m) : 1 ≤ U.two n ∧ U.two n ≤ 2 ^ m := pow_le hm
theorem has_two {n m : Int} (h : 0 ≤ n) (h2 : n ≤ 59) : U.has (U.two n) m = decide (m = n) := by
  unfold U.has U.two
  by_cases hm : 0 ≤ m ∧ m < 60
  · rw [decide_eq_true hm, Bool.true_and, bit_two (by omega) hm.1]
    exact decide_eq_decide.2 ⟨fun h => by omega, fun h => by omega⟩
  · rw [decide_eq_false hm, Bool.false_and, decide_eq_false (by omega)]
theorem emb_self : ∀ {ms : List Int}, (∀ m, m ∈ ms → U.okMove m = true) → emb (ms.map U.two) ms = true
  | [], _ => rfl
  | m :: r, h => by
    have h0 := okMove_iff.1 (h m (by simp))
    rw [List.map_cons, emb_cc, emb_self (fun x hx => h x (List.mem_cons_of_mem _ hx))]
    unfold U.two
    rw [bit_two (by omega) h0.1, decide_eq_true (by omega)]
    rfl
theorem emb_same : ∀ {ms gs : List Int}, (∀ m, m ∈ ms → U.okMove m = true) → (∀ m, m ∈ gs → U.okMove m = true) → emb (ms.map U.two) gs = true → gs.length ≤ ms.length → gs = ms
  | [], [], _, _, _, _ => rfl
  | [], g :: t, _, _, _, h => by simp at h
  | m :: r, [], _, _, h, _ => by simp [emb] at h
  | m :: r, g :: t, hm, hg, h, hl => by
    simp only [List.length_cons] at hl
    rw [List.map_cons, emb_cc, Bool.or_eq_true, Bool.and_eq_true] at h
    rcases h with ⟨h1, h2⟩ | h
    · have h0 := okMove_iff.1 (hm m (by simp))
      have g0 := okMove_iff.1 (hg g (by simp))
      unfold U.two at h1
      rw [bit_two (by omega) g0.1, decide_eq_true_iff] at h1
      have e : g = m := by omega
      rw [e, emb_same (fun x hx => hm x (List.mem_cons_of_mem _ hx)) (fun x hx => hg x (List.mem_cons_of_mem _ hx)) h2 (by omega)]
    · have := emb_len h
      simp only [List.length_cons, List.length_map] at this
      omega
theorem moves_ok {f : FmD} (h : U.okForm f = true) : ∀ m, m ∈ U.mv f → U.okMove m = true := List.all_eq_true.1 (okForm_moves h)
theorem okForm_u {f : FmD} (h : U.okForm f = true) : -1 ≤ U.rt f ∧ U.rt f ≤ 31 ∧ -1 ≤ U.lf f ∧ U.lf f ≤ 31 ∧ 0 ≤ U.fc f ∧ U.fc f ≤ 7 := by
  unfold U.okForm at h
  simp only [Bool.and_eq_true, decide_eq_true_eq] at h
  omega
theorem shown_iff {f g : FmD} (hf : U.okForm f = true) (hg : U.okForm g = true) {r a : Int} : U.shownR g (U.seen f r a (U.mv f)) = true ↔ g = f := by
  obtain ⟨f1, f2, f3, f4, f5, f6⟩ := okForm_u hf
  have e : U.shownR g (U.seen f r a (U.mv f)) = (U.has (U.two (U.rt f + 1)) (U.rt g + 1) && U.has (U.two (U.lf f + 1)) (U.lf g + 1) && U.has (U.two (U.fc f)) (U.fc g) && U.within (U.co g) (U.co f) (U.co f) && U.within (U.rw' g) (U.rw' f) (U.rw' f) && U.fits (U.mv g) ((U.mv f).map U.two) 0) := rfl
  rw [e, has_two (by omega) (by omega), has_two (by omega) (by omega), has_two (by omega) (by omega), fits_emb _ _ _ (moves_ok hg) (Int.le_refl _)]
  unfold U.within
  simp only [Bool.and_eq_true, decide_eq_true_eq, List.length_map]
  constructor
  · rintro ⟨⟨⟨⟨⟨h1, h2⟩, h3⟩, h4⟩, h5⟩, h6, h7⟩
    have := emb_same (moves_ok hf) (moves_ok hg) h6 (by omega)
    exact fm_ext (show U.rt g = U.rt f by omega) (show U.lf g = U.lf f by omega) (show U.co g = U.co f by omega) (show U.rw' g = U.rw' f by omega) (show U.fc g = U.fc f by omega) this
  · rintro rfl
    exact ⟨⟨⟨⟨⟨rfl, rfl⟩, rfl⟩, by omega⟩, by omega⟩, emb_self (moves_ok hf), by omega⟩
theorem okE_u {x : ED} (h : U.okE x = true) : 1 ≤ U.rg x ∧ U.rg x ≤ 255 ∧ 0 ≤ U.lo (U.ag x) ∧ U.lo (U.ag x) ≤ U.hi (U.ag x) ∧ U.hi (U.ag x) ≤ 120 := by
  unfold U.okE at h
  simp only [Bool.and_eq_true, decide_eq_true_eq] at h
  omega
theorem seen_ok {f : FmD} (hf : U.okForm f = true) {r a : Int} (hr : 0 ≤ r ∧ r ≤ 7) : U.okS (U.seen f r a (U.mv f)) = true := by
  obtain ⟨f1, f2, f3, f4, f5, f6⟩ := okForm_u hf
  have a1 := two_pos (n := U.rt f + 1) (m := 32) (by omega) (by omega) (by omega)
  have a2 := two_pos (n := U.lf f + 1) (m := 32) (by omega) (by omega) (by omega)
  have a3 := two_pos (n := U.fc f) (m := 7) (by omega) (by omega) (by omega)
  have a4 := two_pos (n := r) (m := 7) (by omega) (by omega) (by omega)
  have hlen := okForm_len hf
  refine okS_iff.2 ⟨⟨a1.1, ?_, a2.1, ?_, a3.1, ?_, a4.1, ?_, Int.le_refl _, Int.le_refl _, Int.le_refl _, ?_, Int.le_refl _, ?_⟩, ?_⟩
  · show U.two (U.rt f + 1) ≤ _; omega
  · show U.two (U.lf f + 1) ≤ _; omega
  · show U.two (U.fc f) ≤ _; omega
  · show U.two r ≤ _; omega
  · show ((U.mv f).map U.two).length ≤ 6; rw [List.length_map]; exact hlen
  · show (0 : Int) ≤ 6; omega
  · show ((U.mv f).map U.two).all U.okSet = true
    rw [List.all_eq_true]
    intro y hy
    obtain ⟨m, hm, rfl⟩ := List.mem_map.1 hy
    have h0 := okMove_iff.1 (moves_ok hf m hm)
    have := two_pos (n := m) (m := 7) (by omega) (by omega) (by omega)
    unfold U.okSet
    exact decide_eq_true (by omega)
theorem agrees_iff {x : ED} (hx : U.okE x = true) {f : FmD} (hf : U.okForm f = true) {r a : Int} (hr : 0 ≤ r ∧ r ≤ 7) : U.agreesR x (U.seen f r a (U.mv f)) = true ↔ U.bit (U.rg x) r = true ∧ (U.lo (U.ag x) ≤ a ∧ a ≤ U.hi (U.ag x)) ∧ (U.fm x = f ∨ U.mir (U.fm x) = f) := by
  obtain ⟨x1, x2, x3, x4, x5⟩ := okE_u hx
  have hg := okE_form hx
  have e : U.agreesR x (U.seen f r a (U.mv f)) = (decide (band (U.rg x) (2 ^ r.toNat) ≠ 0) && decide (max (U.lo (U.ag x)) a ≤ min (U.hi (U.ag x)) a) && (U.shownR (U.fm x) (U.seen f r a (U.mv f)) || U.shownR (U.mir (U.fm x)) (U.seen f r a (U.mv f)))) := rfl
  rw [e, Bool.and_eq_true, Bool.and_eq_true, Bool.or_eq_true, decide_eq_true_iff, decide_eq_true_iff, shown_iff hf hg, shown_iff hf (mir_ok hg), band_two (by omega) (by omega) (by omega)]
  have er : ((r.toNat : Nat) : Int) = r := by omega
  rw [er, and_assoc]
  exact and_congr_right fun _ => and_congr_left fun _ => ⟨fun h => by omega, fun h => by omega⟩
theorem twn_ok {l : List ED} (hb : Book l) : U.twn l = (U.rowsTo l (U.signsR l) (U.signsR l).length, 0, ()) := by
  rw [twn_eq]; unfold U.twnR; rw [if_neg (show ¬ U.chk l ≠ 0 by simp [chk_iff.2 hb])]
theorem twinR_iff {u v : ED} : U.twinR u v = true ↔ U.canR (U.fm u) = U.canR (U.fm v) ∧ band (U.rg u) (U.rg v) ≠ 0 ∧ max (U.lo (U.ag u)) (U.lo (U.ag v)) ≤ min (U.hi (U.ag u)) (U.hi (U.ag v)) := by
  unfold U.twinR
  rw [Bool.and_eq_true, Bool.and_eq_true, decide_eq_true_iff, decide_eq_true_iff, decide_eq_true_iff, order_zero, and_assoc]
/-- what is found is the entry's own sign, or a twin's -/
theorem found_twin {l : List ED} (hb : Book l) {y : ED} (hy : y ∈ l) {r a : Int} (hr : 0 ≤ r ∧ r ≤ 7) (hyr : U.bit (U.rg y) r = true) (ha : U.lo (U.ag y) ≤ a ∧ a ≤ U.hi (U.ag y)) {n : Int} (hn : n ∈ U.findR l (U.seen (U.fm y) r a (U.mv (U.fm y)))) :
    n = U.sg y ∨ (min n (U.sg y), max n (U.sg y), ()) ∈ U.rowsTo l (U.signsR l) (U.signsR l).length := by
  have hyo := hb.ok y hy
  have hf := okE_form hyo
  obtain ⟨x, hx, rfl, hag⟩ := (findR_mem hb).1 hn
  have hxo := hb.ok x hx
  obtain ⟨h1, h2, h3⟩ := (agrees_iff hxo hf hr).1 hag
  have hc : U.canR (U.fm x) = U.canR (U.fm y) := (canR_same (okE_form hxo) hf).2 h3
  obtain ⟨x1, x2, x3, x4, x5⟩ := okE_u hxo
  obtain ⟨y1, y2, y3, y4, y5⟩ := okE_u hyo
  have er : ((r.toNat : Nat) : Int) = r := by omega
  rw [← er] at h1 hyr
  by_cases hs : U.sg x = U.sg y
  · exact .inl hs
  · refine .inr ((twins_mem hb.ok).2 ?_)
    rcases Int.lt_or_gt_of_ne hs with hlt | hlt
    · exact ⟨x, hx, y, hy, hlt, twinR_iff.2 ⟨hc, band_both (by omega) (by omega) (by omega) (by omega) h1 hyr, by omega⟩, by rw [show min (U.sg x) (U.sg y) = U.sg x by omega, show max (U.sg x) (U.sg y) = U.sg y by omega]⟩
    · exact ⟨y, hy, x, hx, hlt, twinR_iff.2 ⟨hc.symm, band_both (by omega) (by omega) (by omega) (by omega) hyr h1, by omega⟩, by rw [show min (U.sg x) (U.sg y) = U.sg y by omega, show max (U.sg x) (U.sg y) = U.sg x by omega]⟩
theorem twinAt_iff {t : List PaD} {k : Nat} {l : List ED} {x y : ED} (hx : U.okE x = true) (hy : U.okE y = true) : U.twinAt t k l x y = true ↔ nth t k = (U.sg x, U.sg y, ()) ∧ U.twinR x y = true := by
  unfold U.twinAt
  rw [comF_ok (okE_form hx) (okE_form hy), Bool.and_eq_true, Bool.and_eq_true, Bool.and_eq_true, decide_eq_true_iff, decide_eq_true_iff, decide_eq_true_iff, decide_eq_true_iff, twinR_iff]
  show ((U.order _ _ = 0 ∧ _) ∧ _) ∧ _ ↔ _
  rw [order_zero]
  constructor
  · rintro ⟨⟨⟨h1, h2⟩, h3⟩, h4⟩; exact ⟨h2, h1, h3, h4⟩
  · rintro ⟨h2, h1, h3, h4⟩; exact ⟨⟨⟨h1, h2⟩, h3⟩, h4⟩
theorem in64_two {n : Int} (h : n ≤ 59) : In64 (1 * 2 ^ n.toNat) := by
  have := pow_le (k := n.toNat) (m := 59) (by omega)
  unfold In64
  omega
theorem tw9_eq {l : List ED} (hb : Book l) : U.twn l = (U.tw9 l, 0, ()) := by
  have := twn_ok hb
  unfold U.tw9; rw [this]
theorem tw9_rows {l : List ED} (hb : Book l) : U.tw9 l = U.rowsTo l (U.signsR l) (U.signsR l).length := by
  unfold U.tw9; rw [twn_ok hb]
theorem tw9_mem {l : List ED} (hb : Book l) {p : PaD} : p ∈ U.tw9 l ↔ ∃ u, u ∈ l ∧ ∃ v, v ∈ l ∧ U.sg u < U.sg v ∧ U.twinR u v = true ∧ p = (U.sg u, U.sg v, ()) := by
  rw [tw9_rows hb]; exact twins_mem hb.ok

end Go.X
