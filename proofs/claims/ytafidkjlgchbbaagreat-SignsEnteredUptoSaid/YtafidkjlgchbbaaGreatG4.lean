/-
  Signs, the specification: books, Merge, Order: what is asked.
-/
import Derived.Test.YtafidkjlgchbbaaGreatG3
namespace Go.X
open Go.Proofs

namespace U
def isB (l : List ED) : Bool := decide (l.length ≤ 40) && l.all okE
def alikeR (a b : ED) : Bool := decide (id' a = id' b ∧ sg a = sg b ∧ rg a = rg b ∧ ag a = ag b ∧ order (canR (fm a)) (canR (fm b)) = 0)
def clsh (a b : ED) : Bool := decide (id' a = id' b) && !alikeR a b
def clashAt (l : List ED) (i : Nat) : Bool := (l.take i).any (clsh (nth l i))
def clashTo (l : List ED) (n : Nat) : Bool := (List.range n).any (clashAt l)
def clash (l : List ED) : Bool := clashTo l l.length
def chk (l : List ED) : Int := if isB l = false then 11 else if clash l = true then 12 else 0
def canRE (x : ED) : ED := (id' x, sg x, rg x, canR (fm x), ag x, ())
def firstOf (l : List ED) (n : Nat) : List ED := match l.find? (fun x => decide (id' x = (n : Int))) with
  | some x => [canRE x]
  | none => []
def distTo (l : List ED) (n : Nat) : List ED := (List.range n).flatMap (firstOf l)
def dist (l : List ED) : List ED := distTo l 100
def mrgR (l more : List ED) : List ED × Int × Unit := if chk l ≠ 0 then ([], chk l, ()) else if chk more ≠ 0 then ([], chk more, ()) else if 40 < (dist (l ++ more)).length then ([], 2, ()) else if clash (l ++ more) = true then ([], 12, ()) else (dist (l ++ more), 0, ())
def before (a b : ED) : Bool := decide (cmpE a b < 0)
def ordR (l : List ED) : List Int × Int × Unit := if chk l ≠ 0 then ([], chk l, ()) else ((srtE (dist l)).map id', 0, ())
def inv33 (l d : List ED) (out : List Int) : Prop := out ++ (srtE d).map id' = (srtE (dist l)).map id' ∧ (d.map id').Nodup ∧ (∀ x ∈ d, okForm (fm x) = true) ∧ d.length ≤ 100 ∧ out.length ≤ 100
def inv33i (d : List ED) (i first : Nat) : Prop := i ≤ d.length ∧ first < d.length ∧ ∀ b : Nat, b < i → before (nth d b) (nth d first) = false
end U

def sp81 : Spec := ⟨[.val tE], [.bool], false, fun _ => [], fun d => (U.okE d.1, ())⟩
def vc81 : Prop :=
  ∀ (d : ED × Unit),
  (U.within d.1.1 (0 : Int) (99 : Int) && U.within d.1.2.1 (0 : Int) (999 : Int) && U.okForm d.1.2.2.2.1 && U.within d.1.2.2.1 (1 : Int) (255 : Int) && decide ((0 : Int) ≤ d.1.2.2.2.2.1.1) &&
  decide (d.1.2.2.2.2.1.1 ≤ d.1.2.2.2.2.1.2.1) &&
  decide (d.1.2.2.2.2.1.2.1 ≤ (120 : Int)),
  ()) =
  (U.okE d.1, ())

theorem vc81_eq : fnVC (ctx 42 [(43, sp43), (55, sp55)] []) (fun _ => none) Tryz.f81 (bodyOf Tryz.f81) sp81 = vc81 := by kernel_rfl

def sp48 : Spec := ⟨[.val (.slice tE)], [.bool], false, fun _ => [], fun d => (U.isB d.1, ())⟩
def an48 : Ann := fun r => match r with
  | 2 => some fun σ => { X := Nat, sl := fun i => [(3, .dat .int (i : Int))], ob := fun _ => [], inv := fun i => i ≤ (gd (.slice tE) σ 0).length ∧ ((gd (.slice tE) σ 0).take i).all U.okE = true, mu := fun i => (gd (.slice tE) σ 0).length - i }
  | _ => none
def vc48 : Prop :=
  ∀ (d : List ED × Unit),
  (∃ (x : Nat), (((0 : Int) = (x : Int) ∧ True) ∧ True) ∧ x ≤ d.1.length ∧ (List.take x d.1).all U.okE = true) ∧
  ∀ (x : Nat),
  x ≤ d.1.length ∧ (List.take x d.1).all U.okE = true →
  d.1.length < 4611686018427387904 →
  (decide ((x : Int) < (d.1.length : Int)) = true →
  0 ≤ (x : Int) ∧
  (x : Int) < (d.1.length : Int) ∧
  ((!U.okE (nth d.1 (x : Int).toNat)) = true → (false, ()) = (U.isB d.1, ())) ∧
  ((!U.okE (nth d.1 (x : Int).toNat)) = false →
  In64 ((x : Int) + 1) ∧ ∃ (x' : Nat), (((x : Int) + 1 = (x' : Int) ∧ True) ∧ True) ∧ (x' ≤ d.1.length ∧ (List.take x' d.1).all U.okE = true) ∧ d.1.length - x' < d.1.length - x)) ∧
  (decide ((x : Int) < (d.1.length : Int)) = false → d.1.length < 4611686018427387904 → (decide ((d.1.length : Int) ≤ (40 : Int)), ()) = (U.isB d.1, ()))

theorem vc48_eq : fnVC (ctx 19 [(81, sp81)] []) (an48) Tryz.f48 (bodyOf Tryz.f48) sp48 = vc48 := by kernel_rfl

def sp95 : Spec := ⟨[.val tE, .val tE], [.bool], false, fun d => [U.okForm (U.fm d.1) = true, U.okForm (U.fm d.2.1) = true], fun d => (U.alikeR d.1 d.2.1, ())⟩
def vc95 : Prop :=
  ∀ (d : ED × ED × Unit),
  U.okForm (U.fm d.1) = true →
  U.okForm (U.fm d.2.1) = true →
  ((decide (d.1.1 = d.2.1.1) && decide (d.1.2.1 = d.2.1.2.1) && decide (d.1.2.2.1 = d.2.1.2.2.1) && decide (d.1.2.2.2.2.1 = d.2.1.2.2.2.2.1)) = true →
  U.okForm d.1.2.2.2.1 = true) ∧
  ((decide (d.1.1 = d.2.1.1) && decide (d.1.2.1 = d.2.1.2.1) && decide (d.1.2.2.1 = d.2.1.2.2.1) && decide (d.1.2.2.2.2.1 = d.2.1.2.2.2.2.1)) = true →
  U.okForm d.2.1.2.2.2.1 = true) ∧
  ((decide (d.1.1 = d.2.1.1) && decide (d.1.2.1 = d.2.1.2.1) && decide (d.1.2.2.1 = d.2.1.2.2.1) && decide (d.1.2.2.2.2.1 = d.2.1.2.2.2.2.1)) = true →
  U.okForm (U.canR d.1.2.2.2.1) = true) ∧
  ((decide (d.1.1 = d.2.1.1) && decide (d.1.2.1 = d.2.1.2.1) && decide (d.1.2.2.1 = d.2.1.2.2.1) && decide (d.1.2.2.2.2.1 = d.2.1.2.2.2.2.1)) = true →
  U.okForm (U.canR d.2.1.2.2.2.1) = true) ∧
  (decide (d.1.1 = d.2.1.1) && decide (d.1.2.1 = d.2.1.2.1) && decide (d.1.2.2.1 = d.2.1.2.2.1) && decide (d.1.2.2.2.2.1 = d.2.1.2.2.2.2.1) &&
  decide (U.order (U.canR d.1.2.2.2.1) (U.canR d.2.1.2.2.2.1) = (0 : Int)),
  ()) =
  (U.alikeR d.1 d.2.1, ())

theorem vc95_eq : fnVC (ctx 41 [(78, sp78), (79, sp79)] []) (fun _ => none) Tryz.f95 (bodyOf Tryz.f95) sp95 = vc95 := by kernel_rfl

def sp57 : Spec := ⟨[.val (.slice tE)], [.bool], false, fun d => [∀ x ∈ d.1, U.okForm (U.fm x) = true], fun d => (U.clash d.1, ())⟩
def an57 : Ann := fun r => match r with
  | 2 => some fun σ => { X := Nat, sl := fun i => [(3, .dat .int (i : Int))], ob := fun _ => [], inv := fun i => i ≤ (gd (.slice tE) σ 0).length ∧ U.clashTo (gd (.slice tE) σ 0) i = false, mu := fun i => (gd (.slice tE) σ 0).length - i }
  | 5 => some fun σ => { X := Nat, sl := fun k => [(4, .dat .int (k : Int))], ob := fun _ => [], inv := fun k => k ≤ (gd .int σ 3).toNat ∧ ((gd (.slice tE) σ 0).take k).any (U.clsh (nth (gd (.slice tE) σ 0) (gd .int σ 3).toNat)) = false, mu := fun k => (gd .int σ 3).toNat - k }
  | _ => none
def vc57 : Prop :=
  ∀ (d : List ED × Unit),
  (∀ (x : ED), x ∈ d.1 → U.okForm (U.fm x) = true) →
  (∃ (x : Nat), (((0 : Int) = (x : Int) ∧ True) ∧ True) ∧ x ≤ d.1.length ∧ U.clashTo d.1 x = false) ∧
  ∀ (x : Nat),
  x ≤ d.1.length ∧ U.clashTo d.1 x = false →
  d.1.length < 4611686018427387904 →
  (decide ((x : Int) < (d.1.length : Int)) = true →
  (∃ (x_4 : Nat), (((0 : Int) = (x_4 : Int) ∧ True) ∧ True) ∧ x_4 ≤ (x : Int).toNat ∧ (List.take x_4 d.1).any (U.clsh (nth d.1 (x : Int).toNat)) = false) ∧
  ∀ (x_4 : Nat),
  x_4 ≤ (x : Int).toNat ∧ (List.take x_4 d.1).any (U.clsh (nth d.1 (x : Int).toNat)) = false →
  (decide ((x_4 : Int) < (x : Int)) = true →
  0 ≤ (x : Int) ∧
  (x : Int) < (d.1.length : Int) ∧
  0 ≤ (x_4 : Int) ∧
  (x_4 : Int) < (d.1.length : Int) ∧
  (decide ((nth d.1 (x : Int).toNat).1 = (nth d.1 (x_4 : Int).toNat).1) = true → 0 ≤ (x : Int)) ∧
  (decide ((nth d.1 (x : Int).toNat).1 = (nth d.1 (x_4 : Int).toNat).1) = true → (x : Int) < (d.1.length : Int)) ∧
  (decide ((nth d.1 (x : Int).toNat).1 = (nth d.1 (x_4 : Int).toNat).1) = true → 0 ≤ (x_4 : Int)) ∧
  (decide ((nth d.1 (x : Int).toNat).1 = (nth d.1 (x_4 : Int).toNat).1) = true → (x_4 : Int) < (d.1.length : Int)) ∧
  (decide ((nth d.1 (x : Int).toNat).1 = (nth d.1 (x_4 : Int).toNat).1) = true → U.okForm (U.fm (nth d.1 (x : Int).toNat)) = true) ∧
  (decide ((nth d.1 (x : Int).toNat).1 = (nth d.1 (x_4 : Int).toNat).1) = true → U.okForm (U.fm (nth d.1 (x_4 : Int).toNat)) = true) ∧
  ((decide ((nth d.1 (x : Int).toNat).1 = (nth d.1 (x_4 : Int).toNat).1) && !U.alikeR (nth d.1 (x : Int).toNat) (nth d.1 (x_4 : Int).toNat)) = true →
  (true, ()) = (U.clash d.1, ())) ∧
  ((decide ((nth d.1 (x : Int).toNat).1 = (nth d.1 (x_4 : Int).toNat).1) && !U.alikeR (nth d.1 (x : Int).toNat) (nth d.1 (x_4 : Int).toNat)) = false →
  In64 ((x_4 : Int) + 1) ∧
  ∃ (x' : Nat),
  (((x_4 : Int) + 1 = (x' : Int) ∧ True) ∧ True) ∧
  (x' ≤ (x : Int).toNat ∧ (List.take x' d.1).any (U.clsh (nth d.1 (x : Int).toNat)) = false) ∧ (x : Int).toNat - x' < (x : Int).toNat - x_4)) ∧
  (decide ((x_4 : Int) < (x : Int)) = false →
  In64 ((x : Int) + 1) ∧ ∃ (x' : Nat), (((x : Int) + 1 = (x' : Int) ∧ True) ∧ True) ∧ (x' ≤ d.1.length ∧ U.clashTo d.1 x' = false) ∧ d.1.length - x' < d.1.length - x)) ∧
  (decide ((x : Int) < (d.1.length : Int)) = false → (false, ()) = (U.clash d.1, ()))

theorem vc57_eq : fnVC (ctx 39 [(95, sp95)] []) (an57) Tryz.f57 (bodyOf Tryz.f57) sp57 = vc57 := by kernel_rfl

def sp28 : Spec := ⟨[.val (.slice tE)], [.int], false, fun _ => [], fun d => (U.chk d.1, ())⟩
def vc28 : Prop :=
  ∀ (d : List ED × Unit),
  ((!U.isB d.1) = true → ((11 : Int), ()) = (U.chk d.1, ())) ∧
  ((!U.isB d.1) = false →
  (∀ (x : ED), x ∈ d.1 → U.okForm (U.fm x) = true) ∧
  (U.clash d.1 = true → ((12 : Int), ()) = (U.chk d.1, ())) ∧ (U.clash d.1 = false → ((0 : Int), ()) = (U.chk d.1, ())))

theorem vc28_eq : fnVC (ctx 8 [(48, sp48), (57, sp57)] []) (fun _ => none) Tryz.f28 (bodyOf Tryz.f28) sp28 = vc28 := by kernel_rfl










end Go.X
/-
  Signs, the specification: books, Merge, Order.
-/
namespace Go.X
open Go.Proofs

theorem h81 : vc81 := by
  intro d
  congr 1
  unfold U.okE U.within U.id' U.sg U.rg U.lo U.hi U.ag U.fm
  rw [Bool.eq_iff_iff]
  simp only [Bool.and_eq_true, decide_eq_true_eq]
  constructor
  · rintro ⟨⟨⟨⟨⟨⟨h1, h2⟩, h3⟩, h4⟩, h5⟩, h6⟩, h7⟩; exact ⟨⟨h1.1, h1.2, h2.1, h2.2, h4.1, h4.2, h5, h6, h7⟩, h3⟩
  · rintro ⟨⟨h1, h2, h3, h4, h5, h6, h7, h8, h9⟩, h10⟩; exact ⟨⟨⟨⟨⟨⟨⟨h1, h2⟩, h3, h4⟩, h10⟩, h5, h6⟩, h7⟩, h8⟩, h9⟩
theorem ok81 : FnOK PR 81 sp81 := mkFn (vc81_eq.mpr h81) Tryz.func81 (by kernel_rfl) (by kernel_rfl) (by kernel_rfl) (by kernel_rfl) ⟨fun _ => ok43, fun _ => ok55, trivial⟩ trivial
theorem h48 : vc48 := by
  rintro ⟨l, ⟨⟩⟩
  refine ⟨⟨0, ⟨⟨rfl, trivial⟩, trivial⟩, Nat.zero_le _, by simp⟩, fun i hi hl => ⟨fun h => ?_, fun h _ => ?_⟩⟩
  · have h : i < l.length := by simpa using h
    simp only [Int.toNat_natCast]
    refine ⟨by omega, by omega, fun hb => ?_, fun hb => ⟨L.in64 (by omega) (by omega), i + 1, ⟨⟨by simp, trivial⟩, trivial⟩, ⟨by omega, L.all_take h hi.2 (by simpa using hb)⟩, by omega⟩⟩
    have hb : U.okE (nth l i) = false := by simpa using hb
    congr 1
    unfold U.isB
    rw [L.all_false h hb, Bool.and_false]
  · have h : l.length ≤ i := by simpa using h
    congr 1
    unfold U.isB
    rw [L.all_of_take h hi.2, Bool.and_true, Bool.eq_iff_iff]
    simp only [decide_eq_true_eq]
    show (l.length : Int) ≤ 40 ↔ l.length ≤ 40
    omega
theorem ok48 : FnOK PR 48 sp48 := mkFn (vc48_eq.mpr h48) Tryz.func48 (by kernel_rfl) (by kernel_rfl) (by kernel_rfl) (by kernel_rfl) ⟨fun _ => ok81, trivial⟩ trivial
theorem h95 : vc95 := by
  intro d h1 h2
  refine ⟨fun _ => h1, fun _ => h2, fun _ => canR_ok h1, fun _ => canR_ok h2, ?_⟩
  congr 1
  unfold U.alikeR U.id' U.sg U.rg U.ag U.fm
  rw [Bool.eq_iff_iff]
  simp only [Bool.and_eq_true, decide_eq_true_eq, and_assoc]
theorem ok95 : FnOK PR 95 sp95 := mkFn (vc95_eq.mpr h95) Tryz.func95 (by kernel_rfl) (by kernel_rfl) (by kernel_rfl) (by kernel_rfl) ⟨fun _ => ok78, fun _ => ok79, trivial⟩ trivial

theorem clashTo_succ (l : List ED) (n : Nat) : U.clashTo l (n + 1) = (U.clashTo l n || U.clashAt l n) := by
  unfold U.clashTo
  rw [List.range_succ, List.any_append]
  simp
theorem clashTo_mono {l : List ED} {n i : Nat} (h : i < n) (hc : U.clashAt l i = true) : U.clashTo l n = true := by
  unfold U.clashTo
  rw [List.any_eq_true]
  exact ⟨i, List.mem_range.2 h, hc⟩
theorem h57 : vc57 := by
  rintro ⟨l, ⟨⟩⟩ hok
  have hok : ∀ x, x ∈ l → U.okForm (U.fm x) = true := hok
  refine ⟨⟨0, ⟨⟨rfl, trivial⟩, trivial⟩, Nat.zero_le _, rfl⟩, fun i hi hl => ⟨fun h => ⟨⟨0, ⟨⟨rfl, trivial⟩, trivial⟩, Nat.zero_le _, by simp⟩, fun k hk => ⟨fun h2 => ?_, fun h2 => ?_⟩⟩, fun h => ?_⟩⟩
  · have h : i < l.length := by simpa using h
    obtain ⟨k1, k2⟩ := hk
    simp only [Int.toNat_natCast] at *
    have h2 : k < i := by simpa using h2
    have m1 := hok _ (L.mem_nth h)
    have m2 := hok _ (L.mem_nth (by omega : k < l.length))
    refine ⟨by omega, by omega, by omega, by omega, fun _ => by omega, fun _ => by omega, fun _ => by omega, fun _ => by omega, fun _ => m1, fun _ => m2, fun hc => ?_, fun hc => ⟨L.in64 (by omega) (by omega), k + 1, ⟨⟨by simp, trivial⟩, trivial⟩, ⟨h2, ?_⟩, by omega⟩⟩
    · have hc : U.clsh (nth l i) (nth l k) = true := hc
      congr 1
      unfold U.clash
      refine (clashTo_mono h ?_).symm
      unfold U.clashAt
      rw [List.any_eq_true]
      refine ⟨nth l k, ?_, hc⟩
      have : nth (l.take i) k ∈ l.take i := L.mem_nth (by rw [List.length_take]; omega)
      have e : nth (l.take i) k = nth l k := by
        unfold nth
        rw [List.getD_eq_getElem?_getD, List.getD_eq_getElem?_getD, List.getElem?_take_of_lt h2]
      rw [← e]; exact this
    · have hc : U.clsh (nth l i) (nth l k) = false := hc
      rw [L.take_succ (by omega : k < l.length), List.any_append, k2]
      simp [hc]
  · have h : i < l.length := by simpa using h
    obtain ⟨k1, k2⟩ := hk
    simp only [Int.toNat_natCast] at *
    have h2 : i ≤ k := by simpa using h2
    have e : k = i := by omega
    subst e
    refine ⟨L.in64 (by omega) (by omega), k + 1, ⟨⟨by simp, trivial⟩, trivial⟩, ⟨h, ?_⟩, by omega⟩
    rw [clashTo_succ, hi.2]
    exact k2
  · have h : l.length ≤ i := by simpa using h
    have hi1 : i ≤ l.length := hi.1
    have e : i = l.length := by omega
    subst e
    exact congrArg (·, ()) hi.2.symm
theorem ok57 : FnOK PR 57 sp57 := mkFn (vc57_eq.mpr h57) Tryz.func57 (by kernel_rfl) (by kernel_rfl) (by kernel_rfl) (by kernel_rfl) ⟨fun _ => ok95, trivial⟩ trivial

theorem isB_all {l : List ED} (h : U.isB l = true) : l.length ≤ 40 ∧ ∀ x, x ∈ l → U.okE x = true := by
  unfold U.isB at h
  simp only [Bool.and_eq_true, decide_eq_true_eq] at h
  exact ⟨h.1, List.all_eq_true.1 h.2⟩
theorem h28 : vc28 := by
  intro d
  unfold U.chk
  refine ⟨fun h => by rw [if_pos (by simpa using h)], fun h => ?_⟩
  have h : U.isB d.1 = true := by simpa using h
  refine ⟨fun x hx => okE_form ((isB_all h).2 x hx), fun h2 => ?_, fun h2 => ?_⟩
  · rw [if_neg (by rw [h]; simp), if_pos h2]
  · rw [if_neg (by rw [h]; simp), if_neg (by rw [h2]; simp)]
theorem ok28 : FnOK PR 28 sp28 := mkFn (vc28_eq.mpr h28) Tryz.func28 (by kernel_rfl) (by kernel_rfl) (by kernel_rfl) (by kernel_rfl) ⟨fun _ => ok48, fun _ => ok57, trivial⟩ trivial
theorem chk_zero {l : List ED} (h : U.chk l = 0) : U.isB l = true ∧ U.clash l = false := by
  unfold U.chk at h
  split at h
  · cases h
  · rename_i h1
    split at h
    · cases h
    · rename_i h2
      exact ⟨by simpa using h1, by simpa using h2⟩
theorem chk_form {l : List ED} (h : U.chk l = 0) : l.length ≤ 40 ∧ ∀ x, x ∈ l → U.okForm (U.fm x) = true := by
  obtain ⟨h1, h2⟩ := isB_all (chk_zero h).1
  exact ⟨h1, fun x hx => okE_form (h2 x hx)⟩

/-! ### distinct -/

theorem distTo_succ (l : List ED) (n : Nat) : U.distTo l (n + 1) = U.distTo l n ++ U.firstOf l n := by
  unfold U.distTo
  rw [List.range_succ, List.flatMap_append]
  simp
theorem firstOf_mem {l : List ED} {n : Nat} {y : ED} (h : y ∈ U.firstOf l n) : ∃ x, x ∈ l ∧ U.id' x = (n : Int) ∧ y = U.canRE x := by
  unfold U.firstOf at h
  split at h
  · rename_i x hx
    simp at h
    have h1 := List.find?_some hx
    exact ⟨x, List.mem_of_find?_eq_some hx, of_decide_eq_true h1, h⟩
  · simp at h
theorem firstOf_len (l : List ED) (n : Nat) : (U.firstOf l n).length ≤ 1 := by
  unfold U.firstOf
  split <;> simp
theorem distTo_len (l : List ED) : ∀ n, (U.distTo l n).length ≤ n
  | 0 => by simp [U.distTo]
  | n + 1 => by
    have h1 := distTo_len l n
    have h2 := firstOf_len l n
    rw [distTo_succ, List.length_append]; omega
theorem distTo_mem {l : List ED} {y : ED} : ∀ {n : Nat}, y ∈ U.distTo l n → ∃ k x, k < n ∧ x ∈ l ∧ U.id' x = (k : Int) ∧ y = U.canRE x
  | 0, h => by simp [U.distTo] at h
  | n + 1, h => by
    rw [distTo_succ] at h
    rcases List.mem_append.1 h with h | h
    · obtain ⟨k, x, h1, h2⟩ := distTo_mem h
      exact ⟨k, x, by omega, h2⟩
    · obtain ⟨x, h1, h2, h3⟩ := firstOf_mem h
      exact ⟨n, x, by omega, h1, h2, h3⟩
theorem distTo_asc (l : List ED) : ∀ n, ((U.distTo l n).map U.id').Pairwise (· < ·)
  | 0 => by simp [U.distTo]
  | n + 1 => by
    rw [distTo_succ, List.map_append, List.pairwise_append]
    refine ⟨distTo_asc l n, ?_, fun a ha b hb => ?_⟩
    · have := firstOf_len l n
      match e : U.firstOf l n, this with
      | [], _ => simp
      | [x], _ => simp
      | x :: y :: r, h => simp at h
    · obtain ⟨y, hy, rfl⟩ := List.mem_map.1 ha
      obtain ⟨z, hz, rfl⟩ := List.mem_map.1 hb
      obtain ⟨k, x, h1, h2, h3, rfl⟩ := distTo_mem hy
      obtain ⟨w, h4, h5, rfl⟩ := firstOf_mem hz
      show U.id' x < U.id' w
      omega
theorem dist_nodup (l : List ED) : ((U.dist l).map U.id').Nodup := (distTo_asc l 100).imp (fun h => by omega)
theorem dist_len (l : List ED) : (U.dist l).length ≤ 100 := distTo_len l 100
theorem dist_form {l : List ED} (h : ∀ x, x ∈ l → U.okForm (U.fm x) = true) : ∀ x, x ∈ U.dist l → U.okForm (U.fm x) = true := by
  intro y hy
  obtain ⟨k, x, h1, h2, h3, rfl⟩ := distTo_mem hy
  exact canR_ok (h x h2)
theorem find_first {α : Type} [Inhabited α] {p : α → Bool} : ∀ {l : List α} {i : Nat}, i < l.length → (∀ b : Nat, b < i → p (nth l b) = false) → p (nth l i) = true → l.find? p = some (nth l i)
  | [], i, h, _, _ => by simp at h
  | x :: r, 0, _, _, h => by
    have h : p x = true := h
    simp only [List.find?, h]; rfl
  | x :: r, i + 1, h, h1, h2 => by
    have h0 : p x = false := h1 0 (by omega)
    simp only [List.find?, h0]
    exact find_first (by simpa using h) (fun b hb => h1 (b + 1) (by omega)) h2
theorem find_none {α : Type} [Inhabited α] {p : α → Bool} {l : List α} (h : ∀ b : Nat, b < l.length → p (nth l b) = false) : l.find? p = none := by
  rw [List.find?_eq_none]
  intro x hx
  obtain ⟨i, hi, rfl⟩ := List.mem_iff_getElem.1 hx
  have := h i hi
  rw [L.nth_lt hi] at this
  simp [this]




theorem nodup_inj {α β : Type} {f : α → β} : ∀ {l : List α}, (l.map f).Nodup → ∀ {x y : α}, x ∈ l → y ∈ l → f x = f y → x = y
  | [], _, _, _, h, _, _ => by simp at h
  | a :: r, hn, x, y, hx, hy, e => by
    simp only [List.map_cons, List.nodup_cons] at hn
    rcases List.mem_cons.1 hx with rfl | hx'
    · rcases List.mem_cons.1 hy with rfl | hy'
      · rfl
      · exact absurd (List.mem_map.2 ⟨y, hy', e.symm⟩) hn.1
    · rcases List.mem_cons.1 hy with rfl | hy'
      · exact absurd (List.mem_map.2 ⟨x, hx', e⟩) hn.1
      · exact nodup_inj hn.2 hx' hy' e
theorem ordE_nodup {l : List ED} (h : (l.map U.id').Nodup) : OrdOn (U.lessF tE fun x => (U.cmpE x.1 x.2.1, ())) l :=
  ordOn_cmp cmpE_ok (fun _ _ hx hy h0 => nodup_inj h hx hy (cmpE_zero h0))
theorem srtE_min {d : List ED} {f : Nat} (hd : (d.map U.id').Nodup) (hf : f < d.length) (hmin : ∀ b : Nat, b < d.length → U.before (nth d b) (nth d f) = false) : U.srtE d = nth d f :: U.srtE (d.take f ++ d.drop (f + 1)) := by
  have hperm : (nth d f :: (d.take f ++ d.drop (f + 1))).Perm d := by
    have e : d = d.take f ++ nth d f :: d.drop (f + 1) := by rw [← drop_nth hf, List.take_append_drop]
    conv => rhs; rw [e]
    exact List.perm_middle.symm
  have ho := ordE_nodup hd
  have ho2 := (ho.perm hperm).sub (fun z hz => List.mem_cons_of_mem (nth d f) hz)
  refine (sortBy_eq ho ((List.Perm.cons _ (sortBy_perm _)).trans hperm) (List.pairwise_cons.2 ⟨fun z hz => ?_, sortBy_asc ho2⟩)).symm
  have hz : z ∈ d := hperm.mem_iff.1 (List.mem_cons_of_mem _ ((sortBy_perm _).mem_iff.1 hz))
  obtain ⟨b, hb, rfl⟩ := List.mem_iff_getElem.1 hz
  have := hmin b hb
  rw [L.nth_lt hb] at this
  exact this


end Go.X
/-
  Signs, the specification: Find, Ask, Twins, copies: what is asked.
-/
namespace Go.X
open Go.Proofs

namespace U
def has (s n : Int) : Bool := decide (0 ≤ n ∧ n < 60) && bit s n
def fits : List Int → List Int → Int → Bool
  | [], sets, _ => decide ((sets.length : Int) = 0)
  | m :: r, sets, lost => (decide (0 < (sets.length : Int)) && has (nth sets 0) m && fits r (sets.drop 1) lost) || (decide (0 < lost) && fits r sets (lost - 1))
def shownR (f : FmD) (s : SnD) : Bool := has (rights s) (rt f + 1) && has (lefts s) (lf f + 1) && has (faces s) (fc f) && within (co f) (lo (cols s)) (hi (cols s)) && within (rw' f) (lo (rows s)) (hi (rows s)) && fits (mv f) (mvs s) (lost s)
def agreesR (x : ED) (s : SnD) : Bool := decide (band (rg x) (rgs s) ≠ 0) && decide (max (lo (ag x)) (lo (ages s)) ≤ min (hi (ag x)) (hi (ages s))) && (shownR (fm x) s || shownR (mir (fm x)) s)
def hit (s : SnD) (n : Int) (x : ED) : Bool := decide (sg x = n) && agreesR x s
def findTo (l : List ED) (s : SnD) (n : Nat) : List Int := ((List.range n).filter (fun (k : Nat) => l.any (hit s (k : Int)))).map (fun (k : Nat) => (k : Int))
def findR (l : List ED) (s : SnD) : List Int := findTo l s 1000
def lookR (l : List ED) (s : SnD) : Int := if chk l ≠ 0 then chk l else if okS s = false then 13 else 0
def fndR (l : List ED) (s : SnD) : List Int × Int × Unit := if lookR l s ≠ 0 then ([], lookR l s, ()) else (findR l s, 0, ())
def ansAt (s : SnD) (p n : Int) : List SnD :=
  if p = 0 then (if has (rights s) n = true then [setRt s (2 ^ (max 0 n).toNat)] else [])
  else if p = 1 then (if has (lefts s) n = true then [setLf s (2 ^ (max 0 n).toNat)] else [])
  else if p = 2 then (if within n (max 0 (lo (rows s))) (min 5 (hi (rows s))) = true then [setRw s (n, n, ())] else [])
  else if p = 3 then (if within n (lo (cols s)) (min 3 (hi (cols s))) = true then [setCo s (n, n, ())] else [])
  else if p = 4 then (if has (faces s) n = true then [setFc s (2 ^ (max 0 n).toNat)] else []) else []
def ansTo (s : SnD) (p : Int) (k : Nat) : List SnD := (List.range k).flatMap (fun (i : Nat) => ansAt s p ((i : Int) - 3))
def answersR (s : SnD) (p : Int) : List SnD := ansTo s p 36
def numsR (l : List ED) (o : List SnD) : List Int := o.map (fun x => ((findR l x).length : Int))
def mostR (l : List ED) (s : SnD) (p : Int) : Int := topOf (numsR l (answersR s p))
def bestR (l : List ED) (s : SnD) : Nat → Int × Int
  | 0 => (-1, 0)
  | p + 1 => if (decide ((bestR l s p).1 < 0) || decide (mostR l s (p : Int) < (bestR l s p).2)) = true then ((p : Int), mostR l s (p : Int)) else bestR l s p
def askR (l : List ED) (s : SnD) : Int × Int × Int × Unit := if lookR l s ≠ 0 then (0, 0, lookR l s, ()) else if findR l s = [] then (0, 0, 3, ()) else ((bestR l s 5).1, (bestR l s 5).2, 0, ())
def twinR (a b : ED) : Bool := decide (order (canR (fm a)) (canR (fm b)) = 0) && decide (band (rg a) (rg b) ≠ 0) && decide (max (lo (ag a)) (lo (ag b)) ≤ min (hi (ag a)) (hi (ag b)))
def isSg (n : Int) (x : ED) : Bool := decide (sg x = n)
def signsTo (l : List ED) (n : Nat) : List Int := ((List.range n).filter (fun (k : Nat) => l.any (isSg (k : Int)))).map (fun (k : Nat) => (k : Int))
def signsR (l : List ED) : List Int := signsTo l 1000
def tw (a b : Int) (x y : ED) : Bool := decide (sg x = a) && decide (sg y = b) && twinR x y
def twRow (l : List ED) (a b : Int) (x : ED) : Bool := l.any (tw a b x)
def twTo (l : List ED) (a b : Int) (m : Nat) : Bool := (l.take m).any (twRow l a b)
def rowTo (l : List ED) (all : List Int) (i k : Nat) : List PaD := ((List.range k).filter (fun (j : Nat) => decide (i < j) && twTo l (nth all i) (nth all j) l.length)).map (fun (j : Nat) => (nth all i, nth all j, ()))
def rowsTo (l : List ED) (all : List Int) (i : Nat) : List PaD := (List.range i).flatMap (fun (j : Nat) => rowTo l all j all.length)
def twnR (l : List ED) : List PaD × Int × Unit := if chk l ≠ 0 then ([], chk l, ()) else (rowsTo l (signsR l) (signsR l).length, 0, ())
end U





def sp24 : Spec := ⟨[.val tSn], [.bool], false, fun _ => [], fun d => (U.okS d.1, ())⟩
def an24 : Ann := fun r => match r with
  | 2 => some fun σ => { X := Nat, sl := fun i => [(3, .dat .int (i : Int))], ob := fun _ => [], inv := fun i => i ≤ (U.mvs (gd tSn σ 0)).length ∧ ((U.mvs (gd tSn σ 0)).take i).all U.okSet = true, mu := fun i => (U.mvs (gd tSn σ 0)).length - i }
  | _ => none
def vc24 : Prop :=
  ∀ (d : SnD × Unit),
  (∃ (x : Nat), (((0 : Int) = (x : Int) ∧ True) ∧ True) ∧ x ≤ (U.mvs d.1).length ∧ (List.take x (U.mvs d.1)).all U.okSet = true) ∧
  ∀ (x : Nat),
  x ≤ (U.mvs d.1).length ∧ (List.take x (U.mvs d.1)).all U.okSet = true →
  d.1.2.2.2.2.2.2.2.2.1.length < 4611686018427387904 →
  (decide ((x : Int) < (d.1.2.2.2.2.2.2.2.2.1.length : Int)) = true →
  0 ≤ (x : Int) ∧
  (x : Int) < (d.1.2.2.2.2.2.2.2.2.1.length : Int) ∧
  ((!U.within (nth d.1.2.2.2.2.2.2.2.2.1 (x : Int).toNat) (1 : Int) (255 : Int)) = true → (false, ()) = (U.okS d.1, ())) ∧
  ((!U.within (nth d.1.2.2.2.2.2.2.2.2.1 (x : Int).toNat) (1 : Int) (255 : Int)) = false →
  In64 ((x : Int) + 1) ∧
  ∃ (x' : Nat), (((x : Int) + 1 = (x' : Int) ∧ True) ∧ True) ∧ (x' ≤ (U.mvs d.1).length ∧ (List.take x' (U.mvs d.1)).all U.okSet = true) ∧ (U.mvs d.1).length - x' < (U.mvs d.1).length - x)) ∧
  (decide ((x : Int) < (d.1.2.2.2.2.2.2.2.2.1.length : Int)) = false →
  ((U.within d.1.1 (1 : Int) (8589934591 : Int) && U.within d.1.2.1 (1 : Int) (8589934591 : Int) && U.within d.1.2.2.1 (1 : Int) (255 : Int) && U.within d.1.2.2.2.1 (1 : Int) (255 : Int) &&
  decide (d.1.2.2.2.2.2.1.1 ≤ d.1.2.2.2.2.2.1.2.1) &&
  decide (d.1.2.2.2.2.2.2.1.1 ≤ d.1.2.2.2.2.2.2.1.2.1) &&
  decide (d.1.2.2.2.2.2.2.2.1.1 ≤ d.1.2.2.2.2.2.2.2.1.2.1)) =
  true →
  d.1.2.2.2.2.2.2.2.2.1.length < 4611686018427387904) →
  (U.within d.1.1 (1 : Int) (8589934591 : Int) && U.within d.1.2.1 (1 : Int) (8589934591 : Int) && U.within d.1.2.2.1 (1 : Int) (255 : Int) && U.within d.1.2.2.2.1 (1 : Int) (255 : Int) &&
  decide (d.1.2.2.2.2.2.1.1 ≤ d.1.2.2.2.2.2.1.2.1) &&
  decide (d.1.2.2.2.2.2.2.1.1 ≤ d.1.2.2.2.2.2.2.1.2.1) &&
  decide (d.1.2.2.2.2.2.2.2.1.1 ≤ d.1.2.2.2.2.2.2.2.1.2.1) &&
  decide ((d.1.2.2.2.2.2.2.2.2.1.length : Int) ≤ (6 : Int)) &&
  U.within d.1.2.2.2.2.1 (0 : Int) (6 : Int),
  ()) =
  (U.okS d.1, ()))

theorem vc24_eq : fnVC (ctx 77 [(55, sp55)] []) (an24) Tryz.f24 (bodyOf Tryz.f24) sp24 = vc24 := by kernel_rfl


























end Go.X
/-
  Signs, the specification: Find, Ask, Twins, copies.
-/
namespace Go.X
open Go.Proofs


theorem fits_cons {l sets : List Int} {lost : Int} (h : l ≠ []) : U.fits l sets lost = ((decide (0 < (sets.length : Int)) && U.has (nth sets 0) (nth l 0) && U.fits (l.drop 1) (sets.drop 1) lost) || (decide (0 < lost) && U.fits (l.drop 1) sets (lost - 1))) := by
  cases l with
  | nil => exact absurd rfl h
  | cons m r => rfl

theorem any_take {α : Type} [Inhabited α] {l : List α} {p : α → Bool} {i : Nat} (h : i < l.length) : (l.take (i + 1)).any p = ((l.take i).any p || p (nth l i)) := by
  rw [L.take_succ h, List.any_append]; simp

theorem h24 : vc24 := by
  intro d
  have em : d.fst.snd.snd.snd.snd.snd.snd.snd.snd.fst = U.mvs d.1 := rfl
  rw [em]
  refine ⟨⟨0, ⟨⟨rfl, trivial⟩, trivial⟩, Nat.zero_le _, by simp⟩, fun i hi hl => ⟨fun h => ?_, fun h _ => ?_⟩⟩
  · have h : i < (U.mvs d.1).length := by simpa using h
    simp only [Int.toNat_natCast]
    refine ⟨by omega, by omega, fun hb => ?_, fun hb => ⟨L.in64 (by omega) (by omega), i + 1, ⟨⟨by simp, trivial⟩, trivial⟩, ⟨by omega, L.all_take h hi.2 ?_⟩, by omega⟩⟩
    · have hb : U.okSet (nth (U.mvs d.1) i) = false := by
        have hb : (!U.okSet (nth (U.mvs d.1) i)) = true := hb
        simpa using hb
      congr 1
      unfold U.okS
      rw [L.all_false h hb, Bool.and_false]
    · have hb : (!U.okSet (nth (U.mvs d.1) i)) = false := hb
      simpa using hb
  · have h : (U.mvs d.1).length ≤ i := by simpa using h
    congr 1
    unfold U.okS
    rw [L.all_of_take h hi.2, Bool.and_true]
    unfold U.within U.rights U.lefts U.faces U.rgs U.lost U.cols U.rows U.ages U.lo U.hi
    rw [Bool.eq_iff_iff]
    simp only [Bool.and_eq_true, decide_eq_true_eq]
    constructor
    · rintro ⟨⟨⟨⟨⟨⟨⟨⟨h1, h2⟩, h3⟩, h4⟩, h5⟩, h6⟩, h7⟩, h8⟩, h9⟩
      exact ⟨h1.1, h1.2, h2.1, h2.2, h3.1, h3.2, h4.1, h4.2, h5, h6, h7, by omega, h9.1, h9.2⟩
    · rintro ⟨h1, h1', h2, h2', h3, h3', h4, h4', h5, h6, h7, h8, h9, h9'⟩
      exact ⟨⟨⟨⟨⟨⟨⟨⟨⟨h1, h1'⟩, h2, h2'⟩, h3, h3'⟩, h4, h4'⟩, h5⟩, h6⟩, h7⟩, by omega⟩, h9, h9'⟩
theorem ok24 : FnOK PR 24 sp24 := mkFn (vc24_eq.mpr h24) Tryz.func24 (by kernel_rfl) (by kernel_rfl) (by kernel_rfl) (by kernel_rfl) ⟨fun _ => ok55, trivial⟩ trivial



theorem findTo_succ (l : List ED) (s : SnD) (n : Nat) : U.findTo l s (n + 1) = U.findTo l s n ++ (if l.any (U.hit s (n : Int)) = true then [(n : Int)] else []) := by
  unfold U.findTo
  rw [List.range_succ, List.filter_append, List.map_append]
  congr 1
  cases h : l.any (U.hit s (n : Int)) <;> simp [List.filter, h]
theorem findTo_len (l : List ED) (s : SnD) : ∀ n, (U.findTo l s n).length ≤ n
  | 0 => by simp [U.findTo]
  | n + 1 => by
    have := findTo_len l s n
    rw [findTo_succ, List.length_append]
    split <;> simp <;> omega

theorem lookR_zero {l : List ED} {s : SnD} (h : U.lookR l s = 0) : U.chk l = 0 ∧ U.okS s = true := by
  unfold U.lookR at h
  split at h
  · rename_i h2; exact absurd h h2
  · rename_i h2
    split at h
    · cases h
    · rename_i h3
      exact ⟨Classical.not_not.1 h2, by simpa using h3⟩
theorem okS_lost {s : SnD} (h : U.okS s = true) : U.lost s ≤ 1000 := by
  unfold U.okS at h
  simp only [Bool.and_eq_true, decide_eq_true_eq] at h
  omega

theorem ansTo_succ (s : SnD) (p : Int) (k : Nat) : U.ansTo s p (k + 1) = U.ansTo s p k ++ U.ansAt s p ((k : Int) - 3) := by
  unfold U.ansTo
  rw [List.range_succ, List.flatMap_append]; simp
theorem ansAt_len (s : SnD) (p n : Int) : (U.ansAt s p n).length ≤ 1 := by
  unfold U.ansAt
  repeat' split
  all_goals simp
theorem ansTo_len (s : SnD) (p : Int) : ∀ k, (U.ansTo s p k).length ≤ k
  | 0 => by simp [U.ansTo]
  | k + 1 => by
    have h1 := ansTo_len s p k
    have h2 := ansAt_len s p ((k : Int) - 3)
    rw [ansTo_succ, List.length_append]; omega

theorem two_pow {k : Nat} (hk : k ≤ 35) : (0 : Int) ≤ max 0 ((k : Int) - 3) ∧ max 0 ((k : Int) - 3) ≤ 64 ∧ In64 (1 * 2 ^ (max (0 : Int) ((k : Int) - 3)).toNat) ∧ (1 : Int) * 2 ^ (max (0 : Int) ((k : Int) - 3)).toNat = 2 ^ (max (0 : Int) ((k : Int) - 3)).toNat := by
  have h1 : (max (0 : Int) ((k : Int) - 3)).toNat ≤ 32 := by omega
  generalize (max (0 : Int) ((k : Int) - 3)).toNat = e at *
  have h2 : (2 : Nat) ^ e ≤ 2 ^ 32 := Nat.pow_le_pow_right (by decide) h1
  have h3 : ((2 : Int) ^ e) = ((2 ^ e : Nat) : Int) := by simp
  refine ⟨by omega, by omega, ?_, by rw [Int.one_mul]⟩
  rw [Int.one_mul, h3]
  generalize (2 : Nat) ^ e = m at h2
  unfold In64
  omega

theorem ans_block {s : SnD} {p : Int} {x : Nat} (hx : x ≤ 35) {c : Bool} {y : SnD} (h1 : c = true → U.ansAt s p ((x : Int) - 3) = [y]) (h0 : c = false → U.ansAt s p ((x : Int) - 3) = []) :
    (c = true → ((U.ansTo s p x).length + [y].length) * 112 ≤ 140737488355328 ∧ In64 ((x : Int) - 3 + 1) ∧ ∃ x' : Nat, (((x : Int) - 3 + 1 = (x' : Int) - 3 ∧ True ∧ True) ∧ U.ansTo s p x ++ [y] = U.ansTo s p x' ∧ True) ∧ x' ≤ 36 ∧ 36 - x' < 36 - x) ∧
    (c = false → In64 ((x : Int) - 3 + 1) ∧ ∃ x' : Nat, ((True ∧ (x : Int) - 3 + 1 = (x' : Int) - 3 ∧ True) ∧ U.ansTo s p x = U.ansTo s p x' ∧ True) ∧ x' ≤ 36 ∧ 36 - x' < 36 - x) := by
  have hlen := ansTo_len s p x
  refine ⟨fun hc => ⟨?_, by unfold In64; omega, x + 1, ⟨⟨by omega, trivial, trivial⟩, ?_, trivial⟩, by omega, by omega⟩, fun hc => ⟨by unfold In64; omega, x + 1, ⟨⟨trivial, by omega, trivial⟩, ?_, trivial⟩, by omega, by omega⟩⟩
  · simp only [List.length_cons, List.length_nil]; omega
  · rw [ansTo_succ, h1 hc]
  · rw [ansTo_succ, h0 hc, List.append_nil]


theorem ansAt_lost {s : SnD} {p n : Int} {o : SnD} (h : o ∈ U.ansAt s p n) : U.lost o = U.lost s := by
  unfold U.ansAt at h
  repeat' split at h
  all_goals first
    | (simp at h; done)
    | (simp at h; subst h; rfl)
theorem answersR_lost {s : SnD} {p : Int} {o : SnD} (h : o ∈ U.answersR s p) : U.lost o = U.lost s := by
  unfold U.answersR U.ansTo at h
  obtain ⟨i, _, hi⟩ := List.mem_flatMap.1 h
  exact ansAt_lost hi
theorem numsR_snoc (l : List ED) (o : List SnD) (x : SnD) : U.numsR l (o ++ [x]) = U.numsR l o ++ [((U.findR l x).length : Int)] := by unfold U.numsR; simp
theorem topOf_snoc (l : List Int) (n : Int) : U.topOf (l ++ [n]) = max (U.topOf l) n := by unfold U.topOf; rw [List.foldl_append]; rfl

instance : Inhabited SnD := ⟨(0, 0, 0, 0, 0, (0, 0, ()), (0, 0, ()), (0, 0, ()), [], ())⟩


theorem signsTo_succ (l : List ED) (n : Nat) : U.signsTo l (n + 1) = U.signsTo l n ++ (if l.any (U.isSg (n : Int)) = true then [(n : Int)] else []) := by
  unfold U.signsTo
  rw [List.range_succ, List.filter_append, List.map_append]
  congr 1
  cases h : l.any (U.isSg (n : Int)) <;> simp [List.filter, h]
theorem signsTo_len (l : List ED) : ∀ n, (U.signsTo l n).length ≤ n
  | 0 => by simp [U.signsTo]
  | n + 1 => by
    have := signsTo_len l n
    rw [signsTo_succ, List.length_append]
    split <;> simp <;> omega

theorem twTo_succ {l : List ED} {a b : Int} {m : Nat} (h : m < l.length) : U.twTo l a b (m + 1) = (U.twTo l a b m || U.twRow l a b (nth l m)) := by
  unfold U.twTo; exact any_take h
theorem rowTo_succ (l : List ED) (all : List Int) (i k : Nat) : U.rowTo l all i (k + 1) = U.rowTo l all i k ++ (if (decide (i < k) && U.twTo l (nth all i) (nth all k) l.length) = true then [(nth all i, nth all k, ())] else []) := by
  unfold U.rowTo
  rw [List.range_succ, List.filter_append, List.map_append]
  congr 1
  cases h : (decide (i < k) && U.twTo l (nth all i) (nth all k) l.length) <;> simp [List.filter, h]
theorem rowTo_len (l : List ED) (all : List Int) (i : Nat) : ∀ k, (U.rowTo l all i k).length ≤ k
  | 0 => by simp [U.rowTo]
  | k + 1 => by
    have := rowTo_len l all i k
    rw [rowTo_succ, List.length_append]
    split <;> simp <;> omega
theorem rowTo_nil (l : List ED) (all : List Int) (i : Nat) : ∀ k, k ≤ i + 1 → U.rowTo l all i k = []
  | 0, _ => rfl
  | k + 1, h => by
    rw [rowTo_succ, rowTo_nil l all i k (by omega), if_neg (by simp; omega)]; rfl
theorem rowsTo_succ (l : List ED) (all : List Int) (i : Nat) : U.rowsTo l all (i + 1) = U.rowsTo l all i ++ U.rowTo l all i all.length := by
  unfold U.rowsTo
  rw [List.range_succ, List.flatMap_append]; simp
theorem rowsTo_len (l : List ED) (all : List Int) : ∀ i, (U.rowsTo l all i).length ≤ i * all.length
  | 0 => by simp [U.rowsTo]
  | i + 1 => by
    have h1 := rowsTo_len l all i
    have h2 := rowTo_len l all i all.length
    rw [rowsTo_succ, List.length_append, Nat.succ_mul]; omega



end Go.X
