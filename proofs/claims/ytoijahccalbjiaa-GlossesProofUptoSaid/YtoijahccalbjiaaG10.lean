/-
  The statements 'GlossesProof' and 'GlossesWhy': what the functions compute that they reach.
-/
import Derived.Test.YtoijahccalbjiaaG9
import Derived.Test.YtoijahccalbjiaaG4
namespace Go.X
open Go.Proofs

/-- what is asked of a body, kept closed -/
@[irreducible] def vcgI (C : Ctx) (A : Ann) (c : Code) (σ : St) (K : Ex → St → Prop) : Prop := vcg C A c σ K
theorem vcgI_out {C : Ctx} {A : Ann} {c : Code} {σ : St} {K : Ex → St → Prop} (h : vcgI C A c σ K) : vcg C A c σ K := by unfold vcgI at h; exact h

abbrev tL : Ty := .slice tG
abbrev LG : Type := List GD

/-- the meaning of a function value that takes glosses and may change a variable that holds glosses -/
structure FE where
  pre : LG × Unit → List Prop
  K : LG × Unit → LG → (Bool × Unit) × LG

namespace U
def consK (g : GD) (K : LG × Unit → LG → (Bool × Unit) × LG) : LG × Unit → LG → (Bool × Unit) × LG := fun x s => K (g :: x.1, ()) s
def consP (g : GD) (pre : LG × Unit → List Prop) : LG × Unit → List Prop := fun x => [x.1.length ≤ 1000, allP (pre (g :: x.1, ()))]
def chooseK : LG → (LG × Unit → LG → (Bool × Unit) × LG) → Nat → LG → (Bool × Unit) × LG
  | _, K, 0, s => K ([], ()) s
  | [], _, _ + 1, s => ((true, ()), s)
  | g :: r, K, m + 1, s => match chooseK r (consK g K) m s with
    | ((true, _), s') => chooseK r K (m + 1) s'
    | ((false, _), s') => ((false, ()), s')
def subP (pre : LG × Unit → List Prop) (l : LG) : Prop := ∀ c : LG, c.Sublist l → allP (pre (c, ()))
def pre55 (f : FD × Unit) : LG × Unit → List Prop := fun x => [1 ≤ f.1.2.1 ∧ f.1.2.1 ≤ 10, smallest f.1.2.1 x.1 ≠ [], 0 ≤ nth (smallest f.1.2.1 x.1) 0 ∧ nth (smallest f.1.2.1 x.1) 0 < 1024]
def K55 (f : FD × Unit) (n : Int) : LG × Unit → LG → (Bool × Unit) × LG := fun x s => if least f.1.2.1 x.1 < n then ((true, ()), s) else ((false, ()), x.1)
def whyFrom (f : FD × Unit) (n : Int) (l : LG) : Nat → Nat → LG → LG
  | 0, _, s => s
  | k + 1, m, s => match chooseK l (K55 f n) m s with
    | ((true, _), s') => whyFrom f n l k (m + 1) s'
    | ((false, _), s') => s'
def whyG (f : FD × Unit) (l : LG) : LG := whyFrom f (least f.1.2.1 l) l (l.length + 1) 0 []
def whyP (f : FD) (l : LG) (film frame : Int) : LG := if frmErr f l film frame = 0 then whyG (f, ()) ((heldG l).filter (inFrame film frame)) else []
def chosenTo (l : LG) (set : Int) (i : Nat) : LG := ((List.range i).filter (fun k => decide (band (set / 2 ^ k) 1 = 1))).map (fun k => nth l k)
def chosen (l : LG) (set : Int) : LG := chosenTo l set l.length
def earlier (a b : Int) : Bool := if a = b then false else decide (band a (band (bxor a b) (-(bxor a b))) ≠ 0)
def stepB (s : Int) (l : LG) (n : Int) (b : Int) (k : Nat) : Int :=
  if least s (chosen l k) < n then b
  else if b < 0 ∨ (chosen l k).length < (chosen l b).length ∨ ((chosen l k).length = (chosen l b).length ∧ earlier k b = true) then (k : Int) else b
def bestTo (s : Int) (l : LG) (n : Int) (i : Nat) : Int := (List.range i).foldl (stepB s l n) (-1)
def whyR (s : Int) (l : LG) : LG := chosen l (bestTo s l (least s l) (2 ^ l.length))
def whyRP (f : FD) (l : LG) (film frame : Int) : LG := if frameErr f l film frame = 0 then whyR f.2.1 (at' l film frame) else []
def sameL : LG → LG → Bool
  | [], [] => true
  | a :: x, b :: y => decide (a = b) && sameL x y
  | _, _ => false
def hasG (l : LG) (g : GD) : Bool := l.any (fun o => decide (o = g))
/-- a list without what lies at a place -/
def drop1 (l : LG) (i : Nat) : LG := l.take i ++ l.drop (i + 1)
end U

/-- such a function value, where its types are these -/
def castE (st : Ty) (ps rs : List Ty) (pre : (Ty.st ps).Data → List Prop) (K : (Ty.st ps).Data → st.Data → (Ty.st rs).Data × st.Data) : Option FE :=
  if h1 : st = tL then if h2 : ps = [tL] then if h3 : rs = [.bool] then some ⟨by subst h2; exact pre, by subst h1; subst h2; subst h3; exact K⟩ else none else none else none

def feAt (σ : St) (b : Nat) : Option (Nat × FE) := match σ.obj b with
  | some (.box _ _ [.fe false o T st ps rs pre K]) => match Nat.beq T 25, castE st ps rs pre K with
    | true, some y => some (o, y)
    | _, _ => none
  | _ => none
/-- the variable's contents -/
def varAt (σ : St) (o : Nat) : Option LG := match σ.obj o with
  | some (.box T false [c]) => match Nat.beq T 25, toDat σ tL c with
    | true, some (s, []) => some s
    | _, _ => none
  | _ => none

/-- 'choose', called by itself -/
def rec54 (N : Nat) (σ : St) : List SV → Option Out
  | [a, b, .clo f [.bp o5 0, p8]] => match Nat.beq f 76, toDat σ tL a, asInt b, feAt σ o5, toRef σ tG p8 with
    | true, some (l, fz), some m, some (o, y), some (g, f8) => match memb (o5 :: (f8 ++ fz)) o, varAt σ o with
      | false, some s => some ⟨[0 ≤ m, m ≤ 1000, m.toNat < N, l.length ≤ 1000, U.subP (U.consP g y.pre) l], [], resSV [.bool] (U.chooseK l (U.consK g y.K) m.toNat s).1, o5 :: (f8 ++ fz),
          [(o, some (.box 25 false [.dat tL (U.chooseK l (U.consK g y.K) m.toNat s).2]))], []⟩
      | _, _ => none
    | _, _, _, _, _ => none
  | _ => none
/-- 'choose', called by 'Why' -/
def call54 (σ : St) : List SV → Option Out
  | [a, b, .clo f [p1, p2, .bp o 0]] => match Nat.beq f 55, toDat σ tL a, asInt b, toRef σ tFs p1, toRef σ .int p2 with
    | true, some (l, fz), some m, some (x, f1), some (n, f2) => match memb (f1 ++ (f2 ++ fz)) o, varAt σ o with
      | false, some s => some ⟨[0 ≤ m, m ≤ 1000, l.length ≤ 1000, U.subP (U.pre55 x) l], [], resSV [.bool] (U.chooseK l (U.K55 x n) m.toNat s).1, f1 ++ (f2 ++ fz),
          [(o, some (.box 25 false [.dat tL (U.chooseK l (U.K55 x n) m.toNat s).2]))], []⟩
      | _, _ => none
    | _, _, _, _, _ => none
  | _ => none

def ctxE (n : Nat) (fs : List (Nat × Spec)) (e : St → List SV → Option Out) : Ctx := ⟨n, ti, fs, fun f _ σ svs => match Nat.beq f 54 with | true => e σ svs | false => none, strs⟩

end Go.X
/-
  The fewest glosses with which no set with fewer signs agrees: both searches find the same ones, and none of them can be spared.
-/
namespace Go.X
open Go.Proofs

namespace M

/-! ### Choices as numbers -/

/-- the glosses at the positions of a set -/
def pick : LG → Nat → LG
  | [], _ => []
  | g :: r, k => if k % 2 = 1 then g :: pick r (k / 2) else pick r (k / 2)

theorem pick_range : ∀ (l : LG) (k : Nat), ((List.range l.length).filter (fun j => decide ((k / 2 ^ j) % 2 = 1))).map (fun j => nth l j) = pick l k
  | [], _ => rfl
  | g :: r, k => by
    have ih := pick_range r (k / 2)
    have e : ((List.range r.length).map Nat.succ).filter (fun j => decide ((k / 2 ^ j) % 2 = 1)) = ((List.range r.length).filter (fun j => decide ((k / 2 / 2 ^ j) % 2 = 1))).map Nat.succ := by
      rw [List.filter_map]
      congr 1
      apply List.filter_congr
      intro j _
      simp only [Function.comp]
      rw [Nat.div_div_eq_div_mul, show 2 ^ Nat.succ j = 2 * 2 ^ j from by rw [Nat.pow_succ, Nat.mul_comm]]
    have e2 : ((List.range r.length).filter (fun j => decide ((k / 2 / 2 ^ j) % 2 = 1))).map ((fun j => nth (g :: r) j) ∘ Nat.succ) = ((List.range r.length).filter (fun j => decide ((k / 2 / 2 ^ j) % 2 = 1))).map (fun j => nth r j) := rfl
    rw [List.length_cons, List.range_succ_eq_map, List.filter_cons, e]
    simp only [Nat.pow_zero, Nat.div_one]
    unfold pick
    by_cases h : k % 2 = 1
    · simp only [h, decide_true, if_true, List.map_cons, List.map_map]
      rw [e2, ih]; rfl
    · simp only [h, decide_false, if_false]
      rw [← ih, ← e2, ← List.map_map]; rfl

theorem band_one {n : Nat} (h : n < 2 ^ 63) : band (n : Int) 1 = ((n % 2 : Nat) : Int) := by
  have := band_nat h (b := 1) (by omega)
  rw [Nat.and_one_is_mod] at this
  exact this

theorem chosen_eq {l : LG} {k : Nat} (h : k < 2 ^ 60) : U.chosen l (k : Int) = pick l k := by
  unfold U.chosen U.chosenTo
  rw [← pick_range]
  congr 1
  apply List.filter_congr
  intro j _
  have e : (k : Int) / 2 ^ j = ((k / 2 ^ j : Nat) : Int) := by simp
  have := Nat.div_le_self k (2 ^ j)
  rw [e, band_one (by omega)]
  apply decide_eq_decide.2
  omega

theorem pick_zero : ∀ l : LG, pick l 0 = []
  | [] => rfl
  | _ :: r => pick_zero r

theorem pick_odd (g : GD) (r : LG) (k : Nat) : pick (g :: r) (2 * k + 1) = g :: pick r k := by
  rw [show pick (g :: r) (2 * k + 1) = if (2 * k + 1) % 2 = 1 then g :: pick r ((2 * k + 1) / 2) else pick r ((2 * k + 1) / 2) from rfl, show (2 * k + 1) % 2 = 1 from by omega, show (2 * k + 1) / 2 = k from by omega]; rfl

theorem pick_even (g : GD) (r : LG) (k : Nat) : pick (g :: r) (2 * k) = pick r k := by
  rw [show pick (g :: r) (2 * k) = if 2 * k % 2 = 1 then g :: pick r (2 * k / 2) else pick r (2 * k / 2) from rfl, show 2 * k % 2 = 0 from by omega, show 2 * k / 2 = k from by omega]; rfl

/-- all sets of so many of the first positions, in their order -/
def masks : Nat → Nat → List Nat
  | _, 0 => [0]
  | 0, _ + 1 => []
  | n + 1, m + 1 => (masks n m).map (fun k => 2 * k + 1) ++ (masks n (m + 1)).map (fun k => 2 * k)

theorem masks_zero (n : Nat) : masks n 0 = [0] := by cases n <;> rfl

theorem masks_lt : ∀ (n m k : Nat), k ∈ masks n m → k < 2 ^ n
  | n, 0, k, h => by
    rw [masks_zero] at h
    simp at h
    have := Nat.two_pow_pos n
    omega
  | 0, _ + 1, k, h => by simp [masks] at h
  | n + 1, m + 1, k, h => by
    rw [show masks (n + 1) (m + 1) = (masks n m).map (fun k => 2 * k + 1) ++ (masks n (m + 1)).map (fun k => 2 * k) from rfl, List.mem_append, List.mem_map, List.mem_map] at h
    have := Nat.pow_succ (n := 2) (m := n)
    rcases h with ⟨j, hj, rfl⟩ | ⟨j, hj, rfl⟩
    · have := masks_lt n m j hj; omega
    · have := masks_lt n (m + 1) j hj; omega

theorem masks_len : ∀ (l : LG) (m k : Nat), k ∈ masks l.length m → (pick l k).length = m
  | l, 0, k, h => by
    rw [masks_zero] at h
    simp at h; subst h
    rw [pick_zero]; rfl
  | [], _ + 1, k, h => by simp [masks] at h
  | g :: r, m + 1, k, h => by
    rw [show masks (g :: r).length (m + 1) = (masks r.length m).map (fun k => 2 * k + 1) ++ (masks r.length (m + 1)).map (fun k => 2 * k) from rfl, List.mem_append, List.mem_map, List.mem_map] at h
    rcases h with ⟨j, hj, rfl⟩ | ⟨j, hj, rfl⟩
    · rw [pick_odd, List.length_cons, masks_len r m j hj]
    · rw [pick_even, masks_len r (m + 1) j hj]

theorem masks_all : ∀ (l : LG) (k : Nat), k < 2 ^ l.length → k ∈ masks l.length (pick l k).length
  | [], k, h => by
    have : k = 0 := by simp at h; omega
    subst this; simp [pick, masks]
  | g :: r, k, h => by
    have hp := Nat.pow_succ (n := 2) (m := r.length)
    rw [List.length_cons] at h
    have ih := masks_all r (k / 2) (by omega)
    by_cases c : k % 2 = 1
    · have e : k = 2 * (k / 2) + 1 := by omega
      rw [e, pick_odd, List.length_cons, List.length_cons, show masks (r.length + 1) ((pick r (k / 2)).length + 1) = (masks r.length (pick r (k / 2)).length).map (fun k => 2 * k + 1) ++ (masks r.length ((pick r (k / 2)).length + 1)).map (fun k => 2 * k) from rfl]
      exact List.mem_append_left _ (List.mem_map.2 ⟨_, ih, rfl⟩)
    · have e : k = 2 * (k / 2) := by omega
      rw [e, pick_even, List.length_cons]
      cases hq : (pick r (k / 2)).length with
      | zero =>
        rw [hq, masks_zero] at ih
        simp at ih
        have : k / 2 = 0 := by omega
        rw [this]; simp [masks]
      | succ q =>
        rw [hq] at ih
        rw [show masks (r.length + 1) (q + 1) = (masks r.length q).map (fun k => 2 * k + 1) ++ (masks r.length (q + 1)).map (fun k => 2 * k) from rfl]
        exact List.mem_append_right _ (List.mem_map.2 ⟨_, ih, rfl⟩)

/-! ### Their order -/

/-- at the first position that just one of two sets has, the first one has it -/
def before : Nat → Nat → Nat → Bool
  | 0, _, _ => false
  | n + 1, a, b => if a % 2 = b % 2 then before n (a / 2) (b / 2) else decide (a % 2 = 1)

theorem before_not : ∀ {n a b : Nat}, before n a b = true → before n b a = false
  | 0, _, _, h => by cases h
  | n + 1, a, b, h => by
    unfold before at h ⊢
    by_cases c : a % 2 = b % 2
    · rw [if_pos c] at h; rw [if_pos c.symm]; exact before_not h
    · rw [if_neg c] at h; rw [if_neg (fun e => c e.symm)]
      simp at h ⊢; omega

theorem before_trans : ∀ {n a b c : Nat}, before n a b = true → before n b c = true → before n a c = true
  | 0, _, _, _, h, _ => by cases h
  | n + 1, a, b, c, h1, h2 => by
    unfold before at h1 h2 ⊢
    by_cases c1 : a % 2 = b % 2 <;> by_cases c2 : b % 2 = c % 2
    · rw [if_pos c1] at h1; rw [if_pos c2] at h2; rw [if_pos (c1.trans c2)]; exact before_trans h1 h2
    · rw [if_neg c2] at h2; simp at h2
      rw [if_neg (by omega)]; simp; omega
    · rw [if_neg c1] at h1; simp at h1
      rw [if_neg (by omega)]; simp; omega
    · rw [if_neg c1] at h1; rw [if_neg c2] at h2; simp at h1 h2; omega

theorem before_total : ∀ {n a b : Nat}, a < 2 ^ n → b < 2 ^ n → a ≠ b → before n a b = true ∨ before n b a = true
  | 0, a, b, h1, h2, h => by simp at h1 h2; omega
  | n + 1, a, b, h1, h2, h => by
    have hp := Nat.pow_succ (n := 2) (m := n)
    unfold before
    by_cases c : a % 2 = b % 2
    · rw [if_pos c, if_pos c.symm]; exact before_total (by omega) (by omega) (by omega)
    · rw [if_neg c, if_neg (fun e => c e.symm)]; simp; omega

theorem masks_before : ∀ (n m N : Nat), n ≤ N → (masks n m).Pairwise (fun a b => before N a b = true)
  | n, 0, N, _ => by rw [masks_zero]; simp
  | 0, _ + 1, N, _ => by simp [masks]
  | n + 1, m + 1, 0, h => by omega
  | n + 1, m + 1, N + 1, h => by
    rw [show masks (n + 1) (m + 1) = (masks n m).map (fun k => 2 * k + 1) ++ (masks n (m + 1)).map (fun k => 2 * k) from rfl, List.pairwise_append, List.pairwise_map, List.pairwise_map]
    refine ⟨(masks_before n m N (by omega)).imp (fun {a b} h => ?_), (masks_before n (m + 1) N (by omega)).imp (fun {a b} h => ?_), fun a ha b hb => ?_⟩
    · unfold before
      rw [if_pos (by omega), show (2 * a + 1) / 2 = a from by omega, show (2 * b + 1) / 2 = b from by omega]; exact h
    · unfold before
      rw [if_pos (by omega), show 2 * a / 2 = a from by omega, show 2 * b / 2 = b from by omega]; exact h
    · obtain ⟨x, _, rfl⟩ := List.mem_map.1 ha
      obtain ⟨y, _, rfl⟩ := List.mem_map.1 hb
      unfold before
      rw [if_neg (by omega)]; simp

/-- the lowest position of a set, as a set -/
def low : Nat → Nat → Nat
  | 0, _ => 0
  | n + 1, c => if c % 2 = 1 then 1 else 2 * low n (c / 2)

theorem low_all : ∀ a : Nat, a < 8 → ∀ c : Nat, c < 512 → band ((512 * a + c : Nat) : Int) (-((512 * a + c : Nat) : Int)) = (low 12 (512 * a + c) : Int) := by decide +kernel

theorem low_eq (c : Nat) (h : c < 4096) : band (c : Int) (-(c : Int)) = (low 12 c : Int) := by
  have := low_all (c / 512) (by omega) (c % 512) (by omega)
  rwa [show 512 * (c / 512) + c % 512 = c from by omega] at this

theorem low_lt : ∀ n c : Nat, low n c < 2 ^ n
  | 0, _ => by simp [low]
  | n + 1, c => by
    have hp := Nat.pow_succ (n := 2) (m := n)
    have := Nat.two_pow_pos n
    have := low_lt n (c / 2)
    unfold low
    split <;> omega

theorem and_two (a x : Nat) : a &&& (2 * x) = 2 * ((a / 2) &&& x) := by
  apply Nat.eq_of_testBit_eq
  intro i
  cases i with
  | zero => simp [Nat.testBit_zero, Nat.testBit_and]
  | succ i => rw [Nat.testBit_and, Nat.testBit_succ, Nat.testBit_succ, Nat.testBit_succ, show 2 * x / 2 = x from by omega, show 2 * (a / 2 &&& x) / 2 = (a / 2 &&& x) from by omega, Nat.testBit_and]

theorem before_low : ∀ {n a b : Nat}, a < 2 ^ n → b < 2 ^ n → a ≠ b → (before n a b = true ↔ a &&& low n (a ^^^ b) ≠ 0)
  | 0, a, b, h1, h2, h => by simp at h1 h2; omega
  | n + 1, a, b, h1, h2, h => by
    have hp := Nat.pow_succ (n := 2) (m := n)
    have hx := Nat.xor_mod_two_eq_one (a := a) (b := b)
    have hd := Nat.xor_div_two (a := a) (b := b)
    unfold before low
    by_cases c : a % 2 = b % 2
    · rw [if_pos c, if_neg (by omega), and_two, hd]
      have := before_low (n := n) (a := a / 2) (b := b / 2) (by omega) (by omega) (by omega)
      rw [this]; omega
    · rw [if_neg c, if_pos (by omega), Nat.and_one_is_mod]; simp

theorem bxor_nat {a b : Nat} (ha : a < 2 ^ 12) (hb : b < 2 ^ 12) : bxor (a : Int) (b : Int) = ((a ^^^ b : Nat) : Int) := by
  unfold bxor
  have h : (BitVec.ofInt 64 (a : Int) ^^^ BitVec.ofInt 64 (b : Int)).toNat = a ^^^ b := by
    rw [BitVec.toNat_xor]
    have e : ∀ n : Nat, n < 2 ^ 63 → (BitVec.ofInt 64 (n : Int)).toNat = n := by
      intro n hn
      simp only [BitVec.toNat_ofInt]
      omega
    rw [e a (by omega), e b (by omega)]
  rw [h]
  have hle : a ^^^ b < 2 ^ 12 := Nat.xor_lt_two_pow ha hb
  unfold IntKind.wrap
  simp [IntKind.signed, IntKind.bits]
  omega

theorem earlier_eq {a b : Nat} (ha : a < 2 ^ 12) (hb : b < 2 ^ 12) (h : a ≠ b) : U.earlier (a : Int) (b : Int) = before 12 a b := by
  unfold U.earlier
  have hc : a ^^^ b < 2 ^ 12 := Nat.xor_lt_two_pow ha hb
  have hl := low_lt 12 (a ^^^ b)
  rw [if_neg (by omega), bxor_nat ha hb, low_eq _ (by omega), band_nat (by omega) (by omega)]
  rw [Bool.eq_iff_iff, before_low ha hb h, decide_eq_true_iff]
  omega

/-- fewer positions, or as many and earlier ones -/
def Fst (l : LG) (a b : Nat) : Prop := (pick l a).length < (pick l b).length ∨ ((pick l a).length = (pick l b).length ∧ before 12 a b = true)

theorem Fst.trans {l : LG} {a b c : Nat} (h1 : Fst l a b) (h2 : Fst l b c) : Fst l a c := by
  unfold Fst at *
  rcases h1 with h1 | ⟨h1, k1⟩ <;> rcases h2 with h2 | ⟨h2, k2⟩
  · left; omega
  · left; omega
  · left; omega
  · right; exact ⟨h1.trans h2, before_trans k1 k2⟩

theorem Fst.not {l : LG} {a b : Nat} (h1 : Fst l a b) (h2 : Fst l b a) : False := by
  unfold Fst at *
  rcases h1 with h1 | ⟨h1, k1⟩ <;> rcases h2 with h2 | ⟨h2, k2⟩
  · omega
  · omega
  · omega
  · rw [before_not k1] at k2; cases k2

theorem Fst.total {l : LG} {a b : Nat} (ha : a < 2 ^ 12) (hb : b < 2 ^ 12) (h : a ≠ b) : Fst l a b ∨ Fst l b a := by
  unfold Fst
  rcases before_total ha hb h with k | k
  · by_cases c : (pick l b).length < (pick l a).length
    · right; left; exact c
    · left
      by_cases c' : (pick l a).length < (pick l b).length
      · left; exact c'
      · right; exact ⟨by omega, k⟩
  · by_cases c : (pick l a).length < (pick l b).length
    · left; left; exact c
    · right
      by_cases c' : (pick l b).length < (pick l a).length
      · left; exact c'
      · right; exact ⟨by omega, k⟩

/-- all sets, in their order -/
def allM (l : LG) : List Nat := (List.range (l.length + 1)).flatMap (masks l.length)

theorem pick_le : ∀ (l : LG) (k : Nat), (pick l k).length ≤ l.length
  | [], _ => by simp [pick]
  | g :: r, k => by
    have := pick_le r (k / 2)
    unfold pick
    split <;> simp <;> omega

theorem allM_mem {l : LG} {k : Nat} : k ∈ allM l ↔ k < 2 ^ l.length := by
  unfold allM
  rw [List.mem_flatMap]
  refine ⟨fun ⟨m, _, h⟩ => masks_lt _ _ _ h, fun h => ⟨_, ?_, masks_all l k h⟩⟩
  rw [List.mem_range]
  have := pick_le l k
  omega

theorem allM_fst {l : LG} (h : l.length ≤ 12) : (allM l).Pairwise (Fst l) := by
  unfold allM
  rw [List.pairwise_flatMap]
  refine ⟨fun m _ => ?_, List.pairwise_lt_range.imp fun {m n} hmn a ha b hb => ?_⟩
  · refine (masks_before l.length m 12 h).imp_of_mem fun {a b} ha hb hab => ?_
    exact .inr ⟨by rw [masks_len l m a ha, masks_len l m b hb], hab⟩
  · left
    rw [masks_len l m a ha, masks_len l n b hb]; exact hmn

/-! ### The reference's search -/

/-- the first of the sets that will do -/
structure First (l : LG) (p : LG → Bool) (N : Nat) (b : Nat) : Prop where
  lt : b < N
  ok : p (pick l b) = true
  min : ∀ k : Nat, k < N → p (pick l k) = true → k = b ∨ Fst l b k

theorem First.unique {l : LG} {p : LG → Bool} {N a b : Nat} (ha : First l p N a) (hb : First l p N b) : a = b := by
  rcases ha.min b hb.lt hb.ok with h | h
  · exact h.symm
  rcases hb.min a ha.lt ha.ok with h' | h'
  · exact h'
  · exact (h.not h').elim

/-- at least so many signs are needed -/
def needs (s n : Int) (c : LG) : Bool := !decide (U.least s c < n)

theorem bestTo_succ (s : Int) (l : LG) (n : Int) (i : Nat) : U.bestTo s l n (i + 1) = U.stepB s l n (U.bestTo s l n i) i := by
  unfold U.bestTo
  rw [List.range_succ, List.foldl_append]; rfl

theorem bestTo_first {s : Int} {l : LG} {n : Int} : ∀ i : Nat, i ≤ 2 ^ 12 → (U.bestTo s l n i = -1 ∧ ∀ k : Nat, k < i → needs s n (pick l k) = false) ∨ ∃ b : Nat, U.bestTo s l n i = (b : Int) ∧ First l (needs s n) i b
  | 0, _ => .inl ⟨rfl, fun k h => absurd h (Nat.not_lt_zero k)⟩
  | i + 1, h => by
    rw [bestTo_succ]
    unfold U.stepB
    rw [chosen_eq (l := l) (k := i) (by omega)]
    by_cases c : U.least s (pick l i) < n
    · rw [if_pos c]
      have hi : needs s n (pick l i) = false := by simp [needs, c]
      rcases bestTo_first (s := s) (l := l) (n := n) i (by omega) with ⟨h1, h2⟩ | ⟨b, h1, h2⟩
      · left
        refine ⟨h1, fun k hk => ?_⟩
        by_cases e : k = i
        · subst e; exact hi
        · exact h2 k (by omega)
      · right
        refine ⟨b, h1, by have := h2.lt; omega, h2.ok, fun k hk hp => ?_⟩
        by_cases e : k = i
        · subst e; rw [hi] at hp; cases hp
        · exact h2.min k (by omega) hp
    · rw [if_neg c]
      have hi : needs s n (pick l i) = true := by simp [needs, c]
      right
      rcases bestTo_first (s := s) (l := l) (n := n) i (by omega) with ⟨h1, h2⟩ | ⟨b, h1, h2⟩
      · refine ⟨i, by rw [h1, if_pos (.inl (by omega))], by omega, hi, fun k hk hp => ?_⟩
        by_cases e : k = i
        · exact .inl e
        · rw [h2 k (by omega)] at hp; cases hp
      · have hb := h2.lt
        rw [h1, chosen_eq (l := l) (k := b) (by omega), earlier_eq (a := i) (b := b) (by omega) (by omega) (by omega)]
        by_cases d : Fst l i b
        · refine ⟨i, by rw [if_pos (.inr d)], by omega, hi, fun k hk hp => ?_⟩
          by_cases e : k = i
          · exact .inl e
          · right
            rcases h2.min k (by omega) hp with e' | e'
            · rw [e']; exact d
            · exact d.trans e'
        · refine ⟨b, by rw [if_neg (fun x => x.elim (fun x => by omega) d)], by omega, h2.ok, fun k hk hp => ?_⟩
          by_cases e : k = i
          · subst e
            right
            rcases Fst.total (l := l) (a := k) (b := b) (by omega) (by omega) (by omega) with x | x
            · exact (d x).elim
            · exact x
          · exact h2.min k (by omega) hp

theorem pick_full : ∀ l : LG, pick l (2 ^ l.length - 1) = l
  | [] => rfl
  | g :: r => by
    have hp := Nat.pow_succ (n := 2) (m := r.length)
    have h0 := Nat.two_pow_pos r.length
    rw [List.length_cons, show 2 ^ (r.length + 1) - 1 = 2 * (2 ^ r.length - 1) + 1 from by omega, pick_odd, pick_full r]

theorem whyR_first {s : Int} {l : LG} (h : l.length ≤ 12) : ∃ b : Nat, U.whyR s l = pick l b ∧ First l (needs s (U.least s l)) (2 ^ l.length) b := by
  have hp : 2 ^ l.length ≤ 2 ^ 12 := Nat.pow_le_pow_right (by omega) h
  unfold U.whyR
  rcases bestTo_first (s := s) (l := l) (n := U.least s l) (2 ^ l.length) hp with ⟨_, h2⟩ | ⟨b, h1, h2⟩
  · have h0 := Nat.two_pow_pos l.length
    have := h2 (2 ^ l.length - 1) (by omega)
    rw [pick_full] at this
    simp [needs] at this
  · have := h2.lt
    exact ⟨b, by rw [h1, chosen_eq (by omega)], h2⟩

/-! ### The program's search -/

def run (K : LG × Unit → LG → (Bool × Unit) × LG) : List LG → LG → (Bool × Unit) × LG
  | [], s => ((true, ()), s)
  | c :: cs, s => match K (c, ()) s with
    | ((true, _), s') => run K cs s'
    | ((false, _), s') => ((false, ()), s')

theorem run_append (K : LG × Unit → LG → (Bool × Unit) × LG) : ∀ (a b : List LG) (s : LG), run K (a ++ b) s = match run K a s with
    | ((true, _), s') => run K b s'
    | ((false, _), s') => ((false, ()), s')
  | [], _, _ => rfl
  | c :: a, b, s => by
    rw [List.cons_append]
    have e : ∀ x : List LG, run K (c :: x) s = match K (c, ()) s with
      | ((true, _), s') => run K x s'
      | ((false, _), s') => ((false, ()), s') := fun _ => rfl
    rw [e, e]
    rcases hk : K (c, ()) s with ⟨⟨t, _⟩, s'⟩
    cases t
    · rfl
    · exact run_append K a b s'

theorem run_cons (K : LG × Unit → LG → (Bool × Unit) × LG) (g : GD) : ∀ (a : List LG) (s : LG), run (U.consK g K) a s = run K (a.map (g :: ·)) s
  | [], _ => rfl
  | c :: a, s => by
    rw [List.map_cons]
    unfold run
    rw [show U.consK g K (c, ()) s = K (g :: c, ()) s from rfl]
    rcases hk : K (g :: c, ()) s with ⟨⟨t, _⟩, s'⟩
    cases t
    · rfl
    · exact run_cons K g a s'

theorem choose_run : ∀ (l : LG) (K : LG × Unit → LG → (Bool × Unit) × LG) (m : Nat) (s : LG), U.chooseK l K m s = run K ((masks l.length m).map (pick l)) s
  | l, K, 0, s => by
    rw [masks_zero, List.map_cons, pick_zero, show U.chooseK l K 0 s = K ([], ()) s from by cases l <;> rfl]
    unfold run
    rcases hk : K ([], ()) s with ⟨⟨t, _⟩, s'⟩
    cases t <;> rfl
  | [], K, _ + 1, s => rfl
  | g :: r, K, m + 1, s => by
    have e1 : ((masks r.length m).map (fun k => 2 * k + 1)).map (pick (g :: r)) = ((masks r.length m).map (pick r)).map (g :: ·) := by
      rw [List.map_map, List.map_map]
      apply List.map_congr_left
      intro k _
      exact pick_odd g r k
    have e2 : ((masks r.length (m + 1)).map (fun k => 2 * k)).map (pick (g :: r)) = (masks r.length (m + 1)).map (pick r) := by
      rw [List.map_map]
      apply List.map_congr_left
      intro k _
      exact pick_even g r k
    rw [show masks (g :: r).length (m + 1) = (masks r.length m).map (fun k => 2 * k + 1) ++ (masks r.length (m + 1)).map (fun k => 2 * k) from rfl, List.map_append, run_append, e1, e2, ← run_cons, ← choose_run r (U.consK g K) m s]
    show (match U.chooseK r (U.consK g K) m s with
      | ((true, _), s') => U.chooseK r K (m + 1) s'
      | ((false, _), s') => ((false, ()), s')) = _
    rcases hk : U.chooseK r (U.consK g K) m s with ⟨⟨t, _⟩, s'⟩
    cases t
    · rfl
    · exact choose_run r K (m + 1) s'

theorem run_find (f : FD × Unit) (n : Int) : ∀ (a : List LG) (s : LG), run (U.K55 f n) a s = match a.find? (needs f.1.2.1 n) with
    | some c => ((false, ()), c)
    | none => ((true, ()), s)
  | [], _ => rfl
  | c :: a, s => by
    unfold run
    unfold U.K55
    by_cases h : U.least f.1.2.1 c < n
    · have e : needs f.1.2.1 n c = false := by simp [needs, h]
      rw [List.find?_cons, e]
      simp only [h, if_true]
      exact run_find f n a s
    · have e : needs f.1.2.1 n c = true := by simp [needs, h]
      rw [List.find?_cons, e]
      simp only [h, if_false]

theorem whyFrom_find (f : FD × Unit) (n : Int) (l : LG) : ∀ (k m : Nat) (s : LG), U.whyFrom f n l k m s = ((((List.range' m k).flatMap (masks l.length)).map (pick l)).find? (needs f.1.2.1 n)).getD s
  | 0, _, _ => rfl
  | k + 1, m, s => by
    rw [List.range'_succ, List.flatMap_cons, List.map_append, List.find?_append]
    show (match U.chooseK l (U.K55 f n) m s with
      | ((true, _), s') => U.whyFrom f n l k (m + 1) s'
      | ((false, _), s') => s') = _
    rw [choose_run, run_find]
    cases h : ((masks l.length m).map (pick l)).find? (needs f.1.2.1 n) with
    | none =>
      simp only [Option.none_or]
      exact whyFrom_find f n l k (m + 1) s
    | some c => rfl

theorem why_eq {f : FD × Unit} {l : LG} (h : l.length ≤ 12) : U.whyG f l = U.whyR f.1.2.1 l := by
  obtain ⟨b, hb, hf⟩ := whyR_first (s := f.1.2.1) (l := l) h
  unfold U.whyG
  rw [hb, whyFrom_find, ← List.range_eq_range', List.find?_map]
  have e : (List.range (l.length + 1)).flatMap (masks l.length) = allM l := rfl
  rw [e]
  cases hx : (allM l).find? (needs f.1.2.1 (U.least f.1.2.1 l) ∘ pick l) with
  | none =>
    have := List.find?_eq_none.1 hx b (allM_mem.2 hf.lt)
    exact absurd hf.ok this
  | some c =>
    obtain ⟨hc, pre, post, he, hpre⟩ := List.find?_eq_some_iff_append.1 hx
    have hp := allM_fst h
    rw [he] at hp
    have hp := (List.pairwise_append.1 hp).2.1
    rw [List.pairwise_cons] at hp
    have : First l (needs f.1.2.1 (U.least f.1.2.1 l)) (2 ^ l.length) c := by
      refine ⟨allM_mem.1 (List.mem_of_find?_eq_some hx), hc, fun k hk hn => ?_⟩
      have hm := allM_mem.2 hk
      rw [he] at hm
      rcases List.mem_append.1 hm with hm | hm
      · have := hpre k hm
        simp [hn] at this
      · rcases List.mem_cons.1 hm with hm | hm
        · exact .inl hm
        · exact .inr (hp.1 k hm)
    rw [this.unique hf]; rfl

/-! ### None can be spared -/

theorem pick_sub : ∀ (l : LG) (k : Nat), (pick l k).Sublist l
  | [], _ => List.Sublist.slnil
  | g :: r, k => by
    unfold pick
    split
    · exact (pick_sub r (k / 2)).cons_cons g
    · exact (pick_sub r (k / 2)).cons g

theorem sub_pick {c l : LG} (h : c.Sublist l) : ∃ k, k < 2 ^ l.length ∧ pick l k = c := by
  induction h with
  | slnil => exact ⟨0, by simp, rfl⟩
  | @cons c r g _ ih =>
    obtain ⟨k, h1, h2⟩ := ih
    have hp := Nat.pow_succ (n := 2) (m := r.length)
    exact ⟨2 * k, by rw [List.length_cons]; omega, by rw [pick_even]; exact h2⟩
  | @cons_cons c r g _ ih =>
    obtain ⟨k, h1, h2⟩ := ih
    have hp := Nat.pow_succ (n := 2) (m := r.length)
    exact ⟨2 * k + 1, by rw [List.length_cons]; omega, by rw [pick_odd, h2]⟩

structure Proof (s : Int) (l w : LG) : Prop where
  sub : w.Sublist l
  need : U.least s l ≤ U.least s w
  min : ∀ i : Nat, i < w.length → U.least s (U.drop1 w i) < U.least s l

theorem why_proof {s : Int} {l : LG} (h : l.length ≤ 12) : Proof s l (U.whyR s l) := by
  obtain ⟨b, hb, hf⟩ := whyR_first (s := s) (l := l) h
  rw [hb]
  refine ⟨pick_sub l b, by have := hf.ok; simpa [needs] using this, fun i hi => ?_⟩
  have hs : (U.drop1 (pick l b) i).Sublist (pick l b) := by
    unfold U.drop1
    rw [← List.eraseIdx_eq_take_drop_succ]
    exact List.eraseIdx_sublist ..
  have hl : (U.drop1 (pick l b) i).length < (pick l b).length := by
    unfold U.drop1
    simp; omega
  obtain ⟨k, k1, k2⟩ := sub_pick (hs.trans (pick_sub l b))
  refine Classical.byContradiction fun hn => ?_
  rw [← k2] at hn hl
  rcases hf.min k k1 (by simp [needs]; omega) with e | e
  · subst e; omega
  · unfold Fst at e; omega

end M
end Go.X
/-
  What is asked of 'choose' and its closures.
-/
namespace Go.X
open Go.Proofs

def p76 : Prop := ∀ (rest : LG) (g : GD) (y : FE) (s : LG), rest.length ≤ 1000 → U.allP (y.pre (g :: rest, ())) →
  vcgI (ctx 11 [] []) (fun _ => none) (bodyOf Try.f76) ⟨[(0, .dat tL rest), (1, .fe true root0 25 tL [tL] [.bool] y.pre y.K), (2, .ep tG g)], [(root0, some (.box 25 false [.dat tL s]))]⟩
    (finishE (ctx 11 [] []) Try.f76 25 tL [.bool] (U.consK g y.K (rest, ()) s))
def vc76 : Prop :=
  ∀ (rest : LG) (g : GD) (y : FE) (s : LG),
  List.length rest ≤ (1000 : Nat) →
  U.allP (y.pre (g :: rest, ())) →
  ([g].length + List.length rest) * (48 : Nat) ≤ (140737488355328 : Nat) ∧
  asks (y.1 ([g] ++ rest, ())) (((y.2 ([g] ++ rest, ()) s).fst.fst, ()) = (U.consK g y.2 (rest, ()) s).fst ∧ (y.2 ([g] ++ rest, ()) s).snd = (U.consK g y.2 (rest, ()) s).snd)

theorem vc76_eq : (p76) = vc76 := by kernel_rfl


def an54 (K : LG × Unit → LG → (Bool × Unit) × LG) (m : Nat) : Ann := fun r => match r with
  | 4 => some fun σ => { X := Nat × LG, sl := fun x => [(15, .dat .int (x.1 : Int))], ob := fun x => [(5, some (.box 80 true [σ.get 2])), (root0, some (.box 25 false [.dat tL x.2]))], inv := fun x => x.1 ≤ (gd tL σ 0).length ∧ U.chooseK ((gd tL σ 0).drop x.1) K m x.2 = U.chooseK (gd tL σ 0) K m (match varAt σ root0 with | some s => s | none => []), mu := fun x => (gd tL σ 0).length - x.1 }
  | _ => none
def p54 : Prop := ∀ (N : Nat) (l : LG) (m : Int) (y : FE) (s : LG), 0 ≤ m → m ≤ 1000 → m.toNat < N + 1 → l.length ≤ 1000 → U.subP y.pre l →
  vcgI (ctxE 30 [] (rec54 N)) (an54 y.K m.toNat) (bodyOf Try.f54) ⟨[(0, .dat tL l), (1, .dat .int m), (2, .fe false root0 25 tL [tL] [.bool] y.pre y.K)], [(root0, some (.box 25 false [.dat tL s]))]⟩
    (finishE (ctxE 30 [] (rec54 N)) Try.f54 25 tL [.bool] (U.chooseK l y.K m.toNat s))
def vc54 : Prop :=
  ∀ (N : Nat) (l : LG) (m : Int) (y : FE) (s : LG),
  (0 : Int) ≤ m →
  m ≤ (1000 : Int) →
  m.toNat < N + (1 : Nat) →
  List.length l ≤ (1000 : Nat) →
  U.subP y.pre l →
  (decide (m = (0 : Int)) = true → asks (y.1 ([], ())) (((y.2 ([], ()) s).fst.fst, ()) = (U.chooseK l y.2 m.toNat s).fst ∧ (y.2 ([], ()) s).snd = (U.chooseK l y.2 m.toNat s).snd)) ∧
  (decide (m = (0 : Int)) = false →
  List.length l < (4611686018427387904 : Nat) →
  (∃ (x : Nat × List (Int × Int × Int × Int × Int × Int × Unit)),
  (((0 : Int) = (↑x.fst : Int) ∧ True) ∧
  (SV.fe false (nat_lit 1000000) (25 : Nat) (Ty.int.pair (Ty.int.pair (Ty.int.pair (Ty.int.pair (Ty.int.pair (Ty.int.pair Ty.unit)))))).slice
  [(Ty.int.pair (Ty.int.pair (Ty.int.pair (Ty.int.pair (Ty.int.pair (Ty.int.pair Ty.unit)))))).slice] [Ty.bool] y.1 y.2 =
  SV.fe false (nat_lit 1000000) (25 : Nat) (Ty.int.pair (Ty.int.pair (Ty.int.pair (Ty.int.pair (Ty.int.pair (Ty.int.pair Ty.unit)))))).slice
  [(Ty.int.pair (Ty.int.pair (Ty.int.pair (Ty.int.pair (Ty.int.pair (Ty.int.pair Ty.unit)))))).slice] [Ty.bool] y.1 y.2 ∧
  True) ∧
  (s = x.snd ∧ True) ∧ True) ∧
  x.fst ≤ List.length l ∧ U.chooseK (List.drop x.fst l) y.2 m.toNat x.snd = U.chooseK l y.2 m.toNat s) ∧
  ∀ (x : Nat × List (Int × Int × Int × Int × Int × Int × Unit)),
  x.fst ≤ List.length l ∧ U.chooseK (List.drop x.fst l) y.2 m.toNat x.snd = U.chooseK l y.2 m.toNat s →
  (decide ((↑x.fst : Int) < (↑(List.length l) : Int)) = true →
  (0 : Int) ≤ (↑x.fst : Int) ∧
  (↑x.fst : Int) < (↑(List.length l) : Int) ∧
  In64 ((↑x.fst : Int) + (1 : Int)) ∧
  (0 : Int) ≤ (↑x.fst : Int) + (1 : Int) ∧
  (↑x.fst : Int) + (1 : Int) ≤ (↑(List.length l) : Int) ∧
  (↑(List.length l) : Int) ≤ (↑(List.length l) : Int) ∧
  In64 (m - (1 : Int)) ∧
  (0 : Int) ≤ m - (1 : Int) ∧
  m - (1 : Int) ≤ (1000 : Int) ∧
  (m - (1 : Int)).toNat < N ∧
  (List.take ((↑(List.length l) : Int).toNat - ((↑x.fst : Int) + (1 : Int)).toNat) (List.drop ((↑x.fst : Int) + (1 : Int)).toNat l)).length ≤ (1000 : Nat) ∧
  U.subP
  (U.consP
  ((nth l (↑x.fst : Int).toNat).fst, (nth l (↑x.fst : Int).toNat).snd.fst, (nth l (↑x.fst : Int).toNat).snd.snd.fst, (nth l (↑x.fst : Int).toNat).snd.snd.snd.fst,
  (nth l (↑x.fst : Int).toNat).snd.snd.snd.snd.fst, (nth l (↑x.fst : Int).toNat).snd.snd.snd.snd.snd.fst, ())
  y.1)
  (List.take ((↑(List.length l) : Int).toNat - ((↑x.fst : Int) + (1 : Int)).toNat) (List.drop ((↑x.fst : Int) + (1 : Int)).toNat l)) ∧
  ((!(U.chooseK (List.take ((↑(List.length l) : Int).toNat - ((↑x.fst : Int) + (1 : Int)).toNat) (List.drop ((↑x.fst : Int) + (1 : Int)).toNat l))
  (U.consK
  ((nth l (↑x.fst : Int).toNat).fst, (nth l (↑x.fst : Int).toNat).snd.fst, (nth l (↑x.fst : Int).toNat).snd.snd.fst, (nth l (↑x.fst : Int).toNat).snd.snd.snd.fst,
  (nth l (↑x.fst : Int).toNat).snd.snd.snd.snd.fst, (nth l (↑x.fst : Int).toNat).snd.snd.snd.snd.snd.fst, ())
  y.2)
  (m - (1 : Int)).toNat x.snd).fst.fst) =
  true →
  (false, ()) = (U.chooseK l y.2 m.toNat s).fst ∧
  (U.chooseK (List.take ((↑(List.length l) : Int).toNat - ((↑x.fst : Int) + (1 : Int)).toNat) (List.drop ((↑x.fst : Int) + (1 : Int)).toNat l))
  (U.consK
  ((nth l (↑x.fst : Int).toNat).fst, (nth l (↑x.fst : Int).toNat).snd.fst, (nth l (↑x.fst : Int).toNat).snd.snd.fst, (nth l (↑x.fst : Int).toNat).snd.snd.snd.fst,
  (nth l (↑x.fst : Int).toNat).snd.snd.snd.snd.fst, (nth l (↑x.fst : Int).toNat).snd.snd.snd.snd.snd.fst, ())
  y.2)
  (m - (1 : Int)).toNat x.snd).snd =
  (U.chooseK l y.2 m.toNat s).snd) ∧
  ((!(U.chooseK (List.take ((↑(List.length l) : Int).toNat - ((↑x.fst : Int) + (1 : Int)).toNat) (List.drop ((↑x.fst : Int) + (1 : Int)).toNat l))
  (U.consK
  ((nth l (↑x.fst : Int).toNat).fst, (nth l (↑x.fst : Int).toNat).snd.fst, (nth l (↑x.fst : Int).toNat).snd.snd.fst, (nth l (↑x.fst : Int).toNat).snd.snd.snd.fst,
  (nth l (↑x.fst : Int).toNat).snd.snd.snd.snd.fst, (nth l (↑x.fst : Int).toNat).snd.snd.snd.snd.snd.fst, ())
  y.2)
  (m - (1 : Int)).toNat x.snd).fst.fst) =
  false →
  In64 ((↑x.fst : Int) + (1 : Int)) ∧
  ∃ (x' : Nat × List (Int × Int × Int × Int × Int × Int × Unit)),
  (((↑x.fst : Int) + (1 : Int) = (↑x'.fst : Int) ∧ True) ∧
  ((U.chooseK (List.take ((↑(List.length l) : Int).toNat - ((↑x.fst : Int) + (1 : Int)).toNat) (List.drop ((↑x.fst : Int) + (1 : Int)).toNat l))
  (U.consK
  ((nth l (↑x.fst : Int).toNat).fst, (nth l (↑x.fst : Int).toNat).snd.fst, (nth l (↑x.fst : Int).toNat).snd.snd.fst, (nth l (↑x.fst : Int).toNat).snd.snd.snd.fst,
  (nth l (↑x.fst : Int).toNat).snd.snd.snd.snd.fst, (nth l (↑x.fst : Int).toNat).snd.snd.snd.snd.snd.fst, ())
  y.2)
  (m - (1 : Int)).toNat x.snd).snd =
  x'.snd ∧
  True) ∧
  (SV.fe false (nat_lit 1000000) (25 : Nat) (Ty.int.pair (Ty.int.pair (Ty.int.pair (Ty.int.pair (Ty.int.pair (Ty.int.pair Ty.unit)))))).slice
  [(Ty.int.pair (Ty.int.pair (Ty.int.pair (Ty.int.pair (Ty.int.pair (Ty.int.pair Ty.unit)))))).slice] [Ty.bool] y.1 y.2 =
  SV.fe false (nat_lit 1000000) (25 : Nat) (Ty.int.pair (Ty.int.pair (Ty.int.pair (Ty.int.pair (Ty.int.pair (Ty.int.pair Ty.unit)))))).slice
  [(Ty.int.pair (Ty.int.pair (Ty.int.pair (Ty.int.pair (Ty.int.pair (Ty.int.pair Ty.unit)))))).slice] [Ty.bool] y.1 y.2 ∧
  True) ∧
  True) ∧
  (x'.fst ≤ List.length l ∧ U.chooseK (List.drop x'.fst l) y.2 m.toNat x'.snd = U.chooseK l y.2 m.toNat s) ∧ List.length l - x'.fst < List.length l - x.fst)) ∧
  (decide ((↑x.fst : Int) < (↑(List.length l) : Int)) = false → (true, ()) = (U.chooseK l y.2 m.toNat s).fst ∧ x.snd = (U.chooseK l y.2 m.toNat s).snd))

theorem vc54_eq : (p54) = vc54 := by kernel_rfl


def so55 : OSpec := ⟨[.val tL, .ref tFs, .ref .int, .own (.box 25 [.dat tL]) true], [.cl (.dat .bool)], fun d => U.pre55 d.2.1 (d.1, ()), fun d => (((U.K55 d.2.1 d.2.2.1 (d.1, ()) d.2.2.2.1.1).1.1, ()), (((U.K55 d.2.1 d.2.2.1 (d.1, ()) d.2.2.2.1.1).2, ()), ()))⟩
def vc55 : Prop :=
  ∀ (d : List (Int × Int × Int × Int × Int × Int × Unit) × ((List Int × Int × Unit) × Unit) × Int × (List (Int × Int × Int × Int × Int × Int × Unit) × Unit) × Unit),
  (1 : Int) ≤ d.snd.fst.fst.snd.fst ∧ d.snd.fst.fst.snd.fst ≤ (10 : Int) →
  U.smallest d.snd.fst.fst.snd.fst d.fst ≠ [] →
  (0 : Int) ≤ nth (U.smallest d.snd.fst.fst.snd.fst d.fst) (0 : Nat) ∧ nth (U.smallest d.snd.fst.fst.snd.fst d.fst) (0 : Nat) < (1024 : Int) →
  ((1 : Int) ≤ d.snd.fst.fst.snd.fst ∧ d.snd.fst.fst.snd.fst ≤ (10 : Int)) ∧
  (0 : Int) ≤ (0 : Int) ∧
  (0 : Int) < (↑(U.smallest d.snd.fst.fst.snd.fst d.fst).length : Int) ∧
  ((0 : Int) ≤ nth (U.smallest d.snd.fst.fst.snd.fst d.fst) (Int.toNat (0 : Int)) ∧ nth (U.smallest d.snd.fst.fst.snd.fst d.fst) (Int.toNat (0 : Int)) < (1024 : Int)) ∧
  (decide (U.size (nth (U.smallest d.snd.fst.fst.snd.fst d.fst) (Int.toNat (0 : Int))) < d.snd.snd.fst) = true →
  (true, ()) = ((U.K55 d.snd.fst d.snd.snd.fst (d.fst, ()) d.snd.snd.snd.fst.fst).fst.fst, ()) ∧ ((d.snd.snd.snd.fst.fst, ()), ()) = (((U.K55 d.snd.fst d.snd.snd.fst (d.fst, ()) d.snd.snd.snd.fst.fst).snd, ()), ())) ∧
  (decide (U.size (nth (U.smallest d.snd.fst.fst.snd.fst d.fst) (Int.toNat (0 : Int))) < d.snd.snd.fst) = false →
  (false, ()) = ((U.K55 d.snd.fst d.snd.snd.fst (d.fst, ()) d.snd.snd.snd.fst.fst).fst.fst, ()) ∧ ((d.fst, ()), ()) = (((U.K55 d.snd.fst d.snd.snd.fst (d.fst, ()) d.snd.snd.snd.fst.fst).snd, ()), ()))

theorem vc55_eq : ofnVC (ctx 15 [(46, sp46), (53, sp53)] []) (fun _ => none) Try.f55 (bodyOf Try.f55) so55 = vc55 := by kernel_rfl


end Go.X
/-
  'choose' and its closures: what is asked of the bodies is enough.
-/
namespace Go.X
open Go.Proofs

theorem h76 : vc76 := by
  intro rest g y s h1 h2
  refine ⟨by simp; omega, asks_all' h2 ⟨rfl, rfl⟩⟩

theorem h54 : vc54 := by
  intro N l m y s hm hm' hN hl hsub
  refine ⟨fun h0 => ?_, fun h0 hlt => ?_⟩
  · have h0 := of_decide_eq_true h0
    have e : U.chooseK l y.2 m.toNat s = y.2 ([], ()) s := by
      rw [show m.toNat = 0 from by omega]; cases l <;> rfl
    rw [e]
    exact asks_all' (hsub [] (List.nil_sublist l)) ⟨rfl, rfl⟩
  have h0 := of_decide_eq_false h0
  obtain ⟨k, hk⟩ : ∃ k, m.toNat = k + 1 := ⟨m.toNat - 1, by omega⟩
  refine ⟨⟨(0, s), ⟨⟨rfl, trivial⟩, ⟨rfl, trivial⟩, ⟨rfl, trivial⟩, trivial⟩, Nat.zero_le _, rfl⟩, fun x hx => ⟨fun hc => ?_, fun hc => ?_⟩⟩
  · have hc := of_decide_eq_true hc
    obtain ⟨i, s1⟩ := x
    have hi : i < l.length := by simpa using hc
    have hx2 : U.chooseK (l.drop i) y.2 m.toNat s1 = U.chooseK l y.2 m.toNat s := hx.2
    have hd : l.drop i = nth l i :: l.drop (i + 1) := by rw [L.nth_lt hi]; exact List.drop_eq_getElem_cons hi
    have e1 : List.take ((↑l.length : Int).toNat - ((↑i : Int) + 1).toNat) (List.drop ((↑i : Int) + 1).toNat l) = l.drop (i + 1) := by
      rw [show ((i : Int) + 1).toNat = i + 1 from by omega]
      apply List.take_of_length_le
      simp
    have e2 : (m - 1).toNat = k := by omega
    have e3 : ((i : Int)).toNat = i := by omega
    rw [hd, hk] at hx2
    have hx2 : (match U.chooseK (l.drop (i + 1)) (U.consK (nth l i) y.2) k s1 with
      | ((true, _), s') => U.chooseK (l.drop (i + 1)) y.2 (k + 1) s'
      | ((false, _), s') => ((false, ()), s')) = U.chooseK l y.2 (k + 1) s := hx2
    have e5 : ((nth l i).fst, (nth l i).snd.fst, (nth l i).snd.snd.fst, (nth l i).snd.snd.snd.fst, (nth l i).snd.snd.snd.snd.fst, (nth l i).snd.snd.snd.snd.snd.fst, ()) = nth l i := rfl
    simp only [e1, e2, e3, e5, hk]
    generalize U.chooseK (l.drop (i + 1)) (U.consK (nth l i) y.2) k s1 = R at hx2
    obtain ⟨⟨t, u⟩, s'⟩ := R
    refine ⟨by omega, by omega, L.in64 (by omega) (by omega), by omega, by omega, by omega, L.in64 (by omega) (by omega), by omega, by omega, by omega, by simp; omega, fun c hcs => ?_, fun ht => ?_, fun ht => ?_⟩
    · have hs1 : (nth l i :: c).Sublist l := by
        have := hcs.cons_cons (nth l i)
        rw [← hd] at this
        exact this.trans (List.drop_sublist ..)
      have := hcs.length_le
      exact ⟨by show c.length ≤ 1000; simp at this; omega, hsub _ hs1, trivial⟩
    · have ht : t = false := by simpa using ht
      subst ht
      exact ⟨congrArg Prod.fst hx2, congrArg Prod.snd hx2⟩
    · have ht : t = true := by simpa using ht
      subst ht
      refine ⟨L.in64 (by omega) (by omega), (i + 1, s'), ⟨⟨by simp, trivial⟩, ⟨rfl, trivial⟩, ⟨trivial, trivial⟩, trivial⟩, ⟨hi, hx2⟩, by simp; omega⟩
  · have hc := of_decide_eq_false hc
    obtain ⟨i, s1⟩ := x
    have hx2 : U.chooseK (l.drop i) y.2 m.toNat s1 = U.chooseK l y.2 m.toNat s := hx.2
    have hi : ¬ i < l.length := by simpa using hc
    rw [List.drop_eq_nil_of_le (by omega), hk] at hx2
    have hx2 : ((true, ()), s1) = U.chooseK l y.2 (k + 1) s := hx2
    rw [hk, ← hx2]
    exact ⟨rfl, rfl⟩

theorem h55 : vc55 := by
  intro d h1 h2 h3
  have hl := List.length_pos_iff.2 h2
  refine ⟨h1, by omega, by omega, h3, fun hc => ?_, fun hc => ?_⟩
  · have hc : U.least d.2.1.1.2.1 d.1 < d.2.2.1 := of_decide_eq_true hc
    unfold U.K55
    rw [if_pos hc]
    exact ⟨rfl, rfl⟩
  · have hc : ¬ U.least d.2.1.1.2.1 d.1 < d.2.2.1 := of_decide_eq_false hc
    unfold U.K55
    rw [if_neg hc]
    exact ⟨rfl, rfl⟩

theorem ok55 : OFnOK PR 55 so55 := mkFnO (vc55_eq.mpr h55) Try.func55 (by kernel_rfl) (by kernel_rfl) (by kernel_rfl) (by kernel_rfl) (by kernel_rfl) ⟨fun _ => ok46, fun _ => ok53, trivial⟩ trivial

theorem allP_iff : ∀ {l : List Prop}, U.allP l ↔ AllP l
  | [] => Iff.rfl
  | p :: r => by
    unfold U.allP AllP
    exact and_congr Iff.rfl allP_iff

theorem fe_okI {P : Program} {C : Ctx} {w : World} (hC : C.ok P) (hm : P.follows .mixedOrders = true) {f : Nat} {fn : Func} {body : Code} (hf : P.funcs[f]? = some fn) (hb : fn.body = some body)
    (hn : fn.ntmps = C.n) (A : Ann) {T : Nat} {st : Ty} {rs : List Ty} {want : (Ty.st rs).Data × st.Data} {s : st.Data} {sl : List (Nat × SV)} {vals : List Value}
    (hv : vcgI C A body ⟨sl, [(root0, some (.box T false [.dat st s]))]⟩ (finishE C fn T st rs want)) (hlen : Nat.ble vals.length C.n = true)
    {H : Imm} {b : Nat} {u : Value} (hg : Good H w) (hH : H b = none) (hw : w.heap[b]? = some (.cells #[u] T (0, 0))) (hst : st.agg = false) (hu : st.rv H u s)
    (hsl : ∀ ρ : Env, ρ.H = H → ρ.blk root0 = some (some (b, 0)) → ∀ k v, look sl k = some v → ∃ x, vals[k]? = some x ∧ SV.den P ρ v x) :
    Calls P f vals.toArray w (PostE H w b T st rs want) :=
  fe_ok hC hm hf hb hn A (Nat.le_of_ble_eq_true hlen) (vcgI_out hv) hg hH hw hst hu hsl

/-- a function value that may change the variable in this block -/
abbrev FnG (H : Imm) (b : Nat) (y : FE) (v : Value) : Prop := FnE PR H b 25 tL [tL] [.bool] y.pre y.K v

theorem clo76 (hp : p76) {H : Imm} {b : Nat} {g : GD} {y : FE} {yv v8 : Value} {b5 : Nat} (h1 : FnG H b y yv) (h5 : H b5 = some (.cells #[yv])) (h8 : refV H tG v8 g) :
    FnG H b ⟨U.consP g y.pre, U.consK g y.K⟩ (.func (.func 76) #[] #[.pointer (some ⟨b5, 0, none⟩), v8]) := by
  refine ⟨76, _, rfl, enters_of Try.func76 (c := bodyOf Try.f76) (by kernel_rfl) (by kernel_rfl), fun H' w vals x s u hH hg hb hw hu hv hpre => ?_⟩
  obtain ⟨v, rfl, hv1⟩ : ∃ v, vals = [v] ∧ tL.rv H' v x.1 := by
    match vals, hv with
    | [v], hv => exact ⟨v, rfl, hv.1⟩
    | [], hv => exact hv.elim
    | _ :: _ :: _, hv => have := hv.2; simp [rvs] at this
  obtain ⟨q1, q2, _⟩ := hpre
  have q1 : x.1.length ≤ 1000 := q1
  have q2 : U.allP (y.pre (g :: x.1, ())) := q2
  have key := fe_okI (P := PR) (C := ctx 11 [] []) (ctx_ok trivial trivial) mixed Try.func76 (body := bodyOf Try.f76) (by kernel_rfl) (by kernel_rfl) (fun _ => none) (T := 25) (st := tL) (rs := [.bool])
    (vals := [v, .pointer (some ⟨b5, 0, none⟩), v8]) (hp x.1 g y s q1 q2) (by kernel_rfl) hg hb hw rfl hu
  refine key (fun ρ hρ hblk k sv hk => ?_)
  match k, hk with
  | 0, hk =>
    have hk : some (SV.dat tL x.1) = some sv := hk
    simp only [Option.some.injEq] at hk; subst hk
    exact ⟨v, rfl, by simp only [SV.den]; rw [hρ]; exact hv1⟩
  | 1, hk =>
    have hk : some (SV.fe true root0 25 tL [tL] [.bool] y.pre y.K) = some sv := hk
    simp only [Option.some.injEq] at hk; subst hk
    refine ⟨_, rfl, ?_⟩
    simp only [SV.den]
    intro p hp'
    rw [hblk] at hp'; simp at hp'; subst hp'
    refine ⟨b, 0, rfl, yv, ?_, b5, rfl, ?_⟩
    · rw [hρ]; exact FnE.mono hH h1
    · rw [hρ]; exact hH _ _ h5
  | 2, hk =>
    have hk : some (SV.ep tG g) = some sv := hk
    simp only [Option.some.injEq] at hk; subst hk
    refine ⟨_, rfl, ?_⟩
    simp only [SV.den]
    rw [hρ]; exact refV.mono hH h8
  | k + 3, hk => cases hk

/-- 'choose', for fewer than so many glosses -/
def E54 (N : Nat) : Prop := ∀ (l : LG) (m : Int) (y : FE) (s : LG) (H : Imm) (w : World) (b : Nat) (lv yv u : Value), Good H w → H b = none → w.heap[b]? = some (.cells #[u] 25 (0, 0)) → tL.rv H u s →
  tL.rv H lv l → FnG H b y yv → 0 ≤ m → m ≤ 1000 → m.toNat < N → l.length ≤ 1000 → U.subP y.pre l → Calls PR 54 #[lv, .int .i64 m, yv] w (PostE H w b 25 tL [.bool] (U.chooseK l y.K m.toNat s))

theorem varAt_some {σ : St} {o : Nat} {s : LG} (h : varAt σ o = some s) : ∃ c, σ.obj o = some (.box 25 false [c]) ∧ toDat σ tL c = some (s, []) := by
  unfold varAt at h
  split at h
  case h_2 => cases h
  rename_i T c hx
  split at h
  case h_2 => cases h
  rename_i s' hT hc
  simp at h; subst h
  have := Nat.eq_of_beq_eq_true hT
  subst this
  exact ⟨c, hx, hc⟩

theorem castE_some {q : Bool} {o T : Nat} {st : Ty} {ps rs : List Ty} {pre : (Ty.st ps).Data → List Prop} {K : (Ty.st ps).Data → st.Data → (Ty.st rs).Data × st.Data} {y : FE} (h : castE st ps rs pre K = some y) :
    SV.fe q o T st ps rs pre K = SV.fe q o T tL [tL] [.bool] y.pre y.K := by
  unfold castE at h
  split at h
  case isFalse => cases h
  rename_i h1
  split at h
  case isFalse => cases h
  rename_i h2
  split at h
  case isFalse => cases h
  rename_i h3
  subst h1
  subst h2
  subst h3
  simp at h
  subst h
  rfl

theorem feAt_some {σ : St} {b o : Nat} {y : FE} (h : feAt σ b = some (o, y)) : ∃ T fz, σ.obj b = some (.box T fz [.fe false o 25 tL [tL] [.bool] y.pre y.K]) := by
  unfold feAt at h
  split at h
  case h_2 => cases h
  rename_i T0 fz o' T st ps rs pre K hx
  split at h
  case h_2 => cases h
  rename_i y' hT hc
  simp at h
  obtain ⟨rfl, rfl⟩ := h
  rw [castE_some hc] at hx
  have := Nat.eq_of_beq_eq_true hT
  subst this
  exact ⟨_, _, hx⟩

theorem rec54_sound (h76 : p76) {N : Nat} (ih : E54 N) {σ : St} {svs : List SV} {out : Out} (h : rec54 N σ svs = some out) {B : Base} {ρ : Env} {w : World} {vals : List Value} (hS : Sat PR B ρ σ.obj w) (hd : SV.denL PR ρ svs vals)
    (hvc : AllP out.vc) : Calls PR 54 vals.toArray w (fun e w' => ∃ v, e = .returned v ∧ Leaves PR B ρ σ out v w') := by
  unfold rec54 at h
  split at h
  case h_2 => cases h
  rename_i a bb f o5 p8
  split at h
  case h_2 => cases h
  rename_i l fz m o y g f8 hf hl hm hfe hg
  split at h
  case h_2 => cases h
  rename_i s hno hs
  simp at h; subst h
  obtain ⟨q1, q1', q2, q3, q4, _⟩ := hvc
  simp only [SV.denL] at hd
  obtain ⟨va, _, rfl, da, vb, _, rfl, db, vc, _, rfl, dc, rfl⟩ := hd
  simp only [SV.den, SV.denL] at dc
  obtain ⟨vs, rfl, v5, _, evs, d5, v8, _, rfl, d8, rfl⟩ := dc
  have evs : vs = #[v5, v8] := Array.toList_inj.1 (by simpa using evs)
  subst evs
  have := Nat.eq_of_beq_eq_true hf
  subst this
  obtain ⟨c, hx, hc⟩ := varAt_some hs
  obtain ⟨T5, fz5, hx5⟩ := feAt_some hfe
  refine callE_leaves (st := tL) (rs := [.bool]) hS (o5 :: (f8 ++ fz)) hno hx rfl (fun ρ1 b Cp u hS1 hle hblk hp hH hw hdu => ?_)
  have hF := fz_frz σ (o5 :: (f8 ++ fz))
  have hu := toDat_sound hS1 hF hc (fun o ho => by simp at ho) hdu
  have hl1 := toDat_sound hS1 hF hl (fun o ho => List.mem_cons_of_mem _ (List.mem_append_right _ ho)) (SV.den_mono hle a va (fun o ho => by simp at ho) da)
  have hg1 := toRef_sound hS1 hF hg (fun o ho => List.mem_cons_of_mem _ (List.mem_append_left _ ho)) (SV.den_mono hle p8 v8 (fun o ho => by simp at ho) d8)
  have hb := asInt_den hm db
  subst hb
  have hx5' : (σ.frz (o5 :: (f8 ++ fz))).obj o5 = some (.box T5 true [.fe false o 25 tL [tL] [.bool] y.pre y.K]) := by rw [(hF o5).2 (by simp), hx5]; rfl
  obtain ⟨p5, hp5, b5, C5, vs5, rfl, hw5, hdl5, _, hH5⟩ := hS1.obs o5 _ hx5'
  obtain ⟨b5', C5', e5, ev5⟩ := d5 _ (by rw [← hblk]; exact hp5)
  simp at e5; obtain ⟨rfl, rfl⟩ := e5
  subst ev5
  simp only [SV.denL, SV.den] at hdl5
  obtain ⟨yv, _, ey, hy, rfl⟩ := hdl5
  have ey : vs5 = #[yv] := Array.toList_inj.1 (by simpa using ey)
  subst ey
  obtain ⟨b', C', e', u', hFn, eu⟩ := hy _ hp
  simp at e'; obtain ⟨rfl, rfl⟩ := e'
  have eu : yv = u' := eu
  subst eu
  exact ih l m ⟨U.consP g y.pre, U.consK g y.K⟩ s ρ1.H w b va _ u hS1.good hH hw hu hl1 (clo76 h76 hFn hH5 hg1) q1 q1' q2 q3 q4

theorem ctxE_ok {n : Nat} {fs : List (Nat × Spec)} {e : St → List SV → Option Out} (hfs : Known fs)
    (he : ∀ σ svs out, e σ svs = some out → ∀ B ρ w vals, Sat PR B ρ σ.obj w → SV.denL PR ρ svs vals → AllP out.vc → Calls PR 54 vals.toArray w (fun e w' => ∃ v, e = .returned v ∧ Leaves PR B ρ σ out v w')) : (ctxE n fs e).ok PR := by
  refine ⟨ti_all ti_ok, known_look hfs, str_ok, fun f dst σ svs out h => ?_⟩
  have h : (match Nat.beq f 54 with | true => e σ svs | false => none) = some out := h
  split at h
  case h_2 => cases h
  rename_i hf
  have := Nat.eq_of_beq_eq_true hf
  subst this
  exact ⟨enters_of Try.func54 (c := bodyOf Try.f54) (by kernel_rfl) (by kernel_rfl), fun B ρ w vals hS hd hvc _ _ => he σ svs out h B ρ w vals hS hd hvc⟩

theorem e54 (h76 : p76) (h54 : p54) : ∀ N, E54 N
  | 0 => fun _ _ _ _ _ _ _ _ _ _ _ _ _ _ _ _ _ _ h => absurd h (Nat.not_lt_zero _)
  | N + 1 => fun l m y s H w b lv yv u hg hb hw hu hl hy h0 h0' hm hlen hsub => by
    have hC : (ctxE 30 [] (rec54 N)).ok PR := ctxE_ok trivial (fun σ svs out h B ρ w vals hS hd hvc => rec54_sound h76 (e54 h76 h54 N) h hS hd hvc)
    have key := fe_okI (P := PR) hC mixed Try.func54 (body := bodyOf Try.f54) (by kernel_rfl) (by kernel_rfl) (an54 y.K m.toNat) (T := 25) (st := tL) (rs := [.bool])
      (vals := [lv, .int .i64 m, yv]) (h54 N l m y s h0 h0' hm hlen hsub) (by kernel_rfl) hg hb hw rfl hu
    refine key (fun ρ hρ hblk k sv hk => ?_)
    match k, hk with
    | 0, hk =>
      have hk : some (SV.dat tL l) = some sv := hk
      simp only [Option.some.injEq] at hk; subst hk
      exact ⟨lv, rfl, by simp only [SV.den]; rw [hρ]; exact hl⟩
    | 1, hk =>
      have hk : some (SV.dat .int m) = some sv := hk
      simp only [Option.some.injEq] at hk; subst hk
      exact ⟨_, rfl, by simp only [SV.den]; exact rv_int m⟩
    | 2, hk =>
      have hk : some (SV.fe false root0 25 tL [tL] [.bool] y.pre y.K) = some sv := hk
      simp only [Option.some.injEq] at hk; subst hk
      refine ⟨_, rfl, ?_⟩
      simp only [SV.den]
      intro p hp'
      rw [hblk] at hp'; simp at hp'; subst hp'
      exact ⟨b, 0, rfl, yv, by rw [hρ]; exact hy, rfl⟩
    | k + 3, hk => cases hk

/-! ### The closure of 'Why' -/

theorem clo55 (h55 : OFnOK PR 55 so55) {H : Imm} {b : Nat} {x : FD × Unit} {n : Int} {v1 v2 : Value} (h1 : refV H tFs v1 x) (h2 : refV H .int v2 n) :
    FnG H b ⟨U.pre55 x, U.K55 x n⟩ (.func (.func 55) #[] #[v1, v2, .pointer (some ⟨b, 0, none⟩)]) := by
  refine ⟨55, _, rfl, h55.enters, fun H' w vals r s u hH hg hb hw hu hv hpre => ?_⟩
  obtain ⟨v, rfl, hv1⟩ : ∃ v, vals = [v] ∧ tL.rv H' v r.1 := by
    match vals, hv with
    | [v], hv => exact ⟨v, rfl, hv.1⟩
    | [], hv => exact hv.elim
    | _ :: _ :: _, hv => have := hv.2; simp [rvs] at this
  have key := h55.calls H' w [v, v1, v2, .pointer (some ⟨b, 0, none⟩)] (r.1, x, n, (s, ()), ()) [b] hg
    ⟨[], [b], rfl, ⟨hv1, rfl⟩, [], [b], rfl, ⟨refV.mono hH h1, rfl⟩, [], [b], rfl, ⟨refV.mono hH h2, rfl⟩, [b], [], rfl, ⟨b, #[u], [], rfl, rfl, hb, hw, ⟨[], [], rfl, ⟨hu, rfl⟩, one_of_rv rfl hu, rfl, rfl⟩⟩, rfl, rfl⟩ (by simp) hpre
  refine key.mono fun e w' he => ?_
  obtain ⟨vs, H'', rb, kb, rfl, hE, hr, hk, _, _⟩ := he
  have hk : ∃ b1 b2, kb = b1 ++ b2 ∧ ShV H'' w' (.box 25 [.dat tL]) (.pointer (some ⟨b, 0, none⟩)) ((U.K55 x n (r.1, ()) s).2, ()) b1 ∧ b2 = [] := hk
  obtain ⟨b1, b2, _, ⟨b', vs', bs', e1, _, hb', hw', hc⟩, _⟩ := hk
  simp at e1; subst e1
  have hr : ORes H'' w' [.cl (.dat .bool)] vs ((U.K55 x n (r.1, ()) s).1.1, ()) rb := hr
  match vs, hr with
  | [], hr => exact hr.elim
  | [q], hr =>
    obtain ⟨_, _, _, ⟨hq, _⟩, _⟩ := hr
    match hv' : vs'.toList, hc with
    | [], hc => exact hc.elim
    | u' :: us, hc =>
      obtain ⟨_, _, _, ⟨hu', _⟩, _, hn, _⟩ := hc
      subst hn
      have e2 : vs' = #[u'] := Array.toList_inj.1 (by simpa using hv')
      subst e2
      exact ⟨q, H'', u', rfl, hE, hb', hw', hu', hq⟩
  | _ :: _ :: _, hr =>
    obtain ⟨_, _, _, _, hn, _⟩ := hr
    cases hn

theorem call54_sound (h76 : p76) (h54 : p54) (h55 : OFnOK PR 55 so55) {σ : St} {svs : List SV} {out : Out} (h : call54 σ svs = some out) {B : Base} {ρ : Env} {w : World} {vals : List Value} (hS : Sat PR B ρ σ.obj w)
    (hd : SV.denL PR ρ svs vals) (hvc : AllP out.vc) : Calls PR 54 vals.toArray w (fun e w' => ∃ v, e = .returned v ∧ Leaves PR B ρ σ out v w') := by
  unfold call54 at h
  split at h
  case h_2 => cases h
  rename_i a bb f p1 p2 o
  split at h
  case h_2 => cases h
  rename_i l fz m x f1 n f2 hf hl hm hp1 hp2
  split at h
  case h_2 => cases h
  rename_i s hno hs
  simp at h; subst h
  obtain ⟨q1, q1', q3, q4, _⟩ := hvc
  simp only [SV.denL] at hd
  obtain ⟨va, _, rfl, da, vb, _, rfl, db, vc, _, rfl, dc, rfl⟩ := hd
  simp only [SV.den, SV.denL] at dc
  obtain ⟨vs, rfl, v1, _, evs, d1, v2, _, rfl, d2, v3, _, rfl, d3, rfl⟩ := dc
  have evs : vs = #[v1, v2, v3] := Array.toList_inj.1 (by simpa using evs)
  subst evs
  have := Nat.eq_of_beq_eq_true hf
  subst this
  obtain ⟨c, hx, hc⟩ := varAt_some hs
  refine callE_leaves (st := tL) (rs := [.bool]) hS (f1 ++ (f2 ++ fz)) hno hx rfl (fun ρ1 b Cp u hS1 hle hblk hp hH hw hdu => ?_)
  have hF := fz_frz σ (f1 ++ (f2 ++ fz))
  have hu := toDat_sound hS1 hF hc (fun o ho => by simp at ho) hdu
  have hl1 := toDat_sound hS1 hF hl (fun o ho => List.mem_append_right _ (List.mem_append_right _ ho)) (SV.den_mono hle a va (fun o ho => by simp at ho) da)
  have hg1 := toRef_sound hS1 hF hp1 (fun o ho => List.mem_append_left _ ho) (SV.den_mono hle p1 v1 (fun o ho => by simp at ho) d1)
  have hg2 := toRef_sound hS1 hF hp2 (fun o ho => List.mem_append_right _ (List.mem_append_left _ ho)) (SV.den_mono hle p2 v2 (fun o ho => by simp at ho) d2)
  have hb := asInt_den hm db
  subst hb
  obtain ⟨b', C', e', ev⟩ := d3 _ (by rw [← hblk]; exact hp)
  simp at e'; obtain ⟨rfl, rfl⟩ := e'
  subst ev
  exact e54 h76 h54 (m.toNat + 1) l m ⟨U.pre55 x, U.K55 x n⟩ s ρ1.H w b va _ u hS1.good hH hw hu hl1 (clo55 h55 hg1 hg2) q1 q1' (Nat.lt_succ_self _) q3 q4

end Go.X
/-
  What is asked of 'Why' and of the reference's.
-/
namespace Go.X
open Go.Proofs

def bx (σ : St) (o : Nat) : List SV := match σ.obj o with | some (.box _ _ cs) => cs | _ => []
def sp30 : Spec := ⟨[.val tF, .val tL, .val .int, .val .int], [tL, .int], false, fun d => [U.check d.1 d.2.1 = 0 → d.2.1.length ≤ 12], fun d => (U.whyP d.1 d.2.1 d.2.2.1 d.2.2.2.1, U.frmErr d.1 d.2.1 d.2.2.1 d.2.2.2.1, ())⟩
def an30 : Ann := fun r => match r with
  | 8 => some fun σ => { X := Nat × LG, sl := fun x => [(39, .dat .int (x.1 : Int))], ob := fun x => [(10, some (.box 72 true (bx σ 10))), (13, some (.box 3 true (bx σ 13))), (14, some (.box 25 false [.dat tL x.2]))], inv := fun x => x.1 ≤ (gd tL σ 11).length + 1 ∧ U.whyFrom (gd tF σ 0, ()) (U.least (gd tF σ 0).2.1 (gd tL σ 11)) (gd tL σ 11) ((gd tL σ 11).length + 1 - x.1) x.1 x.2 = U.whyG (gd tF σ 0, ()) (gd tL σ 11), mu := fun x => (gd tL σ 11).length + 1 - x.1 }
  | _ => none
def vc30 : Prop :=
  ∀ (d : (List Int × Int × Unit) × List (Int × Int × Int × Int × Int × Int × Unit) × Int × Int × Unit),
  (U.check d.fst d.snd.fst = (0 : Int) → d.snd.fst.length ≤ (12 : Nat)) →
  (U.check (d.fst.fst, d.fst.snd.fst, ()) d.snd.fst = (0 : Int) → d.snd.fst.length ≤ (12 : Nat)) ∧
  (decide (U.frmErr (d.fst.fst, d.fst.snd.fst, ()) d.snd.fst d.snd.snd.fst d.snd.snd.snd.fst ≠ (0 : Int)) = true →
  ([], U.frmErr (d.fst.fst, d.fst.snd.fst, ()) d.snd.fst d.snd.snd.fst d.snd.snd.snd.fst, ()) = (U.whyP d.fst d.snd.fst d.snd.snd.fst d.snd.snd.snd.fst, U.frmErr d.fst d.snd.fst d.snd.snd.fst d.snd.snd.snd.fst, ())) ∧
  (decide (U.frmErr (d.fst.fst, d.fst.snd.fst, ()) d.snd.fst d.snd.snd.fst d.snd.snd.snd.fst ≠ (0 : Int)) = false →
  ((1 : Int) ≤ d.fst.snd.fst ∧ d.fst.snd.fst ≤ (10 : Int)) ∧
  (0 : Int) ≤ (0 : Int) ∧
  (0 : Int) <
  (↑(U.smallest d.fst.snd.fst
  (if U.frmErr (d.fst.fst, d.fst.snd.fst, ()) d.snd.fst d.snd.snd.fst d.snd.snd.snd.fst = (0 : Int) then List.filter (U.inFrame d.snd.snd.fst d.snd.snd.snd.fst) (U.heldG d.snd.fst) else [])).length :
  Int) ∧
  ((0 : Int) ≤
  nth (U.smallest d.fst.snd.fst (if U.frmErr (d.fst.fst, d.fst.snd.fst, ()) d.snd.fst d.snd.snd.fst d.snd.snd.snd.fst = (0 : Int) then List.filter (U.inFrame d.snd.snd.fst d.snd.snd.snd.fst) (U.heldG d.snd.fst) else []))
  (Int.toNat (0 : Int)) ∧
  nth (U.smallest d.fst.snd.fst (if U.frmErr (d.fst.fst, d.fst.snd.fst, ()) d.snd.fst d.snd.snd.fst d.snd.snd.snd.fst = (0 : Int) then List.filter (U.inFrame d.snd.snd.fst d.snd.snd.snd.fst) (U.heldG d.snd.fst) else []))
  (Int.toNat (0 : Int)) <
  (1024 : Int)) ∧
  ((if U.frmErr (d.fst.fst, d.fst.snd.fst, ()) d.snd.fst d.snd.snd.fst d.snd.snd.snd.fst = (0 : Int) then List.filter (U.inFrame d.snd.snd.fst d.snd.snd.snd.fst) (U.heldG d.snd.fst) else []).length <
  (4611686018427387904 : Nat) →
  In64
  ((↑(if U.frmErr (d.fst.fst, d.fst.snd.fst, ()) d.snd.fst d.snd.snd.fst d.snd.snd.snd.fst = (0 : Int) then List.filter (U.inFrame d.snd.snd.fst d.snd.snd.snd.fst) (U.heldG d.snd.fst) else []).length : Int) +
  (1 : Int)) ∧
  (∃ (x : Nat × List (Int × Int × Int × Int × Int × Int × Unit)),
  (((0 : Int) = (↑x.fst : Int) ∧ True) ∧
  (d.fst.fst = d.fst.fst ∧ d.fst.snd.fst = d.fst.snd.fst ∧ True) ∧
  (U.size
  (nth
  (U.smallest d.fst.snd.fst
  (if U.frmErr (d.fst.fst, d.fst.snd.fst, ()) d.snd.fst d.snd.snd.fst d.snd.snd.snd.fst = (0 : Int) then List.filter (U.inFrame d.snd.snd.fst d.snd.snd.snd.fst) (U.heldG d.snd.fst) else []))
  (Int.toNat (0 : Int))) =
  U.size
  (nth
  (U.smallest d.fst.snd.fst
  (if U.frmErr (d.fst.fst, d.fst.snd.fst, ()) d.snd.fst d.snd.snd.fst d.snd.snd.snd.fst = (0 : Int) then List.filter (U.inFrame d.snd.snd.fst d.snd.snd.snd.fst) (U.heldG d.snd.fst) else []))
  (Int.toNat (0 : Int))) ∧
  True) ∧
  ([] = x.snd ∧ True) ∧ True) ∧
  x.fst ≤
  (if U.frmErr (d.fst.fst, d.fst.snd.fst, ()) d.snd.fst d.snd.snd.fst d.snd.snd.snd.fst = (0 : Int) then List.filter (U.inFrame d.snd.snd.fst d.snd.snd.snd.fst) (U.heldG d.snd.fst) else []).length + (1 : Nat) ∧
  U.whyFrom (d.fst, ())
  (U.least d.fst.snd.fst
  (if U.frmErr (d.fst.fst, d.fst.snd.fst, ()) d.snd.fst d.snd.snd.fst d.snd.snd.snd.fst = (0 : Int) then List.filter (U.inFrame d.snd.snd.fst d.snd.snd.snd.fst) (U.heldG d.snd.fst) else []))
  (if U.frmErr (d.fst.fst, d.fst.snd.fst, ()) d.snd.fst d.snd.snd.fst d.snd.snd.snd.fst = (0 : Int) then List.filter (U.inFrame d.snd.snd.fst d.snd.snd.snd.fst) (U.heldG d.snd.fst) else [])
  ((if U.frmErr (d.fst.fst, d.fst.snd.fst, ()) d.snd.fst d.snd.snd.fst d.snd.snd.snd.fst = (0 : Int) then List.filter (U.inFrame d.snd.snd.fst d.snd.snd.snd.fst) (U.heldG d.snd.fst) else []).length +
  (1 : Nat) -
  x.fst)
  x.fst x.snd =
  U.whyG (d.fst, ())
  (if U.frmErr (d.fst.fst, d.fst.snd.fst, ()) d.snd.fst d.snd.snd.fst d.snd.snd.snd.fst = (0 : Int) then List.filter (U.inFrame d.snd.snd.fst d.snd.snd.snd.fst) (U.heldG d.snd.fst) else [])) ∧
  ∀ (x : Nat × List (Int × Int × Int × Int × Int × Int × Unit)),
  x.fst ≤
  (if U.frmErr (d.fst.fst, d.fst.snd.fst, ()) d.snd.fst d.snd.snd.fst d.snd.snd.snd.fst = (0 : Int) then List.filter (U.inFrame d.snd.snd.fst d.snd.snd.snd.fst) (U.heldG d.snd.fst) else []).length + (1 : Nat) ∧
  U.whyFrom (d.fst, ())
  (U.least d.fst.snd.fst
  (if U.frmErr (d.fst.fst, d.fst.snd.fst, ()) d.snd.fst d.snd.snd.fst d.snd.snd.snd.fst = (0 : Int) then List.filter (U.inFrame d.snd.snd.fst d.snd.snd.snd.fst) (U.heldG d.snd.fst) else []))
  (if U.frmErr (d.fst.fst, d.fst.snd.fst, ()) d.snd.fst d.snd.snd.fst d.snd.snd.snd.fst = (0 : Int) then List.filter (U.inFrame d.snd.snd.fst d.snd.snd.snd.fst) (U.heldG d.snd.fst) else [])
  ((if U.frmErr (d.fst.fst, d.fst.snd.fst, ()) d.snd.fst d.snd.snd.fst d.snd.snd.snd.fst = (0 : Int) then List.filter (U.inFrame d.snd.snd.fst d.snd.snd.snd.fst) (U.heldG d.snd.fst) else []).length +
  (1 : Nat) -
  x.fst)
  x.fst x.snd =
  U.whyG (d.fst, ()) (if U.frmErr (d.fst.fst, d.fst.snd.fst, ()) d.snd.fst d.snd.snd.fst d.snd.snd.snd.fst = (0 : Int) then List.filter (U.inFrame d.snd.snd.fst d.snd.snd.snd.fst) (U.heldG d.snd.fst) else []) →
  (decide
  ((↑x.fst : Int) <
  (↑(if U.frmErr (d.fst.fst, d.fst.snd.fst, ()) d.snd.fst d.snd.snd.fst d.snd.snd.snd.fst = (0 : Int) then List.filter (U.inFrame d.snd.snd.fst d.snd.snd.snd.fst) (U.heldG d.snd.fst) else []).length :
  Int) +
  (1 : Int)) =
  true →
  (0 : Int) ≤ (↑x.fst : Int) ∧
  (↑x.fst : Int) ≤ (1000 : Int) ∧
  (if U.frmErr (d.fst.fst, d.fst.snd.fst, ()) d.snd.fst d.snd.snd.fst d.snd.snd.snd.fst = (0 : Int) then List.filter (U.inFrame d.snd.snd.fst d.snd.snd.snd.fst) (U.heldG d.snd.fst) else []).length ≤
  (1000 : Nat) ∧
  U.subP (U.pre55 ((d.fst.fst, d.fst.snd.fst, ()), ()))
  (if U.frmErr (d.fst.fst, d.fst.snd.fst, ()) d.snd.fst d.snd.snd.fst d.snd.snd.snd.fst = (0 : Int) then List.filter (U.inFrame d.snd.snd.fst d.snd.snd.snd.fst) (U.heldG d.snd.fst) else []) ∧
  ((!(U.chooseK
  (if U.frmErr (d.fst.fst, d.fst.snd.fst, ()) d.snd.fst d.snd.snd.fst d.snd.snd.snd.fst = (0 : Int) then List.filter (U.inFrame d.snd.snd.fst d.snd.snd.snd.fst) (U.heldG d.snd.fst)
  else [])
  (U.K55 ((d.fst.fst, d.fst.snd.fst, ()), ())
  (U.size
  (nth
  (U.smallest d.fst.snd.fst
  (if U.frmErr (d.fst.fst, d.fst.snd.fst, ()) d.snd.fst d.snd.snd.fst d.snd.snd.snd.fst = (0 : Int) then List.filter (U.inFrame d.snd.snd.fst d.snd.snd.snd.fst) (U.heldG d.snd.fst)
  else []))
  (Int.toNat (0 : Int)))))
  (↑x.fst : Int).toNat x.snd).fst.fst) =
  true →
  ((U.chooseK
  (if U.frmErr (d.fst.fst, d.fst.snd.fst, ()) d.snd.fst d.snd.snd.fst d.snd.snd.snd.fst = (0 : Int) then List.filter (U.inFrame d.snd.snd.fst d.snd.snd.snd.fst) (U.heldG d.snd.fst) else [])
  (U.K55 ((d.fst.fst, d.fst.snd.fst, ()), ())
  (U.size
  (nth
  (U.smallest d.fst.snd.fst
  (if U.frmErr (d.fst.fst, d.fst.snd.fst, ()) d.snd.fst d.snd.snd.fst d.snd.snd.snd.fst = (0 : Int) then List.filter (U.inFrame d.snd.snd.fst d.snd.snd.snd.fst) (U.heldG d.snd.fst)
  else []))
  (Int.toNat (0 : Int)))))
  (↑x.fst : Int).toNat x.snd).snd,
  (0 : Int), ()) =
  (U.whyP d.fst d.snd.fst d.snd.snd.fst d.snd.snd.snd.fst, U.frmErr d.fst d.snd.fst d.snd.snd.fst d.snd.snd.snd.fst, ())) ∧
  ((!(U.chooseK
  (if U.frmErr (d.fst.fst, d.fst.snd.fst, ()) d.snd.fst d.snd.snd.fst d.snd.snd.snd.fst = (0 : Int) then List.filter (U.inFrame d.snd.snd.fst d.snd.snd.snd.fst) (U.heldG d.snd.fst)
  else [])
  (U.K55 ((d.fst.fst, d.fst.snd.fst, ()), ())
  (U.size
  (nth
  (U.smallest d.fst.snd.fst
  (if U.frmErr (d.fst.fst, d.fst.snd.fst, ()) d.snd.fst d.snd.snd.fst d.snd.snd.snd.fst = (0 : Int) then List.filter (U.inFrame d.snd.snd.fst d.snd.snd.snd.fst) (U.heldG d.snd.fst)
  else []))
  (Int.toNat (0 : Int)))))
  (↑x.fst : Int).toNat x.snd).fst.fst) =
  false →
  In64 ((↑x.fst : Int) + (1 : Int)) ∧
  ∃ (x' : Nat × List (Int × Int × Int × Int × Int × Int × Unit)),
  (((↑x.fst : Int) + (1 : Int) = (↑x'.fst : Int) ∧ True) ∧
  ((U.chooseK
  (if U.frmErr (d.fst.fst, d.fst.snd.fst, ()) d.snd.fst d.snd.snd.fst d.snd.snd.snd.fst = (0 : Int) then List.filter (U.inFrame d.snd.snd.fst d.snd.snd.snd.fst) (U.heldG d.snd.fst)
  else [])
  (U.K55 ((d.fst.fst, d.fst.snd.fst, ()), ())
  (U.size
  (nth
  (U.smallest d.fst.snd.fst
  (if U.frmErr (d.fst.fst, d.fst.snd.fst, ()) d.snd.fst d.snd.snd.fst d.snd.snd.snd.fst = (0 : Int) then
  List.filter (U.inFrame d.snd.snd.fst d.snd.snd.snd.fst) (U.heldG d.snd.fst)
  else []))
  (Int.toNat (0 : Int)))))
  (↑x.fst : Int).toNat x.snd).snd =
  x'.snd ∧
  True) ∧
  (d.fst.fst = d.fst.fst ∧ d.fst.snd.fst = d.fst.snd.fst ∧ True) ∧
  (U.size
  (nth
  (U.smallest d.fst.snd.fst
  (if U.frmErr (d.fst.fst, d.fst.snd.fst, ()) d.snd.fst d.snd.snd.fst d.snd.snd.snd.fst = (0 : Int) then
  List.filter (U.inFrame d.snd.snd.fst d.snd.snd.snd.fst) (U.heldG d.snd.fst)
  else []))
  (Int.toNat (0 : Int))) =
  U.size
  (nth
  (U.smallest d.fst.snd.fst
  (if U.frmErr (d.fst.fst, d.fst.snd.fst, ()) d.snd.fst d.snd.snd.fst d.snd.snd.snd.fst = (0 : Int) then
  List.filter (U.inFrame d.snd.snd.fst d.snd.snd.snd.fst) (U.heldG d.snd.fst)
  else []))
  (Int.toNat (0 : Int))) ∧
  True) ∧
  True) ∧
  (x'.fst ≤
  (if U.frmErr (d.fst.fst, d.fst.snd.fst, ()) d.snd.fst d.snd.snd.fst d.snd.snd.snd.fst = (0 : Int) then List.filter (U.inFrame d.snd.snd.fst d.snd.snd.snd.fst) (U.heldG d.snd.fst)
  else []).length +
  (1 : Nat) ∧
  U.whyFrom (d.fst, ())
  (U.least d.fst.snd.fst
  (if U.frmErr (d.fst.fst, d.fst.snd.fst, ()) d.snd.fst d.snd.snd.fst d.snd.snd.snd.fst = (0 : Int) then List.filter (U.inFrame d.snd.snd.fst d.snd.snd.snd.fst) (U.heldG d.snd.fst)
  else []))
  (if U.frmErr (d.fst.fst, d.fst.snd.fst, ()) d.snd.fst d.snd.snd.fst d.snd.snd.snd.fst = (0 : Int) then List.filter (U.inFrame d.snd.snd.fst d.snd.snd.snd.fst) (U.heldG d.snd.fst)
  else [])
  ((if U.frmErr (d.fst.fst, d.fst.snd.fst, ()) d.snd.fst d.snd.snd.fst d.snd.snd.snd.fst = (0 : Int) then List.filter (U.inFrame d.snd.snd.fst d.snd.snd.snd.fst) (U.heldG d.snd.fst)
  else []).length +
  (1 : Nat) -
  x'.fst)
  x'.fst x'.snd =
  U.whyG (d.fst, ())
  (if U.frmErr (d.fst.fst, d.fst.snd.fst, ()) d.snd.fst d.snd.snd.fst d.snd.snd.snd.fst = (0 : Int) then List.filter (U.inFrame d.snd.snd.fst d.snd.snd.snd.fst) (U.heldG d.snd.fst)
  else [])) ∧
  (if U.frmErr (d.fst.fst, d.fst.snd.fst, ()) d.snd.fst d.snd.snd.fst d.snd.snd.snd.fst = (0 : Int) then List.filter (U.inFrame d.snd.snd.fst d.snd.snd.snd.fst) (U.heldG d.snd.fst)
  else []).length +
  (1 : Nat) -
  x'.fst <
  (if U.frmErr (d.fst.fst, d.fst.snd.fst, ()) d.snd.fst d.snd.snd.fst d.snd.snd.snd.fst = (0 : Int) then List.filter (U.inFrame d.snd.snd.fst d.snd.snd.snd.fst) (U.heldG d.snd.fst)
  else []).length +
  (1 : Nat) -
  x.fst)) ∧
  (decide
  ((↑x.fst : Int) <
  (↑(if U.frmErr (d.fst.fst, d.fst.snd.fst, ()) d.snd.fst d.snd.snd.fst d.snd.snd.snd.fst = (0 : Int) then List.filter (U.inFrame d.snd.snd.fst d.snd.snd.snd.fst) (U.heldG d.snd.fst) else []).length :
  Int) +
  (1 : Int)) =
  false →
  (x.snd, (0 : Int), ()) = (U.whyP d.fst d.snd.fst d.snd.snd.fst d.snd.snd.snd.fst, U.frmErr d.fst d.snd.fst d.snd.snd.fst d.snd.snd.snd.fst, ()))))

theorem vc30_eq : fnVC (ctxE 50 [(50, sp50), (46, sp46), (53, sp53)] call54) (an30) Try.f30 (bodyOf Try.f30) sp30 = vc30 := by kernel_rfl


def sp56 : Spec := ⟨[.val tL, .val .int], [tL], false, fun d => [d.1.length ≤ 64], fun d => (U.chosen d.1 d.2.1, ())⟩
def an56 : Ann := fun r => match r with
  | 3 => some fun σ => { X := Nat, sl := fun i => [(5, .own 5 tG), (6, .dat .int (i : Int))], ob := fun i => [(5, some (.row 27 tG false .yes (U.chosenTo (gd tL σ 0) (gd .int σ 1) i)))], inv := fun i => i ≤ (gd tL σ 0).length, mu := fun i => (gd tL σ 0).length - i }
  | _ => none
def vc56 : Prop :=
  ∀ (d : List (Int × Int × Int × Int × Int × Int × Unit) × Int × Unit),
  d.fst.length ≤ (64 : Nat) →
  (∃ (x : Nat), ((True ∧ (0 : Int) = (↑x : Int) ∧ True) ∧ U.chosenTo d.fst d.snd.fst x = [] ∧ True) ∧ x ≤ d.fst.length) ∧
  ∀ (x : Nat),
  x ≤ d.fst.length →
  d.fst.length < (4611686018427387904 : Nat) →
  (decide ((↑x : Int) < (↑d.fst.length : Int)) = true →
  (0 : Int) ≤ (↑x : Int) ∧
  (↑x : Int) ≤ (18446744073709551615 : Int) ∧
  (0 : Int) ≤ (↑x : Int) ∧
  (↑x : Int) ≤ (64 : Int) ∧
  (decide (band (d.snd.fst / (2 : Int) ^ (↑x : Int).toNat) (1 : Int) = (1 : Int)) = true →
  (0 : Int) ≤ (↑x : Int) ∧
  (↑x : Int) < (↑d.fst.length : Int) ∧
  (List.length (U.chosenTo d.fst d.snd.fst x) + [nth d.fst (↑x : Int).toNat].length) * (48 : Nat) ≤ (140737488355328 : Nat) ∧
  In64 ((↑x : Int) + (1 : Int)) ∧
  ∃ (x' : Nat),
  (((↑x : Int) + (1 : Int) = (↑x' : Int) ∧ True ∧ True) ∧ U.chosenTo d.fst d.snd.fst x ++ [nth d.fst (↑x : Int).toNat] = U.chosenTo d.fst d.snd.fst x' ∧ True) ∧
  x' ≤ d.fst.length ∧ d.fst.length - x' < d.fst.length - x) ∧
  (decide (band (d.snd.fst / (2 : Int) ^ (↑x : Int).toNat) (1 : Int) = (1 : Int)) = false →
  In64 ((↑x : Int) + (1 : Int)) ∧
  ∃ (x' : Nat), ((True ∧ (↑x : Int) + (1 : Int) = (↑x' : Int) ∧ True) ∧ U.chosenTo d.fst d.snd.fst x = U.chosenTo d.fst d.snd.fst x' ∧ True) ∧ x' ≤ d.fst.length ∧ d.fst.length - x' < d.fst.length - x)) ∧
  (decide ((↑x : Int) < (↑d.fst.length : Int)) = false → (U.chosenTo d.fst d.snd.fst x, ()) = (U.chosen d.fst d.snd.fst, ()))

theorem vc56_eq : fnVC (ctx 27 [] []) (an56) Try.f56 (bodyOf Try.f56) sp56 = vc56 := by kernel_rfl


def sp57 : Spec := ⟨[.val .int, .val .int], [.bool], false, fun d => [0 ≤ d.1 ∧ d.1 < 4096, 0 ≤ d.2.1 ∧ d.2.1 < 4096], fun d => (U.earlier d.1 d.2.1, ())⟩
def vc57 : Prop :=
  ∀ (d : Int × Int × Unit),
  (0 : Int) ≤ d.fst ∧ d.fst < (4096 : Int) →
  (0 : Int) ≤ d.snd.fst ∧ d.snd.fst < (4096 : Int) →
  (decide (d.fst = d.snd.fst) = true → (false, ()) = (U.earlier d.fst d.snd.fst, ())) ∧
  (decide (d.fst = d.snd.fst) = false → In64 (-bxor d.fst d.snd.fst) ∧ (decide (band d.fst (band (bxor d.fst d.snd.fst) (-bxor d.fst d.snd.fst)) ≠ (0 : Int)), ()) = (U.earlier d.fst d.snd.fst, ()))

theorem vc57_eq : fnVC (ctx 21 [] []) (fun _ => none) Try.f57 (bodyOf Try.f57) sp57 = vc57 := by kernel_rfl


def sp32 : Spec := ⟨[.val tF, .val tL, .val .int, .val .int], [tL, .int], false, fun d => [U.check d.1 d.2.1 = 0 → d.2.1.length ≤ 12], fun d => (U.whyRP d.1 d.2.1 d.2.2.1 d.2.2.2.1, U.frameErr d.1 d.2.1 d.2.2.1 d.2.2.2.1, ())⟩
def an32 : Ann := fun r => match r with
  | 8 => some fun σ => { X := Nat, sl := fun i => [(14, .dat .int (i : Int)), (13, .dat .int (U.bestTo (gd tF σ 0).2.1 (gd tL σ 11) (gd .int σ 12) i))], ob := fun _ => [], inv := fun i => i ≤ 2 ^ (gd tL σ 11).length, mu := fun i => 2 ^ (gd tL σ 11).length - i }
  | _ => none
def vc32 : Prop :=
  ∀ (d : (List Int × Int × Unit) × List (Int × Int × Int × Int × Int × Int × Unit) × Int × Int × Unit),
  (U.check d.fst d.snd.fst = (0 : Int) → d.snd.fst.length ≤ (12 : Nat)) →
  (decide (U.frameErr (d.fst.fst, d.fst.snd.fst, ()) d.snd.fst d.snd.snd.fst d.snd.snd.snd.fst ≠ (0 : Int)) = true →
  ([], U.frameErr (d.fst.fst, d.fst.snd.fst, ()) d.snd.fst d.snd.snd.fst d.snd.snd.snd.fst, ()) = (U.whyRP d.fst d.snd.fst d.snd.snd.fst d.snd.snd.snd.fst, U.frameErr d.fst d.snd.fst d.snd.snd.fst d.snd.snd.snd.fst, ())) ∧
  (decide (U.frameErr (d.fst.fst, d.fst.snd.fst, ()) d.snd.fst d.snd.snd.fst d.snd.snd.snd.fst ≠ (0 : Int)) = false →
  d.snd.fst.length ≤ (100000 : Nat) ∧
  (∀ (g : Int × Int × Int × Int × Int × Int × Unit), g ∈ d.snd.fst → (0 : Int) < U.to g ∧ U.to g ≤ (1000 : Int)) ∧
  ((1 : Int) ≤ d.fst.snd.fst ∧ d.fst.snd.fst ≤ (10 : Int)) ∧
  U.smallest d.fst.snd.fst (U.at' d.snd.fst d.snd.snd.fst d.snd.snd.snd.fst) ≠ [] ∧
  (∃ (x : Nat),
  (((0 : Int) = (↑x : Int) ∧ (-1 : Int) = U.bestTo d.fst.snd.fst (U.at' d.snd.fst d.snd.snd.fst d.snd.snd.snd.fst) (U.least d.fst.snd.fst (U.at' d.snd.fst d.snd.snd.fst d.snd.snd.snd.fst)) x ∧ True) ∧ True) ∧
  x ≤ (2 : Nat) ^ (U.at' d.snd.fst d.snd.snd.fst d.snd.snd.snd.fst).length) ∧
  ∀ (x : Nat),
  x ≤ (2 : Nat) ^ (U.at' d.snd.fst d.snd.snd.fst d.snd.snd.snd.fst).length →
  (U.at' d.snd.fst d.snd.snd.fst d.snd.snd.snd.fst).length < (4611686018427387904 : Nat) →
  (0 : Int) ≤ (↑(U.at' d.snd.fst d.snd.snd.fst d.snd.snd.snd.fst).length : Int) ∧
  (↑(U.at' d.snd.fst d.snd.snd.fst d.snd.snd.snd.fst).length : Int) ≤ (18446744073709551615 : Int) ∧
  (0 : Int) ≤ (↑(U.at' d.snd.fst d.snd.snd.fst d.snd.snd.snd.fst).length : Int) ∧
  (↑(U.at' d.snd.fst d.snd.snd.fst d.snd.snd.snd.fst).length : Int) ≤ (64 : Int) ∧
  In64 ((1 : Int) * (2 : Int) ^ (↑(U.at' d.snd.fst d.snd.snd.fst d.snd.snd.snd.fst).length : Int).toNat) ∧
  (decide ((↑x : Int) < (1 : Int) * (2 : Int) ^ (↑(U.at' d.snd.fst d.snd.snd.fst d.snd.snd.snd.fst).length : Int).toNat) = true →
  (U.at' d.snd.fst d.snd.snd.fst d.snd.snd.snd.fst).length ≤ (64 : Nat) ∧
  ((1 : Int) ≤ d.fst.snd.fst ∧ d.fst.snd.fst ≤ (10 : Int)) ∧
  U.smallest d.fst.snd.fst (U.chosen (U.at' d.snd.fst d.snd.snd.fst d.snd.snd.snd.fst) (↑x : Int)) ≠ [] ∧
  (decide (U.least d.fst.snd.fst (U.chosen (U.at' d.snd.fst d.snd.snd.fst d.snd.snd.snd.fst) (↑x : Int)) < U.least d.fst.snd.fst (U.at' d.snd.fst d.snd.snd.fst d.snd.snd.snd.fst)) = true →
  In64 ((↑x : Int) + (1 : Int)) ∧
  ∃ (x' : Nat),
  ((U.bestTo d.fst.snd.fst (U.at' d.snd.fst d.snd.snd.fst d.snd.snd.snd.fst) (U.least d.fst.snd.fst (U.at' d.snd.fst d.snd.snd.fst d.snd.snd.snd.fst)) x =
  U.bestTo d.fst.snd.fst (U.at' d.snd.fst d.snd.snd.fst d.snd.snd.snd.fst) (U.least d.fst.snd.fst (U.at' d.snd.fst d.snd.snd.fst d.snd.snd.snd.fst)) x' ∧
  (↑x : Int) + (1 : Int) = (↑x' : Int) ∧ True) ∧
  True) ∧
  x' ≤ (2 : Nat) ^ (U.at' d.snd.fst d.snd.snd.fst d.snd.snd.snd.fst).length ∧
  (2 : Nat) ^ (U.at' d.snd.fst d.snd.snd.fst d.snd.snd.snd.fst).length - x' < (2 : Nat) ^ (U.at' d.snd.fst d.snd.snd.fst d.snd.snd.snd.fst).length - x) ∧
  (decide (U.least d.fst.snd.fst (U.chosen (U.at' d.snd.fst d.snd.snd.fst d.snd.snd.snd.fst) (↑x : Int)) < U.least d.fst.snd.fst (U.at' d.snd.fst d.snd.snd.fst d.snd.snd.snd.fst)) = false →
  (U.at' d.snd.fst d.snd.snd.fst d.snd.snd.snd.fst).length ≤ (64 : Nat) ∧
  (List.length (U.chosen (U.at' d.snd.fst d.snd.snd.fst d.snd.snd.snd.fst) (↑x : Int)) < (4611686018427387904 : Nat) →
  (U.at' d.snd.fst d.snd.snd.fst d.snd.snd.snd.fst).length ≤ (64 : Nat) ∧
  (List.length
  (U.chosen (U.at' d.snd.fst d.snd.snd.fst d.snd.snd.snd.fst)
  (U.bestTo d.fst.snd.fst (U.at' d.snd.fst d.snd.snd.fst d.snd.snd.snd.fst) (U.least d.fst.snd.fst (U.at' d.snd.fst d.snd.snd.fst d.snd.snd.snd.fst)) x)) <
  (4611686018427387904 : Nat) →
  ((!(decide (U.bestTo d.fst.snd.fst (U.at' d.snd.fst d.snd.snd.fst d.snd.snd.snd.fst) (U.least d.fst.snd.fst (U.at' d.snd.fst d.snd.snd.fst d.snd.snd.snd.fst)) x < (0 : Int)) ||
  decide
  ((↑(List.length (U.chosen (U.at' d.snd.fst d.snd.snd.fst d.snd.snd.snd.fst) (↑x : Int))) : Int) <
  (↑(List.length
  (U.chosen (U.at' d.snd.fst d.snd.snd.fst d.snd.snd.snd.fst)
  (U.bestTo d.fst.snd.fst (U.at' d.snd.fst d.snd.snd.fst d.snd.snd.snd.fst) (U.least d.fst.snd.fst (U.at' d.snd.fst d.snd.snd.fst d.snd.snd.snd.fst)) x))) :
  Int))) &&
  decide
  ((↑(List.length (U.chosen (U.at' d.snd.fst d.snd.snd.fst d.snd.snd.snd.fst) (↑x : Int))) : Int) =
  (↑(List.length
  (U.chosen (U.at' d.snd.fst d.snd.snd.fst d.snd.snd.snd.fst)
  (U.bestTo d.fst.snd.fst (U.at' d.snd.fst d.snd.snd.fst d.snd.snd.snd.fst) (U.least d.fst.snd.fst (U.at' d.snd.fst d.snd.snd.fst d.snd.snd.snd.fst)) x))) :
  Int))) =
  true →
  (0 : Int) ≤ (↑x : Int) ∧ (↑x : Int) < (4096 : Int)) ∧
  ((!(decide (U.bestTo d.fst.snd.fst (U.at' d.snd.fst d.snd.snd.fst d.snd.snd.snd.fst) (U.least d.fst.snd.fst (U.at' d.snd.fst d.snd.snd.fst d.snd.snd.snd.fst)) x < (0 : Int)) ||
  decide
  ((↑(List.length (U.chosen (U.at' d.snd.fst d.snd.snd.fst d.snd.snd.snd.fst) (↑x : Int))) : Int) <
  (↑(List.length
  (U.chosen (U.at' d.snd.fst d.snd.snd.fst d.snd.snd.snd.fst)
  (U.bestTo d.fst.snd.fst (U.at' d.snd.fst d.snd.snd.fst d.snd.snd.snd.fst) (U.least d.fst.snd.fst (U.at' d.snd.fst d.snd.snd.fst d.snd.snd.snd.fst)) x))) :
  Int))) &&
  decide
  ((↑(List.length (U.chosen (U.at' d.snd.fst d.snd.snd.fst d.snd.snd.snd.fst) (↑x : Int))) : Int) =
  (↑(List.length
  (U.chosen (U.at' d.snd.fst d.snd.snd.fst d.snd.snd.snd.fst)
  (U.bestTo d.fst.snd.fst (U.at' d.snd.fst d.snd.snd.fst d.snd.snd.snd.fst) (U.least d.fst.snd.fst (U.at' d.snd.fst d.snd.snd.fst d.snd.snd.snd.fst)) x))) :
  Int))) =
  true →
  (0 : Int) ≤ U.bestTo d.fst.snd.fst (U.at' d.snd.fst d.snd.snd.fst d.snd.snd.snd.fst) (U.least d.fst.snd.fst (U.at' d.snd.fst d.snd.snd.fst d.snd.snd.snd.fst)) x ∧
  U.bestTo d.fst.snd.fst (U.at' d.snd.fst d.snd.snd.fst d.snd.snd.snd.fst) (U.least d.fst.snd.fst (U.at' d.snd.fst d.snd.snd.fst d.snd.snd.snd.fst)) x < (4096 : Int)) ∧
  ((decide (U.bestTo d.fst.snd.fst (U.at' d.snd.fst d.snd.snd.fst d.snd.snd.snd.fst) (U.least d.fst.snd.fst (U.at' d.snd.fst d.snd.snd.fst d.snd.snd.snd.fst)) x < (0 : Int)) ||
  decide
  ((↑(List.length (U.chosen (U.at' d.snd.fst d.snd.snd.fst d.snd.snd.snd.fst) (↑x : Int))) : Int) <
  (↑(List.length
  (U.chosen (U.at' d.snd.fst d.snd.snd.fst d.snd.snd.snd.fst)
  (U.bestTo d.fst.snd.fst (U.at' d.snd.fst d.snd.snd.fst d.snd.snd.snd.fst) (U.least d.fst.snd.fst (U.at' d.snd.fst d.snd.snd.fst d.snd.snd.snd.fst)) x))) :
  Int)) ||
  decide
  ((↑(List.length (U.chosen (U.at' d.snd.fst d.snd.snd.fst d.snd.snd.snd.fst) (↑x : Int))) : Int) =
  (↑(List.length
  (U.chosen (U.at' d.snd.fst d.snd.snd.fst d.snd.snd.snd.fst)
  (U.bestTo d.fst.snd.fst (U.at' d.snd.fst d.snd.snd.fst d.snd.snd.snd.fst) (U.least d.fst.snd.fst (U.at' d.snd.fst d.snd.snd.fst d.snd.snd.snd.fst)) x))) :
  Int)) &&
  U.earlier (↑x : Int)
  (U.bestTo d.fst.snd.fst (U.at' d.snd.fst d.snd.snd.fst d.snd.snd.snd.fst) (U.least d.fst.snd.fst (U.at' d.snd.fst d.snd.snd.fst d.snd.snd.snd.fst)) x)) =
  true →
  In64 ((↑x : Int) + (1 : Int)) ∧
  ∃ (x' : Nat),
  (((↑x : Int) + (1 : Int) = (↑x' : Int) ∧
  (↑x : Int) = U.bestTo d.fst.snd.fst (U.at' d.snd.fst d.snd.snd.fst d.snd.snd.snd.fst) (U.least d.fst.snd.fst (U.at' d.snd.fst d.snd.snd.fst d.snd.snd.snd.fst)) x' ∧
  True) ∧
  True) ∧
  x' ≤ (2 : Nat) ^ (U.at' d.snd.fst d.snd.snd.fst d.snd.snd.snd.fst).length ∧
  (2 : Nat) ^ (U.at' d.snd.fst d.snd.snd.fst d.snd.snd.snd.fst).length - x' < (2 : Nat) ^ (U.at' d.snd.fst d.snd.snd.fst d.snd.snd.snd.fst).length - x) ∧
  ((decide (U.bestTo d.fst.snd.fst (U.at' d.snd.fst d.snd.snd.fst d.snd.snd.snd.fst) (U.least d.fst.snd.fst (U.at' d.snd.fst d.snd.snd.fst d.snd.snd.snd.fst)) x < (0 : Int)) ||
  decide
  ((↑(List.length (U.chosen (U.at' d.snd.fst d.snd.snd.fst d.snd.snd.snd.fst) (↑x : Int))) : Int) <
  (↑(List.length
  (U.chosen (U.at' d.snd.fst d.snd.snd.fst d.snd.snd.snd.fst)
  (U.bestTo d.fst.snd.fst (U.at' d.snd.fst d.snd.snd.fst d.snd.snd.snd.fst) (U.least d.fst.snd.fst (U.at' d.snd.fst d.snd.snd.fst d.snd.snd.snd.fst)) x))) :
  Int)) ||
  decide
  ((↑(List.length (U.chosen (U.at' d.snd.fst d.snd.snd.fst d.snd.snd.snd.fst) (↑x : Int))) : Int) =
  (↑(List.length
  (U.chosen (U.at' d.snd.fst d.snd.snd.fst d.snd.snd.snd.fst)
  (U.bestTo d.fst.snd.fst (U.at' d.snd.fst d.snd.snd.fst d.snd.snd.snd.fst) (U.least d.fst.snd.fst (U.at' d.snd.fst d.snd.snd.fst d.snd.snd.snd.fst)) x))) :
  Int)) &&
  U.earlier (↑x : Int)
  (U.bestTo d.fst.snd.fst (U.at' d.snd.fst d.snd.snd.fst d.snd.snd.snd.fst) (U.least d.fst.snd.fst (U.at' d.snd.fst d.snd.snd.fst d.snd.snd.snd.fst)) x)) =
  false →
  In64 ((↑x : Int) + (1 : Int)) ∧
  ∃ (x' : Nat),
  ((U.bestTo d.fst.snd.fst (U.at' d.snd.fst d.snd.snd.fst d.snd.snd.snd.fst) (U.least d.fst.snd.fst (U.at' d.snd.fst d.snd.snd.fst d.snd.snd.snd.fst)) x =
  U.bestTo d.fst.snd.fst (U.at' d.snd.fst d.snd.snd.fst d.snd.snd.snd.fst) (U.least d.fst.snd.fst (U.at' d.snd.fst d.snd.snd.fst d.snd.snd.snd.fst)) x' ∧
  (↑x : Int) + (1 : Int) = (↑x' : Int) ∧ True) ∧
  True) ∧
  x' ≤ (2 : Nat) ^ (U.at' d.snd.fst d.snd.snd.fst d.snd.snd.snd.fst).length ∧
  (2 : Nat) ^ (U.at' d.snd.fst d.snd.snd.fst d.snd.snd.snd.fst).length - x' < (2 : Nat) ^ (U.at' d.snd.fst d.snd.snd.fst d.snd.snd.snd.fst).length - x))))) ∧
  (decide ((↑x : Int) < (1 : Int) * (2 : Int) ^ (↑(U.at' d.snd.fst d.snd.snd.fst d.snd.snd.snd.fst).length : Int).toNat) = false →
  (U.at' d.snd.fst d.snd.snd.fst d.snd.snd.snd.fst).length ≤ (64 : Nat) ∧
  (U.chosen (U.at' d.snd.fst d.snd.snd.fst d.snd.snd.snd.fst)
  (U.bestTo d.fst.snd.fst (U.at' d.snd.fst d.snd.snd.fst d.snd.snd.snd.fst) (U.least d.fst.snd.fst (U.at' d.snd.fst d.snd.snd.fst d.snd.snd.snd.fst)) x),
  (0 : Int), ()) =
  (U.whyRP d.fst d.snd.fst d.snd.snd.fst d.snd.snd.snd.fst, U.frameErr d.fst d.snd.fst d.snd.snd.fst d.snd.snd.snd.fst, ())))

theorem vc32_eq : fnVC (ctx 76 [(14, sp14), (16, sp16), (31, sp31), (56, sp56), (57, sp57)] []) (an32) Try.f32 (bodyOf Try.f32) sp32 = vc32 := by kernel_rfl


def sp33 : Spec := ⟨[.val tL, .val tL], [.bool], false, fun d => [d.1.length ≤ 100000], fun d => (U.sameL d.1 d.2.1, ())⟩
def an33 : Ann := fun r => match r with
  | 4 => some fun σ => { X := Nat, sl := fun i => [(5, .dat .int (i : Int))], ob := fun _ => [], inv := fun i => i ≤ (gd tL σ 0).length ∧ (gd tL σ 0).take i = (gd tL σ 1).take i, mu := fun i => (gd tL σ 0).length - i }
  | _ => none
def vc33 : Prop :=
  ∀ (d : List (Int × Int × Int × Int × Int × Int × Unit) × List (Int × Int × Int × Int × Int × Int × Unit) × Unit),
  d.fst.length ≤ (100000 : Nat) →
  d.fst.length < (4611686018427387904 : Nat) →
  d.snd.fst.length < (4611686018427387904 : Nat) →
  (decide ((↑d.fst.length : Int) ≠ (↑d.snd.fst.length : Int)) = true → (false, ()) = (U.sameL d.fst d.snd.fst, ())) ∧
  (decide ((↑d.fst.length : Int) ≠ (↑d.snd.fst.length : Int)) = false →
  (∃ (x : Nat), (((0 : Int) = (↑x : Int) ∧ True) ∧ True) ∧ x ≤ d.fst.length ∧ List.take x d.fst = List.take x d.snd.fst) ∧
  ∀ (x : Nat),
  x ≤ d.fst.length ∧ List.take x d.fst = List.take x d.snd.fst →
  d.fst.length < (4611686018427387904 : Nat) →
  (decide ((↑x : Int) < (↑d.fst.length : Int)) = true →
  (0 : Int) ≤ (↑x : Int) ∧
  (↑x : Int) < (↑d.fst.length : Int) ∧
  (0 : Int) ≤ (↑x : Int) ∧
  (↑x : Int) < (↑d.snd.fst.length : Int) ∧
  ((!decide (nth d.fst (↑x : Int).toNat = nth d.snd.fst (↑x : Int).toNat)) = true → (false, ()) = (U.sameL d.fst d.snd.fst, ())) ∧
  ((!decide (nth d.fst (↑x : Int).toNat = nth d.snd.fst (↑x : Int).toNat)) = false →
  In64 ((↑x : Int) + (1 : Int)) ∧
  ∃ (x' : Nat), (((↑x : Int) + (1 : Int) = (↑x' : Int) ∧ True) ∧ True) ∧ (x' ≤ d.fst.length ∧ List.take x' d.fst = List.take x' d.snd.fst) ∧ d.fst.length - x' < d.fst.length - x)) ∧
  (decide ((↑x : Int) < (↑d.fst.length : Int)) = false → (true, ()) = (U.sameL d.fst d.snd.fst, ())))

theorem vc33_eq : fnVC (ctx 26 [] []) (an33) Try.f33 (bodyOf Try.f33) sp33 = vc33 := by kernel_rfl


end Go.X
/-
  What is asked of the law 'GlossesWhy'.
-/
namespace Go.X
open Go.Proofs

def sp9 : Spec := lawSpec [tF, .slice tG, tSpot]
def vc9 : Prop :=
  ∀ (d : (List Int × Int × Unit) × List (Int × Int × Int × Int × Int × Int × Unit) × (Int × Int × Int × Int × Int × Unit) × Unit),
  fitsAll (1048576 : Nat)
  [Ty.int.slice.pair (Ty.int.pair Ty.unit), (Ty.int.pair (Ty.int.pair (Ty.int.pair (Ty.int.pair (Ty.int.pair (Ty.int.pair Ty.unit)))))).slice, Ty.int.pair (Ty.int.pair (Ty.int.pair (Ty.int.pair (Ty.int.pair Ty.unit))))] d →
  (U.far (d.fst.fst, d.fst.snd.fst, ()) d.snd.fst = true → (true, ()) = (true, ())) ∧
  (U.far (d.fst.fst, d.fst.snd.fst, ()) d.snd.fst = false →
  d.fst.fst.length ≤ (2000000 : Nat) ∧
  d.snd.fst.length ≤ (2000000 : Nat) ∧
  (U.check (d.fst.fst, d.fst.snd.fst, ()) d.snd.fst = (0 : Int) → d.snd.fst.length ≤ (12 : Nat)) ∧
  (U.check (d.fst.fst, d.fst.snd.fst, ()) d.snd.fst = (0 : Int) → d.snd.fst.length ≤ (12 : Nat)) ∧
  List.length (U.whyP (d.fst.fst, d.fst.snd.fst, ()) d.snd.fst d.snd.snd.fst.fst d.snd.snd.fst.snd.fst) ≤ (100000 : Nat) ∧
  (U.sameL (U.whyP (d.fst.fst, d.fst.snd.fst, ()) d.snd.fst d.snd.snd.fst.fst d.snd.snd.fst.snd.fst) (U.whyRP (d.fst.fst, d.fst.snd.fst, ()) d.snd.fst d.snd.snd.fst.fst d.snd.snd.fst.snd.fst) &&
  decide (U.frmErr (d.fst.fst, d.fst.snd.fst, ()) d.snd.fst d.snd.snd.fst.fst d.snd.snd.fst.snd.fst = U.frameErr (d.fst.fst, d.fst.snd.fst, ()) d.snd.fst d.snd.snd.fst.fst d.snd.snd.fst.snd.fst) &&
  true,
  ()) =
  (true, ()))

theorem vc9_eq : fnVC (ctx 48 [(24, sp24), (15, sp15), (25, sp25), (30, sp30), (32, sp32), (33, sp33)] [(12, so12)]) (fun _ => none) Try.f9 (bodyOf Try.f9) sp9 = vc9 := by kernel_rfl


end Go.X
/-
  The statement 'GlossesWhy' is true of what the program computes.
-/
namespace Go.X
open Go.Proofs

theorem chosenTo_succ {l : LG} {set : Int} {i : Nat} : U.chosenTo l set (i + 1) = U.chosenTo l set i ++ (if band (set / 2 ^ i) 1 = 1 then [nth l i] else []) := by
  unfold U.chosenTo
  rw [List.range_succ, List.filter_append, List.map_append]
  congr 1
  by_cases h : band (set / 2 ^ i) 1 = 1
  · rw [if_pos h, List.filter_cons_of_pos (by simpa using h)]; rfl
  · rw [if_neg h, List.filter_cons_of_neg (by simpa using h)]; rfl

theorem chosenTo_len (l : LG) (set : Int) (i : Nat) : (U.chosenTo l set i).length ≤ i := by
  unfold U.chosenTo
  rw [List.length_map]
  exact Nat.le_trans (List.length_filter_le _ _) (by simp)

theorem h56 : vc56 := by
  rintro ⟨l, set, ⟨⟩⟩ hlen
  simp only at hlen ⊢
  refine ⟨⟨0, ⟨⟨trivial, rfl, trivial⟩, rfl, trivial⟩, Nat.zero_le _⟩, fun x hx _ => ⟨fun hc => ?_, fun hc => ?_⟩⟩
  · have hc : x < l.length := by have := of_decide_eq_true hc; omega
    have hl := chosenTo_len l set x
    simp only [Int.toNat_natCast]
    refine ⟨by omega, by omega, by omega, by omega, fun hb => ?_, fun hb => ?_⟩
    · have hb : band (set / 2 ^ x) 1 = 1 := of_decide_eq_true hb
      refine ⟨by omega, by omega, by simp; omega, L.in64 (by omega) (by omega), x + 1, ⟨⟨by simp, trivial, trivial⟩, ?_, trivial⟩, by omega, by omega⟩
      rw [chosenTo_succ, if_pos hb]
    · have hb : ¬ band (set / 2 ^ x) 1 = 1 := of_decide_eq_false hb
      refine ⟨L.in64 (by omega) (by omega), x + 1, ⟨⟨trivial, by simp, trivial⟩, ?_, trivial⟩, by omega, by omega⟩
      rw [chosenTo_succ, if_neg hb, List.append_nil]
  · have hc : l.length ≤ x := by have := of_decide_eq_false hc; omega
    rw [show x = l.length from by omega]
    rfl

theorem ok56 : FnOK PR 56 sp56 := mkFn (vc56_eq.mpr h56) Try.func56 (by kernel_rfl) (by kernel_rfl) (by kernel_rfl) (by kernel_rfl) trivial trivial

theorem h57 : vc57 := by
  rintro ⟨a, b, ⟨⟩⟩ ha hb
  simp only at ha hb ⊢
  refine ⟨fun h => ?_, fun h => ⟨?_, ?_⟩⟩
  · have h : a = b := of_decide_eq_true h
    unfold U.earlier
    rw [if_pos h]
  · obtain ⟨n, rfl⟩ := Int.eq_ofNat_of_zero_le ha.1
    obtain ⟨m, rfl⟩ := Int.eq_ofNat_of_zero_le hb.1
    have := Nat.xor_lt_two_pow (x := n) (y := m) (n := 12) (by omega) (by omega)
    rw [M.bxor_nat (by omega) (by omega)]
    exact L.in64 (by omega) (by omega)
  · have h : ¬ a = b := of_decide_eq_false h
    unfold U.earlier
    rw [if_neg h]

theorem ok57 : FnOK PR 57 sp57 := mkFn (vc57_eq.mpr h57) Try.func57 (by kernel_rfl) (by kernel_rfl) (by kernel_rfl) (by kernel_rfl) trivial trivial

theorem sameL_iff : ∀ {a b : LG}, U.sameL a b = true ↔ a = b
  | [], [] => by simp [U.sameL]
  | [], _ :: _ => by simp [U.sameL]
  | _ :: _, [] => by simp [U.sameL]
  | a :: x, b :: y => by
    unfold U.sameL
    rw [Bool.and_eq_true, decide_eq_true_iff, sameL_iff, List.cons.injEq]

theorem h33 : vc33 := by
  rintro ⟨a, b, ⟨⟩⟩ hlen _ _
  simp only at hlen ⊢
  refine ⟨fun h => ?_, fun h => ?_⟩
  · have h : (a.length : Int) ≠ (b.length : Int) := of_decide_eq_true h
    have : U.sameL a b = false := by
      rw [Bool.eq_false_iff]
      intro e
      rw [sameL_iff] at e
      subst e; exact h rfl
    rw [this]
  · have h : (a.length : Int) = (b.length : Int) := Classical.byContradiction (of_decide_eq_false h)
    refine ⟨⟨0, ⟨⟨rfl, trivial⟩, trivial⟩, Nat.zero_le _, rfl⟩, fun x hx _ => ⟨fun hc => ?_, fun hc => ?_⟩⟩
    · have hc : x < a.length := by have := of_decide_eq_true hc; omega
      simp only [Int.toNat_natCast]
      refine ⟨by omega, by omega, by omega, by omega, fun hb => ?_, fun hb => ?_⟩
      · have hb : ¬ nth a x = nth b x := by simpa using hb
        have : U.sameL a b = false := by
          rw [Bool.eq_false_iff]
          intro e
          rw [sameL_iff] at e
          exact hb (by rw [e])
        rw [this]
      · have hb : nth a x = nth b x := by simpa using hb
        exact ⟨L.in64 (by omega) (by omega), x + 1, ⟨⟨by simp, trivial⟩, trivial⟩, ⟨by omega, by rw [L.take_succ (by omega), L.take_succ (by omega), hx.2, hb]⟩, by omega⟩
    · have hc : a.length ≤ x := by have := of_decide_eq_false hc; omega
      have h2 := hx.2
      rw [List.take_of_length_le (by omega), List.take_of_length_le (by omega)] at h2
      rw [sameL_iff.2 h2]

theorem ok33 : FnOK PR 33 sp33 := mkFn (vc33_eq.mpr h33) Try.func33 (by kernel_rfl) (by kernel_rfl) (by kernel_rfl) (by kernel_rfl) trivial trivial

/-! ### 'Why' -/

theorem sub_sg {s : Nat} {l c : LG} (hl : ∀ g ∈ l, M.Sg s g) (h : c.Sublist l) : ∀ g ∈ c, M.Sg s g := fun g hg => hl g (h.subset hg)

theorem pre_55 {f : FD × Unit} {l : LG} (hs : 1 ≤ f.1.2.1 ∧ f.1.2.1 ≤ 10) (hl : ∀ g ∈ l, M.Sg f.1.2.1.toNat g) : U.subP (U.pre55 f) l := fun c hc => by
  obtain ⟨hne, h, e, hb⟩ := M.best (s := f.1.2.1) (by omega) hs.2 (sub_sg hl hc)
  have := hb.lt
  have hp : (2 : Nat) ^ f.1.2.1.toNat ≤ 2 ^ 10 := Nat.pow_le_pow_right (by omega) (by omega)
  exact ⟨hs, hne, by simp only; omega, trivial⟩

theorem whyFrom_step {f : FD × Unit} {n : Int} {l : LG} {k m : Nat} {s : LG} : U.whyFrom f n l (k + 1) m s = match U.chooseK l (U.K55 f n) m s with
    | ((true, _), s') => U.whyFrom f n l k (m + 1) s'
    | ((false, _), s') => s' := rfl

theorem h30 : vc30 := by
  rintro ⟨⟨fr, s, ⟨⟩⟩, l, film, frame, ⟨⟩⟩ hpre
  simp only at hpre ⊢
  refine ⟨hpre, fun h => ?_, fun h => ?_⟩
  · have h : U.frmErr (fr, s, ()) l film frame ≠ 0 := of_decide_eq_true h
    unfold U.whyP
    rw [if_neg h]
  · have h : U.frmErr (fr, s, ()) l film frame = 0 := Classical.byContradiction (of_decide_eq_false h)
    obtain ⟨c, _⟩ := frm_zero h
    have hok := ok_of c
    have hs := hok.s
    simp only at hs
    have hl : ∀ g ∈ (U.heldG l).filter (U.inFrame film frame), M.Sg s.toNat g := frame_sg hok (U.inFrame film frame)
    have hlen : ((U.heldG l).filter (U.inFrame film frame)).length ≤ 12 := Nat.le_trans (List.length_filter_le _ _) (Nat.le_trans (heldG_len l) (hpre c))
    have hw : U.whyP (fr, s, ()) l film frame = U.whyG ((fr, s, ()), ()) ((U.heldG l).filter (U.inFrame film frame)) := by
      unfold U.whyP
      rw [if_pos h]
    rw [hw]
    simp only [h, if_true]
    generalize (U.heldG l).filter (U.inFrame film frame) = L at hl hlen
    have hsub := pre_55 (f := ((fr, s, ()), ())) hs hl
    obtain ⟨_, p2, p3, _⟩ := hsub L (List.Sublist.refl L)
    simp only at p2 p3
    have hpos := List.length_pos_iff.2 p2
    have e0 : U.size (nth (U.smallest s L) 0) = U.least s L := rfl
    simp only [show Int.toNat (0 : Int) = 0 from rfl, e0]
    refine ⟨hs, by omega, by omega, p3, fun _ => ⟨Go.X.L.in64 (by omega) (by omega), ⟨(0, []), ⟨⟨rfl, trivial⟩, by simp, by simp, ⟨rfl, trivial⟩, trivial⟩, Nat.zero_le _, rfl⟩, fun x hx => ?_⟩⟩
    obtain ⟨i, s1⟩ := x
    obtain ⟨hi, hx2⟩ := hx
    simp only at hi hx2 ⊢
    refine ⟨fun hc => ?_, fun hc => ?_⟩
    · have hc : i < L.length + 1 := by have := of_decide_eq_true hc; omega
      simp only [Int.toNat_natCast]
      rw [show L.length + 1 - i = (L.length - i) + 1 from by omega, whyFrom_step] at hx2
      generalize U.chooseK L (U.K55 ((fr, s, ()), ()) (U.least s L)) i s1 = R at hx2 ⊢
      obtain ⟨⟨t, u⟩, s'⟩ := R
      refine ⟨by omega, by omega, by omega, hsub, fun ht => ?_, fun ht => ?_⟩
      · have ht : t = false := by simpa using ht
        subst ht
        rw [← hx2]
      · have ht : t = true := by simpa using ht
        subst ht
        refine ⟨Go.X.L.in64 (by omega) (by omega), (i + 1, s'), ⟨⟨by simp, trivial⟩, ⟨rfl, trivial⟩, by simp, by simp, trivial⟩, ⟨hc, ?_⟩, by simp only; omega⟩
        simp only
        rw [show L.length + 1 - (i + 1) = L.length - i from by omega]
        exact hx2
    · have hc : ¬ i < L.length + 1 := by have := of_decide_eq_false hc; omega
      rw [show L.length + 1 - i = 0 from by omega] at hx2
      rw [← hx2]
      rfl

theorem ok30 : FnOK PR 30 sp30 :=
  fn_ok (ctxE_ok (n := 50) (fs := [(50, sp50), (46, sp46), (53, sp53)]) (e := call54) ⟨fun _ => ok50, fun _ => ok46, fun _ => ok53, trivial⟩ (fun _ _ _ h _ _ _ _ hS hd hvc => call54_sound (vc76_eq.mpr h76) (vc54_eq.mpr h54) ok55 h hS hd hvc)) mixed Try.func30 (by kernel_rfl) (by kernel_rfl) (by kernel_rfl) (by decide) an30 (vc30_eq.mpr h30)

/-! ### The reference's -/

theorem at_len (l : LG) (film frame : Int) : (U.at' l film frame).length ≤ l.length := Nat.le_trans (List.length_filter_le _ _) (held_len l)

theorem smallest_ne {s : Int} (hs : 1 ≤ s ∧ s ≤ 10) {l : LG} (hl : ∀ g ∈ l, M.Sg s.toNat g) : U.smallest s l ≠ [] := (M.best (s := s) (by omega) hs.2 hl).1

theorem chosen_sub (l : LG) {k : Nat} (h : k < 2 ^ 60) : (U.chosen l (k : Int)).Sublist l := by
  rw [M.chosen_eq h]; exact M.pick_sub l k

theorem h32 : vc32 := by
  rintro ⟨⟨fr, s, ⟨⟩⟩, l, film, frame, ⟨⟩⟩ hpre
  simp only at hpre ⊢
  refine ⟨fun h => ?_, fun h => ?_⟩
  · have h : U.frameErr (fr, s, ()) l film frame ≠ 0 := of_decide_eq_true h
    unfold U.whyRP
    rw [if_neg h]
  · have h : U.frameErr (fr, s, ()) l film frame = 0 := Classical.byContradiction (of_decide_eq_false h)
    obtain ⟨c, _⟩ := frame_of h
    have hok := ok_of c
    have hs := hok.s
    simp only at hs
    have hln := hok.len
    have hl := at_sg hok film frame
    simp only at hl
    have hlen : (U.at' l film frame).length ≤ 12 := Nat.le_trans (at_len l film frame) (hpre c)
    have hw : U.whyRP (fr, s, ()) l film frame = U.whyR s (U.at' l film frame) := by
      unfold U.whyRP
      rw [if_pos h]
    rw [hw, h]
    generalize U.at' l film frame = L at hl hlen
    have hp2 : (2 : Nat) ^ L.length ≤ 2 ^ 12 := Nat.pow_le_pow_right (by omega) hlen
    have hpc : (1 : Int) * (2 : Int) ^ L.length = (((2 : Nat) ^ L.length : Nat) : Int) := by simp
    simp only [Int.toNat_natCast, hpc]
    refine ⟨by omega, fun g hg => by have := hok.gl g hg; omega, hs, smallest_ne hs hl, ⟨0, ⟨⟨rfl, rfl, trivial⟩, trivial⟩, Nat.zero_le _⟩, fun x hx _ => ?_⟩
    refine ⟨by omega, by omega, by omega, by omega, Go.X.L.in64 (by omega) (by omega), fun hc => ?_, fun hc => ?_⟩
    · have hc : x < 2 ^ L.length := by have := of_decide_eq_true hc; omega
      have hB : U.bestTo s L (U.least s L) x < 4096 := by
        rcases M.bestTo_first (s := s) (l := L) (n := U.least s L) x (by omega) with ⟨e, _⟩ | ⟨b, e, hf⟩
        · omega
        · have := hf.lt; omega
      have hst := M.bestTo_succ s L (U.least s L) x
      unfold U.stepB at hst
      refine ⟨by omega, hs, smallest_ne hs (sub_sg hl (chosen_sub L (by omega))), fun hb => ?_, fun hb => ⟨by omega, fun _ => ⟨by omega, fun _ => ⟨fun _ => by omega, fun hq => ?_, fun hq => ?_, fun hq => ?_⟩⟩⟩⟩
      · have hb := of_decide_eq_true hb
        rw [if_pos hb] at hst
        exact ⟨Go.X.L.in64 (by omega) (by omega), x + 1, ⟨⟨hst.symm, by simp, trivial⟩, trivial⟩, by omega, by omega⟩
      · simp only [Bool.and_eq_true, Bool.not_eq_true', Bool.or_eq_false_iff, decide_eq_false_iff_not] at hq
        omega
      · have hb := of_decide_eq_false hb
        simp only [Bool.and_eq_true, Bool.or_eq_true, decide_eq_true_eq] at hq
        have hq : U.bestTo s L (U.least s L) x < 0 ∨ (U.chosen L x).length < (U.chosen L (U.bestTo s L (U.least s L) x)).length ∨
            ((U.chosen L x).length = (U.chosen L (U.bestTo s L (U.least s L) x)).length ∧ U.earlier x (U.bestTo s L (U.least s L) x) = true) := by
          rcases hq with (hq | hq) | ⟨hq, hq'⟩
          · exact .inl hq
          · exact .inr (.inl (by omega))
          · exact .inr (.inr ⟨by omega, hq'⟩)
        rw [if_neg hb, if_pos hq] at hst
        exact ⟨Go.X.L.in64 (by omega) (by omega), x + 1, ⟨⟨by simp, hst.symm, trivial⟩, trivial⟩, by omega, by omega⟩
      · have hb := of_decide_eq_false hb
        have hq : ¬ (U.bestTo s L (U.least s L) x < 0 ∨ (U.chosen L x).length < (U.chosen L (U.bestTo s L (U.least s L) x)).length ∨
            ((U.chosen L x).length = (U.chosen L (U.bestTo s L (U.least s L) x)).length ∧ U.earlier x (U.bestTo s L (U.least s L) x) = true)) := by
          intro hn
          have : ((decide (U.bestTo s L (U.least s L) x < 0) || decide (((U.chosen L x).length : Int) < ((U.chosen L (U.bestTo s L (U.least s L) x)).length : Int))) ||
              decide (((U.chosen L x).length : Int) = ((U.chosen L (U.bestTo s L (U.least s L) x)).length : Int)) && U.earlier x (U.bestTo s L (U.least s L) x)) = true := by
            simp only [Bool.and_eq_true, Bool.or_eq_true, decide_eq_true_eq]
            rcases hn with hn | hn | ⟨hn, hn'⟩
            · exact .inl (.inl hn)
            · exact .inl (.inr (by omega))
            · exact .inr ⟨by omega, hn'⟩
          rw [this] at hq; cases hq
        rw [if_neg hb, if_neg hq] at hst
        exact ⟨Go.X.L.in64 (by omega) (by omega), x + 1, ⟨⟨hst.symm, by simp, trivial⟩, trivial⟩, by omega, by omega⟩
    · have hc : ¬ x < 2 ^ L.length := by have := of_decide_eq_false hc; omega
      refine ⟨by omega, ?_⟩
      rw [show x = 2 ^ L.length from by omega]
      rfl

theorem ok32 : FnOK PR 32 sp32 := mkFn (vc32_eq.mpr h32) Try.func32 (by kernel_rfl) (by kernel_rfl) (by kernel_rfl) (by kernel_rfl) ⟨fun _ => ok14, fun _ => ok16, fun _ => ok31, fun _ => ok56, fun _ => ok57, trivial⟩ trivial

/-! ### The statement -/

theorem why_same {f : FD} {l : LG} {film frame : Int} (h : U.check f l = 0 → l.length ≤ 12) : U.whyP f l film frame = U.whyRP f l film frame := by
  unfold U.whyP U.whyRP
  rw [err_frame]
  by_cases e : U.frameErr f l film frame = 0
  · obtain ⟨c, _⟩ := frame_of e
    rw [if_pos e, if_pos e, M.at_eq (ok_of c), M.why_eq (Nat.le_trans (List.length_filter_le _ _) (Nat.le_trans (heldG_len l) (h c)))]
  · rw [if_neg e, if_neg e]

theorem whyRP_len {f : FD} {l : LG} {film frame : Int} (h : U.check f l = 0 → l.length ≤ 12) : (U.whyRP f l film frame).length ≤ 12 := by
  unfold U.whyRP
  by_cases e : U.frameErr f l film frame = 0
  · obtain ⟨c, _⟩ := frame_of e
    have := at_len l film frame
    have := h c
    rw [if_pos e]
    have := (M.why_proof (s := f.2.1) (l := U.at' l film frame) (by omega)).sub.length_le
    omega
  · rw [if_neg e]; simp

theorem h9 : vc9 := by
  rintro ⟨⟨fr, s, ⟨⟩⟩, l, ⟨film, frame, a, b, set, ⟨⟩⟩, ⟨⟩⟩ hfit
  have hl1 : fr.length ≤ 1048576 := hfit.1.1.1
  have hl2 : l.length ≤ 1048576 := hfit.2.1.1
  simp only
  refine ⟨fun _ => trivial, fun hfar => ?_⟩
  have pre : U.check (fr, s, ()) l = 0 → l.length ≤ 12 := fun c => by
    have := (ok_of c).len
    unfold U.far at hfar
    rw [Bool.or_eq_false_iff, decide_eq_false_iff_not] at hfar
    omega
  have hlen := whyRP_len (film := film) (frame := frame) pre
  rw [why_same pre, err_frame, sameL_iff.2 rfl]
  refine ⟨by omega, by omega, pre, pre, by omega, by simp⟩

theorem ok9 : FnOK PR 9 sp9 := mkFn (vc9_eq.mpr h9) Try.func9 (by kernel_rfl) (by kernel_rfl) (by kernel_rfl) (by kernel_rfl) ⟨fun _ => ok24, fun _ => ok15, fun _ => ok25, fun _ => ok30, fun _ => ok32, fun _ => ok33, trivial⟩ ⟨ok12, trivial⟩

end Go.X
