/-
  Sets of signs and readings, in plain mathematics: the fewest signs that agree; what is read of readings.
-/
import Derived.Test.YtoijahccalbjiaaG3
namespace Go.X
open Go.Proofs

namespace M

/-! ### Sets as numbers -/

theorem band_nat {a b : Nat} (ha : a < 2 ^ 63) (hb : b < 2 ^ 63) : band (a : Int) (b : Int) = ((a &&& b : Nat) : Int) := by
  unfold band
  have h : (BitVec.ofInt 64 (a : Int) &&& BitVec.ofInt 64 (b : Int)).toNat = a &&& b := by
    rw [BitVec.toNat_and]
    have e : ∀ n : Nat, n < 2 ^ 63 → (BitVec.ofInt 64 (n : Int)).toNat = n := by
      intro n hn
      simp only [BitVec.toNat_ofInt]
      omega
    rw [e a ha, e b hb]
  rw [h]
  have hle : a &&& b ≤ a := Nat.and_le_left
  unfold IntKind.wrap
  simp [IntKind.signed, IntKind.bits]
  omega

theorem one_bit : ∀ n : Nat, n < 1024 → ∀ i : Nat, i < 10 → U.size ((n ||| 2 ^ i : Nat) : Int) ≤ U.size (n : Int) + 1 := by decide +kernel

theorem size_zero : U.size 0 = 0 := by decide

theorem size_nonneg (s : Int) : 0 ≤ U.size s := (sizeTo_bound s 10).1

theorem and_or_ne {n b g : Nat} (h : n &&& g ≠ 0 ∨ b &&& g ≠ 0) : (n ||| b) &&& g ≠ 0 := by
  rw [Nat.and_or_distrib_right]
  intro e
  have := Nat.or_eq_zero_iff.1 e
  rcases h with h | h
  · exact h this.1
  · exact h this.2

theorem has_bit {g s : Nat} (h0 : g ≠ 0) (hs : g < 2 ^ s) : ∃ i, i < s ∧ 2 ^ i &&& g ≠ 0 := by
  obtain ⟨i, hi⟩ := Nat.exists_testBit_of_ne_zero h0
  refine ⟨i, ?_, ?_⟩
  · refine Classical.byContradiction fun hn => ?_
    have : g < 2 ^ i := Nat.lt_of_lt_of_le hs (Nat.pow_le_pow_right (by omega) (by omega))
    rw [Nat.testBit_lt_two_pow this] at hi; cases hi
  · intro e
    have : (2 ^ i &&& g).testBit i = true := by
      rw [Nat.testBit_and, hi, Nat.testBit_two_pow_self]; rfl
    rw [e] at this; simp at this

/-- a set of signs that a gloss may have -/
def Sg (s : Nat) (g : GD) : Prop := 1 ≤ U.sg g ∧ U.sg g < 2 ^ s

theorem agrees_iff {n : Nat} {l : List GD} {s : Nat} (hs : s ≤ 10) (hn : n < 2 ^ s) (hl : ∀ g ∈ l, Sg s g) : U.agrees (n : Int) l = true ↔ ∀ g ∈ l, n &&& (U.sg g).toNat ≠ 0 := by
  unfold U.agrees
  rw [List.all_eq_true]
  have hp : (2 : Nat) ^ s ≤ 2 ^ 10 := Nat.pow_le_pow_right (by omega) hs
  refine ⟨fun h g hg => ?_, fun h g hg => ?_⟩
  all_goals
    have h1 := h g hg
    obtain ⟨k1, k2⟩ := hl g hg
    have hc : ((2 ^ s : Nat) : Int) = (2 : Int) ^ s := by simp
    have e : U.sg g = (((U.sg g).toNat : Nat) : Int) := by omega
    have hb := band_nat (a := n) (b := (U.sg g).toNat) (by omega) (by omega)
    rw [← e] at hb
  · rw [hb] at h1
    simp only [Bool.not_eq_true', decide_eq_false_iff_not] at h1
    intro h0; exact h1 (by rw [h0]; rfl)
  · rw [hb]
    simp only [Bool.not_eq_true', decide_eq_false_iff_not]
    omega

/-- with one sign of each gloss a set agrees with all -/
theorem some_agrees {s : Nat} (hs : s ≤ 10) : ∀ (l : List GD), (∀ g ∈ l, Sg s g) → ∃ n : Nat, n < 2 ^ s ∧ U.agrees (n : Int) l = true ∧ U.size (n : Int) ≤ l.length
  | [], _ => ⟨0, Nat.pow_pos (by omega), rfl, by rw [show ((0 : Nat) : Int) = 0 from rfl, size_zero]; simp⟩
  | g :: l, h => by
    obtain ⟨n, h1, h2, h3⟩ := some_agrees hs l (fun x hx => h x (by simp [hx]))
    obtain ⟨k1, k2⟩ := h g (by simp)
    have hc : ((2 ^ s : Nat) : Int) = (2 : Int) ^ s := by simp
    obtain ⟨i, b1, b2⟩ := has_bit (g := (U.sg g).toNat) (s := s) (by omega) (by omega)
    have hp : (2 : Nat) ^ s ≤ 2 ^ 10 := Nat.pow_le_pow_right (by omega) hs
    have hlt : n ||| 2 ^ i < 2 ^ s := Nat.or_lt_two_pow h1 (Nat.pow_lt_pow_right (by omega) b1)
    refine ⟨n ||| 2 ^ i, hlt, ?_, ?_⟩
    · rw [agrees_iff hs hlt h]
      rw [agrees_iff hs h1 (fun x hx => h x (by simp [hx]))] at h2
      intro x hx
      rcases List.mem_cons.1 hx with rfl | hx
      · exact and_or_ne (.inr b2)
      · exact and_or_ne (.inl (h2 x hx))
    · have := one_bit n (by omega) i (by omega)
      simp only [List.length_cons]
      omega

/-! ### The fewest signs -/

/-- what the search has found among the first sets -/
structure Found (l : List GD) (i : Nat) (o : List Int) : Prop where
  none : o = [] → ∀ n : Nat, n < i → U.agrees (n : Int) l = false
  some : o ≠ [] → ∃ m : Int, (∀ x, x ∈ o ↔ ∃ n : Nat, x = (n : Int) ∧ n < i ∧ U.agrees (n : Int) l = true ∧ U.size (n : Int) = m) ∧ (∀ n : Nat, n < i → U.agrees (n : Int) l = true → m ≤ U.size (n : Int))
  asc : o.Pairwise (· < ·)

theorem nth_mem {o : List Int} (h : o ≠ []) : nth o 0 ∈ o := L.mem_nth (List.length_pos_iff.2 h)

theorem found_step {l : List GD} {i : Nat} {o : List Int} (h : Found l i o) : Found l (i + 1) (U.stepS l o i) := by
  unfold U.stepS
  by_cases ha : U.agrees (i : Int) l = true
  · rw [if_pos ha]
    unfold U.better
    have single : (∀ n : Nat, n < i → U.agrees (n : Int) l = true → U.size (i : Int) < U.size (n : Int)) → Found l (i + 1) [(i : Int)] := by
      intro hb
      refine ⟨by simp, fun _ => ⟨U.size (i : Int), fun x => ?_, fun n hn hna => ?_⟩, by simp⟩
      · constructor
        · intro hx
          have : x = (i : Int) := by simpa using hx
          exact ⟨i, this, by omega, ha, rfl⟩
        · rintro ⟨n, rfl, hn, hna, hs⟩
          by_cases e : n = i
          · subst e; simp
          · have := hb n (by omega) hna; omega
      · by_cases e : n = i
        · subst e; omega
        · have := hb n (by omega) hna; omega
    by_cases ho : o = []
    · subst ho
      rw [if_neg (fun h => h.1 rfl), if_pos (.inl rfl)]
      refine single (fun n hn hna => ?_)
      rw [h.none rfl n hn] at hna; cases hna
    · obtain ⟨m, h1, h2⟩ := h.some ho
      obtain ⟨n0, e0, hn0, ha0, hs0⟩ := (h1 _).1 (nth_mem ho)
      rw [e0, hs0]
      by_cases c1 : U.size (i : Int) < m
      · rw [if_pos ⟨ho, c1⟩]
        exact single (fun n hn hna => by have := h2 n hn hna; omega)
      · rw [if_neg (fun h => c1 h.2)]
        by_cases c2 : U.size (i : Int) = m
        · rw [if_pos (.inr c2)]
          refine ⟨by simp, fun _ => ⟨m, fun x => ?_, fun n hn hna => ?_⟩, ?_⟩
          · rw [List.mem_append, h1, List.mem_singleton]
            constructor
            · rintro (⟨n, e, hn, r⟩ | e)
              · exact ⟨n, e, by omega, r⟩
              · exact ⟨i, e, by omega, ha, c2⟩
            · rintro ⟨n, e, hn, r⟩
              by_cases hi : n = i
              · subst hi; exact .inr e
              · exact .inl ⟨n, e, by omega, r⟩
          · by_cases e : n = i
            · subst e; omega
            · exact h2 n (by omega) hna
          · rw [List.pairwise_append]
            refine ⟨h.asc, by simp, fun x hx y hy => ?_⟩
            obtain ⟨n, rfl, hn, _⟩ := (h1 x).1 hx
            have : y = (i : Int) := by simpa using hy
            omega
        · rw [if_neg (by rintro (h | h); exact ho h; exact c2 h)]
          refine ⟨fun e => absurd e ho, fun _ => ⟨m, fun x => ?_, fun n hn hna => ?_⟩, h.asc⟩
          · rw [h1]
            constructor
            · rintro ⟨n, e, hn, r⟩; exact ⟨n, e, by omega, r⟩
            · rintro ⟨n, e, hn, r1, r2⟩
              by_cases hi : n = i
              · subst hi; exact absurd r2 c2
              · exact ⟨n, e, by omega, r1, r2⟩
          · by_cases e : n = i
            · subst e; omega
            · exact h2 n (by omega) hna
  · rw [if_neg ha]
    have ha : U.agrees (i : Int) l = false := by simpa using ha
    refine ⟨fun e n hn => ?_, fun e => ?_, h.asc⟩
    · by_cases hi : n = i
      · subst hi; exact ha
      · exact h.none e n (by omega)
    · obtain ⟨m, h1, h2⟩ := h.some e
      refine ⟨m, fun x => ?_, fun n hn hna => ?_⟩
      · rw [h1]
        constructor
        · rintro ⟨n, e, hn, r⟩; exact ⟨n, e, by omega, r⟩
        · rintro ⟨n, e, hn, r1, r2⟩
          by_cases hi : n = i
          · subst hi; rw [ha] at r1; cases r1
          · exact ⟨n, e, by omega, r1, r2⟩
      · by_cases hi : n = i
        · subst hi; rw [ha] at hna; cases hna
        · exact h2 n (by omega) hna

theorem found (l : List GD) : ∀ i, Found l i ((List.range i).foldl (U.stepS l) [])
  | 0 => ⟨fun _ n hn => by omega, fun h => absurd rfl h, by simp⟩
  | i + 1 => by rw [small_succ]; exact found_step (found l i)

/-- the first of the fewest -/
structure Best (s : Nat) (l : List GD) (h : Nat) : Prop where
  lt : h < 2 ^ s
  ag : U.agrees (h : Int) l = true
  min : ∀ n : Nat, n < 2 ^ s → U.agrees (n : Int) l = true → U.size (h : Int) < U.size (n : Int) ∨ (U.size (h : Int) = U.size (n : Int) ∧ h ≤ n)

theorem best {s : Int} (h0 : 0 ≤ s) (hs : s ≤ 10) {l : List GD} (hl : ∀ g ∈ l, Sg s.toNat g) : U.smallest s l ≠ [] ∧ ∃ h : Nat, nth (U.smallest s l) 0 = (h : Int) ∧ Best s.toNat l h := by
  unfold U.smallest
  have hf := found l (2 ^ s.toNat)
  generalize (List.range (2 ^ s.toNat)).foldl (U.stepS l) [] = o at hf
  obtain ⟨n, n1, n2, _⟩ := some_agrees (s := s.toNat) (by omega) l hl
  have hne : o ≠ [] := fun e => by rw [hf.none e n n1] at n2; cases n2
  refine ⟨hne, ?_⟩
  obtain ⟨m, h1, h2⟩ := hf.some hne
  obtain ⟨h, e, k1, k2, k3⟩ := (h1 _).1 (nth_mem hne)
  refine ⟨h, e, k1, k2, fun n hn ha => ?_⟩
  have := h2 n hn ha
  by_cases c : U.size (n : Int) = m
  · right
    refine ⟨by omega, ?_⟩
    have hn' := (h1 (n : Int)).2 ⟨n, rfl, hn, ha, c⟩
    cases o with
    | nil => exact absurd rfl hne
    | cons x o =>
      have ex : nth (x :: o) 0 = x := rfl
      rw [ex] at e
      rcases List.mem_cons.1 hn' with h' | h'
      · omega
      · have := (List.pairwise_cons.1 hf.asc).1 _ h'
        omega
  · left; omega

theorem best_unique {s : Nat} {l m : List GD} {a b : Nat} (h : ∀ n : Nat, n < 2 ^ s → U.agrees (n : Int) l = U.agrees (n : Int) m) (ha : Best s l a) (hb : Best s m b) : a = b := by
  have h1 := ha.min b hb.lt (by rw [h b hb.lt]; exact hb.ag)
  have h2 := hb.min a ha.lt (by rw [← h a ha.lt]; exact ha.ag)
  omega

/-- a set agrees with glosses, whatever their order -/
theorem agrees_mem {l m : List GD} (h : ∀ g, g ∈ l ↔ g ∈ m) (n : Int) : U.agrees n l = U.agrees n m := by
  unfold U.agrees
  rw [Bool.eq_iff_iff, List.all_eq_true, List.all_eq_true]
  exact ⟨fun k g hg => k g ((h g).2 hg), fun k g hg => k g ((h g).1 hg)⟩

/-! ### Readings -/

theorem readS_append (k : Int) (l : List RD1) (r : RD1) : U.readS k (l ++ [r]) = if U.hit k r = true then r.2.2.1 else U.readS k l := by
  simp [U.readS]
theorem readN_append (k : Int) (l : List RD1) (r : RD1) : U.readN k (l ++ [r]) = if U.hit k r = true then U.readN k l + 1 else U.readN k l := by
  simp [U.readN]

theorem read_none {k : Int} : ∀ {l : List RD1}, (∀ r ∈ l, U.hit k r = false) → U.readS k l = 0 ∧ U.readN k l = 0 := by
  intro l
  have : ∀ (l : List RD1) (a b : Int), (∀ r ∈ l, U.hit k r = false) → l.foldl (fun s r => if U.hit k r = true then r.2.2.1 else s) a = a ∧ l.foldl (fun s r => if U.hit k r = true then s + 1 else s) b = b := by
    intro l
    induction l with
    | nil => intro a b _; exact ⟨rfl, rfl⟩
    | cons r l ih =>
      intro a b h
      have hr := h r (by simp)
      simp only [List.foldl_cons, hr]
      exact ih _ _ (fun x hx => h x (by simp [hx]))
  intro h
  exact this l 0 0 h

theorem readsTo_succ (f : Nat → Int) (k : Nat) : U.readsTo f (k + 1) = U.stepR f (U.readsTo f k) k := by
  simp [U.readsTo, List.range_succ]

structure Reads (f : Nat → Int) (k : Nat) (out : List RD1) : Prop where
  rng : ∀ r ∈ out, 0 ≤ r.1 ∧ r.1 < r.2.1 ∧ r.2.1 ≤ (k : Int)
  len : out.length ≤ k
  val : ∀ j : Nat, j < k → U.readS (j : Int) out = f j ∧ U.readN (j : Int) out ≤ 1

theorem snoc {out : List RD1} (h : 0 < out.length) : ∃ i r, out = i ++ [r] ∧ U.lastR out = r ∧ ∀ x, out.set (out.length - 1) x = i ++ [x] := by
  have hne : out ≠ [] := by intro e; subst e; simp at h
  refine ⟨out.dropLast, out.getLast hne, (List.dropLast_concat_getLast hne).symm, ?_, fun x => ?_⟩
  · unfold U.lastR
    rw [L.nth_lt (by omega), List.getLast_eq_getElem]
  · have e := List.dropLast_concat_getLast hne
    have hl : out.dropLast.length = out.length - 1 := by simp
    calc out.set (out.length - 1) x = (out.dropLast ++ [out.getLast hne]).set (out.length - 1) x := by rw [e]
      _ = out.dropLast ++ [x] := by rw [List.set_append_right _ _ (by omega), hl]; simp

theorem reads_step {f : Nat → Int} {k : Nat} {out : List RD1} (h : Reads f k out) : Reads f (k + 1) (U.stepR f out k) := by
  have nohit : ∀ r ∈ out, U.hit (k : Int) r = false := fun r hr => by
    have := h.rng r hr
    exact decide_eq_false (by omega)
  unfold U.stepR
  by_cases h0 : f k = 0
  · rw [if_pos h0]
    refine ⟨fun r hr => by have := h.rng r hr; omega, by have := h.len; omega, fun j hj => ?_⟩
    by_cases e : j = k
    · subst e
      obtain ⟨e1, e2⟩ := read_none nohit
      rw [e1, e2, h0]; omega
    · exact h.val j (by omega)
  · rw [if_neg h0]
    by_cases hj : 0 < out.length ∧ (U.lastR out).2.1 = (k : Int) ∧ (U.lastR out).2.2.1 = f k
    · rw [if_pos hj]
      obtain ⟨i, r, e1, e2, e3⟩ := snoc hj.1
      rw [e3, e2]
      rw [e2] at hj
      subst e1
      have hr := h.rng r (by simp)
      refine ⟨fun q hq => ?_, by have := h.len; simp only [List.length_append, List.length_cons, List.length_nil] at this ⊢; omega, fun j hjk => ?_⟩
      · rcases List.mem_append.1 hq with hq | hq
        · have := h.rng q (by simp [hq]); omega
        · have : q = (r.1, r.2.1 + 1, r.2.2.1, ()) := by simpa using hq
          subst this
          simp only; omega
      · rw [readS_append, readN_append]
        by_cases e : j = k
        · subst e
          have hh : U.hit (j : Int) (r.1, r.2.1 + 1, r.2.2.1, ()) = true := decide_eq_true (by simp only; omega)
          obtain ⟨_, n2⟩ := read_none (l := i) (fun q hq => nohit q (by simp [hq]))
          rw [if_pos hh, if_pos hh, n2]
          exact ⟨hj.2.2, by omega⟩
        · have := h.val j (by omega)
          rw [readS_append, readN_append] at this
          have hh : U.hit (j : Int) (r.1, r.2.1 + 1, r.2.2.1, ()) = U.hit (j : Int) r := by
            unfold U.hit
            rw [Bool.eq_iff_iff, decide_eq_true_eq, decide_eq_true_eq]
            simp only; omega
          rw [hh]; exact this
    · rw [if_neg hj]
      refine ⟨fun q hq => ?_, by have := h.len; simp only [List.length_append, List.length_cons, List.length_nil]; omega, fun j hjk => ?_⟩
      · rcases List.mem_append.1 hq with hq | hq
        · have := h.rng q hq; omega
        · have : q = ((k : Int), (k : Int) + 1, f k, ()) := by simpa using hq
          subst this
          simp only; omega
      · rw [readS_append, readN_append]
        by_cases e : j = k
        · subst e
          have hh : U.hit (j : Int) ((j : Int), (j : Int) + 1, f j, ()) = true := decide_eq_true (by simp only; omega)
          obtain ⟨_, n2⟩ := read_none nohit
          rw [if_pos hh, if_pos hh, n2]
          exact ⟨rfl, by omega⟩
        · have hh : U.hit (j : Int) ((k : Int), (k : Int) + 1, f k, ()) = false := decide_eq_false (by simp only; omega)
          rw [hh]
          have := h.val j (by omega)
          simpa using this

theorem reads (f : Nat → Int) : ∀ k, Reads f k (U.readsTo f k)
  | 0 => ⟨fun r hr => by simp [U.readsTo] at hr, by simp [U.readsTo], fun j hj => by omega⟩
  | k + 1 => by rw [readsTo_succ]; exact reads_step (reads f k)

end M
end Go.X
/-
  The program's functions do what they are asked to (7): Readings, Agree; what the statements call.
-/
namespace Go.X
open Go.Proofs

theorem h12 : vc12 := by
  rintro ⟨l, ⟨⟩⟩ hl
  have hl : l.length ≤ 2000000 := hl
  exact ⟨by simp only; omega, rfl, rfl⟩

theorem ok12 : OFnOK PR 12 so12 := mkFnO (vc12_eq.mpr h12) Try.func12 (by kernel_rfl) (by kernel_rfl) (by kernel_rfl) (by kernel_rfl) (by kernel_rfl) trivial trivial

theorem h25 : vc25 := by
  rintro ⟨⟨fr, s, ⟨⟩⟩, ⟨⟩⟩ hl
  have hl : fr.length ≤ 2000000 := hl
  exact ⟨by simp only; omega, rfl⟩

theorem ok25 : FnOK PR 25 sp25 := mkFn (vc25_eq.mpr h25) Try.func25 (by kernel_rfl) (by kernel_rfl) (by kernel_rfl) (by kernel_rfl) trivial trivial

theorem h27 : vc27 := by
  rintro ⟨a, b, ⟨⟩⟩ hl _ _
  have hl : a.length ≤ 100000 := hl
  refine ⟨fun h => ?_, fun h => ?_⟩
  · have h : (a.length : Int) ≠ (b.length : Int) := of_decide_eq_true h
    have : ¬ a = b := fun e => h (by rw [e])
    exact congrArg (·, ()) (decide_eq_false this).symm
  · have h : a.length = b.length := by
      have h : ¬ (a.length : Int) ≠ (b.length : Int) := of_decide_eq_false h
      omega
    refine ⟨⟨0, ⟨⟨rfl, trivial⟩, trivial⟩, Nat.zero_le _, by simp⟩, fun i hi _ => ?_⟩
    obtain ⟨hi1, hi2⟩ : i ≤ a.length ∧ a.take i = b.take i := hi
    simp only [Int.toNat_natCast]
    refine ⟨fun hc => ?_, fun hc => ?_⟩
    · have hc : i < a.length := by have := of_decide_eq_true hc; omega
      refine ⟨by omega, by omega, by omega, by omega, fun hn => ?_, fun hn => ⟨by unfold In64; omega, i + 1, ⟨⟨by simp, trivial⟩, trivial⟩, ⟨by omega, ?_⟩, by omega⟩⟩
      · have hn : ¬ nth a i = nth b i := of_decide_eq_false (L.not_true hn)
        have : ¬ a = b := fun e => hn (by rw [e])
        exact congrArg (·, ()) (decide_eq_false this).symm
      · have hn : nth a i = nth b i := of_decide_eq_true (L.not_false hn)
        rw [L.take_succ hc, L.take_succ (by omega), hi2, hn]
    · have hc : a.length ≤ i := by have := of_decide_eq_false hc; omega
      rw [List.take_of_length_le hc, List.take_of_length_le (by omega)] at hi2
      exact congrArg (·, ()) (decide_eq_true hi2).symm

theorem ok27 : FnOK PR 27 sp27 := mkFn (vc27_eq.mpr h27) Try.func27 (by kernel_rfl) (by kernel_rfl) (by kernel_rfl) (by kernel_rfl) trivial trivial

theorem readN_in (k : Int) (l : List RD1) : ∀ i, i ≤ l.length → 0 ≤ U.readN k (l.take i) ∧ U.readN k (l.take i) ≤ i
  | 0, _ => by simp [U.readN]
  | i + 1, h => by
    have := readN_in k l i (by omega)
    rw [L.take_succ (by omega), M.readN_append]
    split <;> omega

theorem h18 : vc18 := by
  rintro ⟨l, k, ⟨⟩⟩ hl
  have hl : l.length ≤ 100000 := hl
  refine ⟨⟨0, ⟨⟨rfl, rfl, rfl, trivial⟩, trivial⟩, Nat.zero_le _⟩, fun i hi _ => ?_⟩
  have hi : i ≤ l.length := hi
  simp only [Int.toNat_natCast]
  refine ⟨fun hc => ?_, fun hc => ?_⟩
  · have hc : i < l.length := by have := of_decide_eq_true hc; omega
    have hs := M.readS_append k (l.take i) (nth l i)
    have hn := M.readN_append k (l.take i) (nth l i)
    rw [← L.take_succ hc] at hs hn
    have hr := readN_in k l i hi
    have hh : (decide ((nth l i).1 ≤ k) && decide (k < (nth l i).2.1)) = U.hit k (nth l i) := by
      unfold U.hit
      rw [Bool.eq_iff_iff]
      simp only [Bool.and_eq_true, decide_eq_true_eq]
    rw [hh]
    refine ⟨by omega, by omega, fun _ => by omega, fun _ => by omega, fun hb => ?_, fun hb => ?_⟩
    · rw [if_pos hb] at hs hn
      exact ⟨by omega, by omega, by unfold In64; omega, by unfold In64; omega, i + 1, ⟨⟨by simp, hn.symm, hs.symm, trivial⟩, trivial⟩, by omega, by omega⟩
    · rw [if_neg (by rw [hb]; simp)] at hs hn
      exact ⟨by unfold In64; omega, i + 1, ⟨⟨hn.symm, hs.symm, by simp, trivial⟩, trivial⟩, by omega, by omega⟩
  · have hc : l.length ≤ i := by have := of_decide_eq_false hc; omega
    rw [List.take_of_length_le hc]

theorem ok18 : FnOK PR 18 sp18 := mkFn (vc18_eq.mpr h18) Try.func18 (by kernel_rfl) (by kernel_rfl) (by kernel_rfl) (by kernel_rfl) trivial trivial

theorem h24 : vc24 := by
  rintro ⟨⟨fr, s, ⟨⟩⟩, l, ⟨⟩⟩ _ _ _ _
  simp only
  have hbig : (decide ((20 : Int) < (fr.length : Int)) || decide ((60 : Int) < (l.length : Int)) || decide ((12 : Int) < (l.length : Int)) && decide ((l.length : Int) ≤ (40 : Int))) = decide (20 < fr.length ∨ 60 < l.length ∨ 12 < l.length ∧ l.length ≤ 40) := by
    rw [Bool.eq_iff_iff]
    simp only [Bool.or_eq_true, Bool.and_eq_true, decide_eq_true_eq]
    omega
  rw [hbig]
  refine ⟨fun h => ?_, fun h => ⟨fun h2 => ?_, fun h2 => ?_⟩⟩
  · unfold U.far; simp only; rw [h]; rfl
  · have h2 : U.check (fr, s, ()) [] ≠ 0 := of_decide_eq_true h2
    unfold U.far; simp only; rw [h, decide_eq_false h2]; rfl
  · have h2 : U.check (fr, s, ()) [] = 0 := Classical.byContradiction (of_decide_eq_false h2)
    have hfl := (okFilms_iff.1 (check_films h2).1)
    simp only at hfl
    have hfar : U.far (fr, s, ()) l = (fr.any (fun n => decide (12 < n)) || decide (6 < s)) := by
      unfold U.far; simp only; rw [h, decide_eq_true h2]; rfl
    rw [hfar]
    refine ⟨⟨0, ⟨⟨rfl, trivial⟩, trivial⟩, Nat.zero_le _, fun n hn => by simp at hn⟩, fun i hi _ => ?_⟩
    obtain ⟨hi1, hi2⟩ := hi
    simp only [Int.toNat_natCast]
    refine ⟨fun hc => ?_, fun hc => ?_⟩
    · have hc : i < fr.length := by have := of_decide_eq_true hc; omega
      refine ⟨by omega, by omega, fun hb => ?_, fun hb => ⟨by unfold In64; omega, i + 1, ⟨⟨by simp, trivial⟩, trivial⟩, ⟨by omega, fun n hn => ?_⟩, by omega⟩⟩
      · have : fr.any (fun n => decide (12 < n)) = true := List.any_eq_true.2 ⟨_, L.mem_nth hc, hb⟩
        rw [this]; rfl
      · rw [L.take_succ hc, List.mem_append, List.mem_singleton] at hn
        rcases hn with hn | rfl
        · exact hi2 n hn
        · have := of_decide_eq_false hb; omega
    · have hc : fr.length ≤ i := by have := of_decide_eq_false hc; omega
      rw [List.take_of_length_le hc] at hi2
      have : fr.any (fun n => decide (12 < n)) = false := by
        rw [List.any_eq_false]
        intro n hn h
        have := of_decide_eq_true h
        have := hi2 n hn
        omega
      rw [this]; rfl

theorem ok24 : FnOK PR 24 sp24 := mkFn (vc24_eq.mpr h24) Try.func24 (by kernel_rfl) (by kernel_rfl) (by kernel_rfl) (by kernel_rfl) ⟨fun _ => ok38, trivial⟩ trivial

theorem h13 : vc13 := fun _ => rfl

theorem ok13 : FnOK PR 13 sp13 := mkFn (vc13_eq.mpr h13) Try.func13 (by kernel_rfl) (by kernel_rfl) (by kernel_rfl) (by kernel_rfl) ⟨fun _ => ok24, fun _ => ok38, trivial⟩ trivial

theorem h42 : vc42 := fun _ => rfl

theorem ok42 : FnOK PR 42 sp42 := mkFn (vc42_eq.mpr h42) Try.func42 (by kernel_rfl) (by kernel_rfl) (by kernel_rfl) (by kernel_rfl) trivial trivial

/-! ### Valid messages -/

theorem mem_msgs {l : List GD} {g : GD} (h : g ∈ U.msgs l) : g ∈ l := by
  unfold U.msgs at h
  have := (isort_perm _ _).mem_iff.1 h
  unfold U.vals at this
  obtain ⟨e, he, rfl⟩ := List.mem_map.1 this
  exact ((mapOf_fill l).mem e he).2

theorem mem_heldG {l : List GD} {g : GD} (h : g ∈ U.heldG l) : g ∈ l ∧ U.sg g ≠ 0 := by
  unfold U.heldG at h
  rw [List.mem_filter] at h
  refine ⟨mem_msgs h.1, fun e => ?_⟩
  have := h.2
  unfold U.drops at this
  rw [decide_eq_true e] at this
  cases this

theorem msgs_len (l : List GD) : (U.msgs l).length ≤ l.length := by
  unfold U.msgs
  rw [(isort_perm _ _).length_eq]
  simpa [U.vals] using (mapOf_fill l).len

theorem heldG_len (l : List GD) : (U.heldG l).length ≤ l.length := Nat.le_trans (List.length_filter_le _ _) (msgs_len l)

structure Ok (f : FD) (l : List GD) : Prop where
  fr : ∀ n ∈ f.1, 1 ≤ n ∧ n ≤ 200
  nf : 1 ≤ f.1.length ∧ f.1.length ≤ 4
  s : 1 ≤ f.2.1 ∧ f.2.1 ≤ 10
  gl : ∀ g ∈ l, 0 ≤ U.au g ∧ U.au g ≤ 7 ∧ 0 ≤ U.st g ∧ U.st g ≤ 9999 ∧ 0 ≤ U.fi g ∧ U.fi g < f.1.length ∧ 0 ≤ U.fr g ∧ U.fr g < U.to g ∧ U.to g ≤ nth f.1 (U.fi g).toNat ∧ U.to g ≤ 200 ∧ 0 ≤ U.sg g ∧ U.sg g < 2 ^ f.2.1.toNat
  len : l.length ≤ 40
  cl : U.clash l = false

theorem ok_of {f : FD} {l : List GD} (h : U.check f l = 0) : Ok f l := by
  obtain ⟨h1, h2, h3, h4⟩ := check_films h
  obtain ⟨k1, k2, k3, k4, k5⟩ := okFilms_iff.1 h1
  refine ⟨k1, ⟨k2, k3⟩, ⟨k4, k5⟩, fun g hg => ?_, h3, h4⟩
  have := List.all_eq_true.1 h2 g hg
  unfold U.okGloss at this
  rw [decide_eq_true_eq] at this
  obtain ⟨a1, a2, a3, a4, a5, a6, a7, a8, a9, a10, a11⟩ := this
  have e : f.1.getD (U.fi g).toNat 0 = nth f.1 (U.fi g).toNat := rfl
  rw [e] at a9
  have hb := k1 _ (L.mem_nth (l := f.1) (i := (U.fi g).toNat) (by omega))
  exact ⟨a1, a2, a3, a4, a5, a6, a7, a8, a9, by omega, a10, a11⟩

theorem Ok.small {f : FD} {l : List GD} (h : Ok f l) : ∀ g ∈ l, U.small g := fun g hg => by
  obtain ⟨a1, a2, a3, a4, _⟩ := h.gl g hg
  exact ⟨a1, a2, a3, a4⟩

theorem Ok.sg {f : FD} {l : List GD} (h : Ok f l) {m : List GD} (hm : ∀ g ∈ m, g ∈ l ∧ U.sg g ≠ 0) : ∀ g ∈ m, M.Sg f.2.1.toNat g := fun g hg => by
  obtain ⟨h1, h2⟩ := hm g hg
  have := h.gl g h1
  unfold M.Sg
  omega

/-- what is held and lies in a frame -/
theorem frame_sg {f : FD} {l : List GD} (h : Ok f l) (p : GD → Bool) : ∀ g ∈ (U.heldG l).filter p, M.Sg f.2.1.toNat g := h.sg (fun _ hg => mem_heldG (List.mem_filter.1 hg).1)

/-! ### Readings -/

theorem h17 : vc17 := by
  rintro ⟨⟨fr, s, ⟨⟩⟩, l, film, ⟨⟩⟩ hpre
  have hpre : U.check (fr, s, ()) l = 0 → l.length ≤ 12 := hpre
  simp only
  refine ⟨fun h => ?_, fun h => ⟨fun h2 => ?_, fun h2 => ?_⟩⟩
  · have h : U.check (fr, s, ()) l ≠ 0 := of_decide_eq_true h
    have e : U.filmErr (fr, s, ()) l film = U.check (fr, s, ()) l := by unfold U.filmErr; rw [if_pos h]
    unfold U.readings
    rw [e, if_neg h]
  · have h : U.check (fr, s, ()) l = 0 := Classical.byContradiction (of_decide_eq_false h)
    have h2 := of_decide_eq_false (L.not_true h2)
    have e : U.filmErr (fr, s, ()) l film = 1 := by unfold U.filmErr; rw [if_neg (by rw [h]; simp), if_neg h2]
    unfold U.readings
    rw [e, if_neg (by omega)]
  · have h : U.check (fr, s, ()) l = 0 := Classical.byContradiction (of_decide_eq_false h)
    have h2 := of_decide_eq_true (L.not_false h2)
    have hok := ok_of h
    have hs := hok.s
    simp only at hs
    have e : U.filmErr (fr, s, ()) l film = 0 := by unfold U.filmErr; rw [if_neg (by rw [h]; simp), if_pos h2]
    have hr : U.readings (fr, s, ()) l film = U.readsTo (U.setAt s (U.heldG l) film) (nth fr film.toNat).toNat := by
      unfold U.readings
      rw [e, if_pos rfl]
    have hn := hok.fr _ (L.mem_nth (l := fr) (i := film.toNat) (by omega))
    have hhl : (U.heldG l).length ≤ 100000 := by have := heldG_len l; have := hpre h; omega
    refine ⟨hpre h, hok.small, h2.1, h2.2, ⟨0, ⟨⟨rfl, trivial, trivial⟩, rfl, trivial⟩, Nat.zero_le _⟩, fun k hk => ⟨fun hc => ?_, fun hc => ?_⟩⟩
    · have hc : k < (nth fr film.toNat).toNat := by have := of_decide_eq_true hc; omega
      obtain ⟨hne, hb, e1, _⟩ := M.best (s := s) (by omega) hs.2 (frame_sg hok (U.inFrame film (k : Int)))
      have hne' := List.length_pos_iff.2 hne
      have hset : nth (U.smallest s ((U.heldG l).filter (U.inFrame film (k : Int)))) (Int.toNat 0) = U.setAt s (U.heldG l) film k := rfl
      rw [hset]
      have hR := M.reads (U.setAt s (U.heldG l) film) k
      have hsucc := M.readsTo_succ (U.setAt s (U.heldG l) film) k
      generalize hout : U.readsTo (U.setAt s (U.heldG l) film) k = out at hR hsucc ⊢
      have i1 : In64 ((k : Int) + 1) := by unfold In64; omega
      have hrl := hR.len
      refine ⟨hhl, hs, by omega, by omega, fun hb0 => ⟨i1, k + 1, ⟨⟨trivial, by simp, trivial⟩, ?_, trivial⟩, by omega, by omega⟩, fun hb0 _ => ?_⟩
      · rw [hsucc]; unfold U.stepR; rw [if_pos (of_decide_eq_true hb0)]
      · have hb0 := of_decide_eq_false hb0
        have hlast : ∀ (hpos : 0 < out.length), ((out.length : Int) - 1).toNat = out.length - 1 := fun _ => by omega
        refine ⟨by unfold In64; omega, fun hd => of_decide_eq_true hd, fun hd => by omega, fun hd => ?_, fun hd => by omega, fun hd => ?_, fun hd => ?_⟩
        · rw [Bool.and_eq_true] at hd; exact of_decide_eq_true hd.1
        · simp only [Bool.and_eq_true, decide_eq_true_eq] at hd
          obtain ⟨⟨d1, d2⟩, d3⟩ := hd
          have hpos : 0 < out.length := by omega
          rw [hlast hpos] at d2 d3 ⊢
          have hm := hR.rng _ (L.mem_nth (l := out) (i := out.length - 1) (by omega))
          refine ⟨by omega, by omega, by unfold In64; omega, by omega, by omega, i1, k + 1, ⟨⟨trivial, by simp, trivial⟩, ?_, trivial⟩, by omega, by omega⟩
          rw [hsucc]; unfold U.stepR
          rw [if_neg hb0, if_pos ⟨hpos, d2, d3⟩]
          rfl
        · have hnj : ¬ (0 < out.length ∧ (U.lastR out).2.1 = (k : Int) ∧ (U.lastR out).2.2.1 = U.setAt s (U.heldG l) film k) := by
            rintro ⟨j1, j2, j3⟩
            rw [hlast j1] at hd
            unfold U.lastR at j2 j3
            simp only [j2, j3] at hd
            simp at hd
            omega
          refine ⟨i1, by simp only [List.length_cons, List.length_nil]; omega, i1, k + 1, ⟨⟨by simp, trivial, trivial⟩, ?_, trivial⟩, by omega, by omega⟩
          rw [hsucc]; unfold U.stepR
          rw [if_neg hb0, if_neg hnj]
    · have hc : k = (nth fr film.toNat).toNat := by have := of_decide_eq_false hc; omega
      rw [hr, e, hc]

theorem ok17 : FnOK PR 17 sp17 := mkFn (vc17_eq.mpr h17) Try.func17 (by kernel_rfl) (by kernel_rfl) (by kernel_rfl) (by kernel_rfl) ⟨fun _ => ok37, fun _ => ok44, fun _ => ok45, fun _ => ok47, fun _ => ok46, trivial⟩ trivial

end Go.X
/-
  The program's functions do what they are asked to (8): Agree; the examples.
-/
namespace Go.X
open Go.Proofs

theorem sumTo_succ (f : GD → Int) {l : List GD} {i : Nat} (h : i < l.length) : U.sumTo f (l.take (i + 1)) = U.sumTo f (l.take i) + f (nth l i) := by
  rw [L.take_succ h]; simp [U.sumTo]

theorem sumTo_in {f : GD → Int} {l : List GD} {b : Int} (h : ∀ g ∈ l, 0 ≤ f g ∧ f g ≤ b) : ∀ i, i ≤ l.length → 0 ≤ U.sumTo f (l.take i) ∧ U.sumTo f (l.take i) ≤ b * i
  | 0, _ => by simp [U.sumTo]
  | i + 1, hi => by
    have ih := sumTo_in h i (by omega)
    have hg := h _ (L.mem_nth (l := l) (i := i) (by omega))
    rw [sumTo_succ f (by omega)]
    have : b * ((i + 1 : Nat) : Int) = b * i + b := by rw [Int.natCast_add, Int.mul_add]; simp
    omega

theorem sumTo_le {f : GD → Int} {l : List GD} {b : Int} (h : ∀ g ∈ l, 0 ≤ f g ∧ f g ≤ b) : 0 ≤ U.sumTo f l ∧ U.sumTo f l ≤ b * l.length := by
  have := sumTo_in h l.length (Nat.le_refl _)
  rwa [List.take_length] at this

structure Span (g : GD) : Prop where
  fr : 0 ≤ U.fr g
  lt : U.fr g < U.to g
  to : U.to g ≤ 200

theorem pairN_in {a b : Int} {g o : GD} (hg : Span g) (ho : Span o) : 0 ≤ U.pairN a b g o ∧ U.pairN a b g o ≤ 200 := by
  have := hg.fr
  have := ho.fr
  have := hg.to
  have := ho.to
  unfold U.pairN
  split
  · rename_i h
    have := h.2.2
    unfold U.common at this
    rw [decide_eq_true_eq] at this
    omega
  · omega

theorem pairS_in {a b : Int} {g o : GD} (hg : Span g) (ho : Span o) : 0 ≤ U.pairS a b g o ∧ U.pairS a b g o ≤ 200 := by
  have := pairN_in (a := a) (b := b) hg ho
  unfold U.pairS
  split <;> omega

theorem Ok.span {f : FD} {l : List GD} (h : Ok f l) : ∀ g ∈ U.heldG l, Span g := fun g hg => by
  have := h.gl g (mem_heldG hg).1
  exact ⟨by omega, by omega, by omega⟩

theorem h21 : vc21 := by
  rintro ⟨⟨fr, s, ⟨⟩⟩, l, a, b, ⟨⟩⟩ hpre
  have hpre : U.check (fr, s, ()) l = 0 → l.length ≤ 12 := hpre
  simp only
  refine ⟨fun h => ?_, fun h => ⟨fun h2 => ?_, fun h2 => ?_⟩⟩
  · have h : U.check (fr, s, ()) l ≠ 0 := of_decide_eq_true h
    have e : U.authErr (fr, s, ()) l a b = U.check (fr, s, ()) l := by unfold U.authErr; rw [if_pos h]
    rw [e, if_neg h, if_neg h]
  · have h : U.check (fr, s, ()) l = 0 := Classical.byContradiction (of_decide_eq_false h)
    have e : U.authErr (fr, s, ()) l a b = 1 := by
      unfold U.authErr
      rw [if_neg (by rw [h]; simp), if_neg]
      rintro ⟨a1, a2, a3, a4, a5⟩
      rw [decide_eq_true (show 0 ≤ a ∧ a < 8 from ⟨a1, a2⟩), decide_eq_true (show 0 ≤ b ∧ b < 8 from ⟨a3, a4⟩), decide_eq_false a5] at h2
      cases h2
    rw [e, if_neg (by omega), if_neg (by omega)]
  · have h : U.check (fr, s, ()) l = 0 := Classical.byContradiction (of_decide_eq_false h)
    have hok := ok_of h
    simp only [Bool.or_eq_false_iff, Bool.not_eq_false', decide_eq_true_eq, decide_eq_false_iff_not] at h2
    obtain ⟨⟨h3, h4⟩, h5⟩ := h2
    have e : U.authErr (fr, s, ()) l a b = 0 := by
      unfold U.authErr
      rw [if_neg (by rw [h]; simp), if_pos ⟨h3.1, h3.2, h4.1, h4.2, h5⟩]
    rw [e, if_pos rfl, if_pos rfl]
    have hsp := hok.span
    have hlen : (U.heldG l).length ≤ 12 := by have := heldG_len l; have := hpre h; omega
    unfold U.both U.same
    generalize U.heldG l = H at hsp hlen ⊢
    have rowN : ∀ g ∈ H, 0 ≤ U.sumTo (U.pairN a b g) H ∧ U.sumTo (U.pairN a b g) H ≤ 2400 := fun g hg => by
      have := sumTo_le (f := U.pairN a b g) (l := H) (b := 200) (fun o ho => pairN_in (hsp g hg) (hsp o ho))
      omega
    have rowS : ∀ g ∈ H, 0 ≤ U.sumTo (U.pairS a b g) H ∧ U.sumTo (U.pairS a b g) H ≤ 2400 := fun g hg => by
      have := sumTo_le (f := U.pairS a b g) (l := H) (b := 200) (fun o ho => pairS_in (hsp g hg) (hsp o ho))
      omega
    refine ⟨hpre h, hok.small, fun _ => ⟨⟨0, ⟨⟨rfl, rfl, rfl, trivial⟩, trivial⟩, Nat.zero_le _⟩, fun i hi => ⟨fun hc => ?_, fun hc => ?_⟩⟩⟩
    · have hc : i < H.length := by have := of_decide_eq_true hc; omega
      have sN := sumTo_succ (fun g => U.sumTo (U.pairN a b g) H) hc
      have sS := sumTo_succ (fun g => U.sumTo (U.pairS a b g) H) hc
      have bN := sumTo_in (b := 2400) rowN i (by omega)
      have bS := sumTo_in (b := 2400) rowS i (by omega)
      have hgi := L.mem_nth hc
      simp only [Int.toNat_natCast]
      generalize hPN : U.sumTo (fun g => U.sumTo (U.pairN a b g) H) (H.take i) = PN at sN bN ⊢
      generalize U.sumTo (fun g => U.sumTo (U.pairS a b g) H) (H.take i) = PS at sS bS ⊢
      refine ⟨by omega, by omega, fun _ => ⟨⟨0, ⟨⟨rfl, by simp [U.sumTo], by simp [U.sumTo], trivial⟩, trivial⟩, Nat.zero_le _⟩, fun j hj => ⟨fun hc2 => ?_, fun hc2 => ?_⟩⟩⟩
      · have hc2 : j < H.length := by have := of_decide_eq_true hc2; omega
        have tN := sumTo_succ (U.pairN a b (nth H i)) hc2
        have tS := sumTo_succ (U.pairS a b (nth H i)) hc2
        have cN := sumTo_in (b := 200) (fun o ho => pairN_in (a := a) (b := b) (hsp _ hgi) (hsp o ho)) j (by omega)
        have cS := sumTo_in (b := 200) (fun o ho => pairS_in (a := a) (b := b) (hsp _ hgi) (hsp o ho)) j (by omega)
        have hoj := L.mem_nth hc2
        have dN := pairN_in (a := a) (b := b) (hsp _ hgi) (hsp _ hoj)
        have dS := pairS_in (a := a) (b := b) (hsp _ hgi) (hsp _ hoj)
        have i64 : In64 ((j : Int) + 1) := by unfold In64; omega
        generalize U.sumTo (U.pairN a b (nth H i)) (H.take j) = QN at tN cN ⊢
        generalize U.sumTo (U.pairS a b (nth H i)) (H.take j) = QS at tS cS ⊢
        refine ⟨by omega, by omega, fun hd => ?_, fun hd => ?_⟩
        · have z : ¬ (U.au (nth H i) = a ∧ U.au (nth H j) = b ∧ U.common (nth H i) (nth H j) = true) := by
            rintro ⟨z1, z2, z3⟩
            have hd : (decide (U.au (nth H i) ≠ a) || decide (U.au (nth H j) ≠ b) || !U.common (nth H i) (nth H j)) = true := hd
            rw [decide_eq_false (by simp [z1]), decide_eq_false (by simp [z2]), z3] at hd
            cases hd
          have zN : U.pairN a b (nth H i) (nth H j) = 0 := by unfold U.pairN; rw [if_neg z]
          have zS : U.pairS a b (nth H i) (nth H j) = 0 := by unfold U.pairS; rw [zN]; split <;> rfl
          exact ⟨i64, j + 1, ⟨⟨by rw [tS, zS, Int.add_zero], by rw [tN, zN, Int.add_zero], by simp, trivial⟩, trivial⟩, by omega, by omega⟩
        · have hd : (decide (U.au (nth H i) ≠ a) || decide (U.au (nth H j) ≠ b) || !U.common (nth H i) (nth H j)) = false := hd
          simp only [Bool.or_eq_false_iff, Bool.not_eq_false', decide_eq_false_iff_not] at hd
          obtain ⟨⟨z1, z2⟩, z3⟩ := hd
          have z : U.au (nth H i) = a ∧ U.au (nth H j) = b ∧ U.common (nth H i) (nth H j) = true := ⟨Classical.byContradiction z1, Classical.byContradiction z2, z3⟩
          have zN : U.pairN a b (nth H i) (nth H j) = min (U.to (nth H i)) (U.to (nth H j)) - max (U.fr (nth H i)) (U.fr (nth H j)) := by unfold U.pairN; rw [if_pos z]
          have e1 : (nth H i).snd.snd.snd.snd.fst = U.to (nth H i) := rfl
          have e2 : (nth H j).snd.snd.snd.snd.fst = U.to (nth H j) := rfl
          have e3 : (nth H i).snd.snd.snd.fst = U.fr (nth H i) := rfl
          have e4 : (nth H j).snd.snd.snd.fst = U.fr (nth H j) := rfl
          rw [e1, e2, e3, e4, ← zN]
          refine ⟨by unfold In64; omega, by unfold In64; omega, fun hb => ?_, fun hb => ?_⟩
          · have zS : U.pairS a b (nth H i) (nth H j) = U.pairN a b (nth H i) (nth H j) := by exact if_pos (of_decide_eq_true hb)
            refine ⟨by unfold In64; omega, i64, j + 1, ⟨⟨by simp, by rw [tS, zS]; omega, by rw [tN]; omega, trivial⟩, trivial⟩, by omega, by omega⟩
          · have zS : U.pairS a b (nth H i) (nth H j) = 0 := by exact if_neg (of_decide_eq_false hb)
            exact ⟨i64, j + 1, ⟨⟨by rw [tS, zS, Int.add_zero], by simp, by rw [tN]; omega, trivial⟩, trivial⟩, by omega, by omega⟩
      · have hc2 : H.length ≤ j := by have := of_decide_eq_false hc2; omega
        rw [List.take_of_length_le hc2]
        exact ⟨by unfold In64; omega, i + 1, ⟨⟨by simp, sN.symm, sS.symm, trivial⟩, trivial⟩, by omega, by omega⟩
    · have hc : H.length ≤ i := by have := of_decide_eq_false hc; omega
      rw [List.take_of_length_le hc]

theorem ok21 : FnOK PR 21 sp21 := mkFn (vc21_eq.mpr h21) Try.func21 (by kernel_rfl) (by kernel_rfl) (by kernel_rfl) (by kernel_rfl) ⟨fun _ => ok37, fun _ => ok48, fun _ => ok45, fun _ => ok49, trivial⟩ trivial

/-! ### The examples -/

def exR : List RD1 := [(2, 5, 4, ()), (5, 7, 5, ()), (7, 8, 4, ()), (8, 10, 2, ())]

theorem ex_check : U.check U.exF U.exL = 0 := by decide +kernel
theorem ex_held : U.heldG U.exL = [(0, 1, 0, 0, 6, 3, ()), (0, 2, 0, 5, 7, 1, ()), (1, 1, 0, 2, 8, 4, ()), (1, 7, 1, 0, 4, 16, ()), (2, 5, 0, 4, 10, 6, ())] ∨ True := .inr trivial
theorem ex_reads : U.readings U.exF U.exL 0 = exR := by decide +kernel
theorem ex_err : U.filmErr U.exF U.exL 0 = 0 := by decide +kernel
theorem ex_aerr : U.authErr U.exF U.exL 1 2 = 0 := by decide +kernel
theorem ex_both : U.both (U.heldG U.exL) 1 2 = 4 := by decide +kernel
theorem ex_same : U.same (U.heldG U.exL) 1 2 = 4 := by decide +kernel

theorem h15 : vc15 := by
  intro _
  have e : (U.exF.fst, U.exF.snd.fst, ()) = U.exF := rfl
  rw [e, ex_err, ex_aerr, ex_both, ex_same, ex_reads]
  refine ⟨fun _ => by decide, fun _ => by decide, fun _ => by decide, by decide⟩

theorem ok15 : FnOK PR 15 sp15 := mkFn (vc15_eq.mpr h15) Try.func15 (by kernel_rfl) (by kernel_rfl) (by kernel_rfl) (by kernel_rfl) ⟨fun _ => ok42, fun _ => ok17, fun _ => ok21, fun _ => ok27, trivial⟩ trivial

end Go.X
/-
  What holds: the program and the specification name the same glosses, in the same order.
-/
namespace Go.X
open Go.Proofs
namespace M

/-! ### Sorted messages -/

theorem mem_ins_iff {m x : GD} : ∀ {o : List GD}, x ∈ U.ins m o ↔ x = m ∨ x ∈ o
  | [] => by simp [U.ins]
  | y :: r => by
    unfold U.ins
    split
    · simp only [List.mem_cons, mem_ins_iff (o := r)]
      constructor
      · rintro (h | h | h) <;> simp [h]
      · rintro (h | h | h) <;> simp [h]
    · split
      · rename_i e
        subst e
        constructor
        · intro h; exact .inr h
        · rintro (h | h)
          · subst h; simp
          · exact h
      · simp

theorem mem_srt_iff {x : GD} {l : List GD} : x ∈ U.srt l ↔ x ∈ l := by
  unfold U.srt
  suffices g : ∀ (l o : List GD), x ∈ l.foldl (fun o m => U.ins m o) o ↔ x ∈ o ∨ x ∈ l by
    rw [g l []]; simp
  intro l
  induction l with
  | nil => intro o; simp
  | cons y r ih =>
    intro o
    rw [List.foldl_cons, ih, mem_ins_iff, List.mem_cons]
    constructor
    · rintro ((h | h) | h) <;> simp [h]
    · rintro (h | h | h) <;> simp [h]

theorem ins_asc {m : GD} : ∀ {o : List GD}, Asc o → (∀ x ∈ o, U.key x = U.key m → x = m) → Asc (U.ins m o)
  | [], _, _ => by simp [U.ins]
  | y :: r, h, hk => by
    have hp := List.pairwise_cons.1 h
    unfold U.ins
    split
    · rename_i hl
      refine List.pairwise_cons.2 ⟨fun x hx => ?_, ins_asc hp.2 (fun x hx => hk x (by simp [hx]))⟩
      rcases mem_ins_iff.1 hx with rfl | hx
      · exact hl
      · exact hp.1 x hx
    · rename_i hl
      split
      · exact h
      · rename_i hne
        have hky : U.key y ≠ U.key m := fun e => hne (hk y (by simp) e)
        have hmy : U.ltk m y = true := (ltk_total hky).resolve_left hl
        refine List.pairwise_cons.2 ⟨fun x hx => ?_, h⟩
        rcases List.mem_cons.1 hx with rfl | hx
        · exact hmy
        · exact ltk_trans hmy (hp.1 x hx)

/-- no two different messages of the same author and stamp -/
def NoClash (l : List GD) : Prop := ∀ a ∈ l, ∀ b ∈ l, U.key a = U.key b → a = b

theorem noClash_of {l : List GD} (h : U.clash l = false) : NoClash l := fun a ha b hb e => by
  refine Classical.byContradiction fun hne => ?_
  have := clash_iff.2 ⟨a, ha, b, hb, e, hne⟩
  rw [h] at this; cases this

theorem srt_asc {l : List GD} (h : NoClash l) : Asc (U.srt l) := by
  unfold U.srt
  suffices g : ∀ (l o : List GD), Asc o → (∀ a, a ∈ o ∨ a ∈ l → ∀ b, b ∈ o ∨ b ∈ l → U.key a = U.key b → a = b) → Asc (l.foldl (fun o m => U.ins m o) o) by
    exact g l [] (by simp) (fun a ha b hb => h a (by simpa using ha) b (by simpa using hb))
  intro l
  induction l with
  | nil => intro o h _; exact h
  | cons y r ih =>
    intro o ho hk
    refine ih _ (ins_asc ho (fun x hx e => hk x (.inl hx) y (.inr (by simp)) e)) (fun a ha b hb e => ?_)
    have go : ∀ c, (c ∈ U.ins y o ∨ c ∈ r) → c ∈ o ∨ c ∈ y :: r := by
      rintro c (h | h)
      · rcases mem_ins_iff.1 h with rfl | h
        · exact .inr (by simp)
        · exact .inl h
      · exact .inr (by simp [h])
    exact hk a (go a ha) b (go b hb) e

/-! ### The messages of a box -/

theorem asc_nodup {l : List GD} (h : Asc l) : l.Nodup := by
  refine List.Pairwise.imp ?_ h
  intro a b hab e
  subst e
  rw [ltk_irrefl] at hab; cases hab

theorem asc_ext {a b : List GD} (ha : Asc a) (hb : Asc b) (h : ∀ x, x ∈ a ↔ x ∈ b) : a = b :=
  asc_unique ha hb ((List.perm_ext_iff_of_nodup (asc_nodup ha) (asc_nodup hb)).2 h)

theorem msgs_asc (l : List GD) : Asc (U.msgs l) := by
  unfold U.msgs
  have hm := mapOf_fill l
  refine isort_asc ?_
  have : (U.vals (U.fillAll [l]).1).map U.key = (U.fillAll [l]).1.map (·.1) := by
    unfold U.vals
    rw [List.map_map]
    exact List.map_congr_left (fun e he => (hm.mem e he).1.symm)
  rw [this]
  exact hm.nod

theorem find_mem {k : KD'} {g : GD} : ∀ {m : List (KD' × GD)}, mfind tK k m = some g → (k, g) ∈ m
  | [], h => by simp [mfind] at h
  | e :: r, h => by
    unfold mfind at h
    split at h
    · rename_i hd
      have hd : k = e.1 := of_decide_eq_true hd
      have h : e.2 = g := by simpa using h
      rw [hd, ← h]; simp
    · exact List.mem_cons_of_mem _ (find_mem h)

theorem mem_msgs_iff {l : List GD} (h : U.clash l = false) {g : GD} : g ∈ U.msgs l ↔ g ∈ l := by
  refine ⟨mem_msgs, fun hg => ?_⟩
  have hb := boxed_fill l
  have h0 : (U.fillAll [l]).2.1 = 0 := by
    have h1 := fill_clash l
    have h2 : ¬ 0 < (U.fillAll [l]).2.1 := fun h' => by rw [h1.1 h'] at h; cases h
    have h3 := hb.nn
    omega
  obtain ⟨_, _, k3⟩ := hb.ok h0
  have := find_mem (k3 g hg)
  unfold U.msgs
  rw [(isort_perm _ _).mem_iff]
  exact List.mem_map.2 ⟨_, this, rfl⟩

theorem msgs_srt {l : List GD} (h : U.clash l = false) : U.msgs l = U.srt l :=
  asc_ext (msgs_asc l) (srt_asc (noClash_of h)) (fun x => by rw [mem_msgs_iff h, mem_srt_iff])

theorem common_over {a b : GD} (ha : U.fr a < U.to a) (hb : U.fr b < U.to b) : U.common a b = U.over a b := by
  unfold U.common U.over
  rw [Bool.eq_iff_iff, decide_eq_true_eq, decide_eq_true_eq]
  omega

theorem held_eq {f : FD} {l : List GD} (h : Ok f l) : U.heldG l = U.held l := by
  unfold U.heldG U.held
  rw [msgs_srt h.cl]
  refine List.filter_congr (fun g hg => ?_)
  have hgl := mem_srt_iff.1 hg
  have hsp : ∀ o ∈ l, U.fr o < U.to o := fun o ho => by have := h.gl o ho; omega
  unfold U.drops U.holds
  rw [Bool.eq_iff_iff]
  simp only [Bool.not_eq_true', Bool.or_eq_false_iff, Bool.and_eq_true, List.any_eq_false, List.all_eq_true, decide_eq_false_iff_not, Bool.and_eq_true, decide_eq_true_eq, not_and, Bool.not_eq_true]
  have e : ∀ o ∈ l, U.common o g = U.over o g := fun o ho => common_over (hsp o ho) (hsp g hgl)
  constructor
  · rintro ⟨h1, h2⟩
    refine ⟨fun m hm => ?_, h1⟩
    unfold U.later
    by_cases c : U.au m = U.au g ∧ U.st g < U.st m
    · rw [← e m hm]
      have := h2 m (mem_srt_iff.2 hm) c
      rw [this]; simp
    · rw [decide_eq_false c]; rfl
  · rintro ⟨h1, h2⟩
    refine ⟨h2, fun o ho c => ?_⟩
    have ho := mem_srt_iff.1 ho
    have := h1 o ho
    unfold U.later at this
    rw [decide_eq_true c, ← e o ho] at this
    simpa using this

theorem mem_held_iff {f : FD} {l : List GD} (h : Ok f l) {g : GD} : g ∈ U.heldG l ↔ g ∈ l ∧ U.holds l g = true := by
  rw [held_eq h]
  unfold U.held
  rw [List.mem_filter, mem_srt_iff]

/-! ### One more gloss -/

theorem holds_iff {l : List GD} {g : GD} : U.holds l g = true ↔ (∀ m ∈ l, U.later m g = false) ∧ U.sg g ≠ 0 := by
  unfold U.holds
  simp only [Bool.and_eq_true, List.all_eq_true, Bool.not_eq_true', decide_eq_false_iff_not, ne_eq]

theorem later_au {m g : GD} (h : U.au m ≠ U.au g) : U.later m g = false := by
  unfold U.later
  rw [decide_eq_false (fun c => h c.1)]; rfl

theorem later_self (g : GD) : U.later g g = false := by
  unfold U.later
  rw [decide_eq_false (by omega)]; rfl

theorem mem_more {f : FD} {l : List GD} {more : GD} (h1 : Ok f l) (h2 : Ok f (l ++ [more])) (ha : ∀ g ∈ l, U.au g ≠ U.au more) {g : GD} :
    g ∈ U.heldG (l ++ [more]) ↔ g ∈ U.heldG l ∨ (g = more ∧ U.sg more ≠ 0) := by
  rw [mem_held_iff h2, mem_held_iff h1, holds_iff, holds_iff]
  constructor
  · rintro ⟨hm, hl, hs⟩
    rcases List.mem_append.1 hm with hm | hm
    · exact .inl ⟨hm, fun m hm' => hl m (by simp [hm']), hs⟩
    · have : g = more := by simpa using hm
      subst this
      exact .inr ⟨rfl, hs⟩
  · rintro (⟨hm, hl, hs⟩ | ⟨rfl, hs⟩)
    · refine ⟨by simp [hm], fun m hm' => ?_, hs⟩
      rcases List.mem_append.1 hm' with hm' | hm'
      · exact hl m hm'
      · have : m = more := by simpa using hm'
        subst this
        exact later_au (fun e => ha g hm e.symm)
    · refine ⟨by simp, fun m hm' => ?_, hs⟩
      rcases List.mem_append.1 hm' with hm' | hm'
      · exact later_au (ha m hm')
      · have : m = g := by simpa using hm'
        subst this
        exact later_self m

/-- the reading of a frame -/
theorem frame_best {f : FD} {l : List GD} (h : Ok f l) (film : Int) (k : Nat) : ∃ b : Nat, U.setAt f.2.1 (U.heldG l) film k = (b : Int) ∧ Best f.2.1.toNat ((U.heldG l).filter (U.inFrame film k)) b := by
  obtain ⟨_, b, e, hb⟩ := best (s := f.2.1) (by have := h.s; omega) h.s.2 (frame_sg h (U.inFrame film (k : Int)))
  exact ⟨b, e, hb⟩

/-- the document's statement of one more gloss -/
theorem more_size {f : FD} {l : List GD} {more : GD} (h1 : Ok f l) (h2 : Ok f (l ++ [more])) (ha : ∀ g ∈ l, U.au g ≠ U.au more) (film : Int) (k : Nat) :
    U.size (U.setAt f.2.1 (U.heldG l) film k) ≤ U.size (U.setAt f.2.1 (U.heldG (l ++ [more])) film k) ∧
    U.size (U.setAt f.2.1 (U.heldG (l ++ [more])) film k) ≤ U.size (U.setAt f.2.1 (U.heldG l) film k) + 1 ∧
    U.size (U.setAt f.2.1 (U.heldG l) film k) ≤ (((U.heldG l).filter (U.inFrame film k)).length : Int) := by
  obtain ⟨a, ea, hA⟩ := frame_best h1 film k
  obtain ⟨b, eb, hB⟩ := frame_best h2 film k
  rw [ea, eb]
  have hs := h1.s
  have sgA := frame_sg h1 (U.inFrame film (k : Int))
  have sgB := frame_sg h2 (U.inFrame film (k : Int))
  have hs10 : f.2.1.toNat ≤ 10 := by omega
  have memB : ∀ g, g ∈ (U.heldG (l ++ [more])).filter (U.inFrame film k) ↔ g ∈ (U.heldG l).filter (U.inFrame film k) ∨ (g = more ∧ U.sg more ≠ 0 ∧ U.inFrame film k more = true) := by
    intro g
    rw [List.mem_filter, List.mem_filter, mem_more h1 h2 ha]
    constructor
    · rintro ⟨h | ⟨rfl, h⟩, hf⟩
      · exact .inl ⟨h, hf⟩
      · exact .inr ⟨rfl, h, hf⟩
    · rintro (⟨h, hf⟩ | ⟨rfl, h, hf⟩)
      · exact ⟨.inl h, hf⟩
      · exact ⟨.inr ⟨rfl, h⟩, hf⟩
  generalize (U.heldG l).filter (U.inFrame film k) = A at hA sgA memB ⊢
  generalize (U.heldG (l ++ [more])).filter (U.inFrame film k) = B at hB sgB memB
  have third : U.size (a : Int) ≤ (A.length : Int) := by
    obtain ⟨n, n1, n2, n3⟩ := some_agrees hs10 A sgA
    have := hA.min n n1 n2
    omega
  have bA : U.agrees (b : Int) A = true := by
    rw [agrees_iff hs10 hB.lt sgA]
    have hb := hB.ag
    rw [agrees_iff hs10 hB.lt sgB] at hb
    exact fun g hg => hb g ((memB g).2 (.inl hg))
  have first := hA.min b hB.lt bA
  refine ⟨by omega, ?_, third⟩
  have haA := hA.ag
  rw [agrees_iff hs10 hA.lt sgA] at haA
  by_cases hm : U.sg more ≠ 0 ∧ U.inFrame film k more = true
  · have hsm := sgB more ((memB more).2 (.inr ⟨rfl, hm⟩))
    obtain ⟨k1, k2⟩ := hsm
    have hc : ((2 ^ f.2.1.toNat : Nat) : Int) = (2 : Int) ^ f.2.1.toNat := by simp
    obtain ⟨i, b1, b2⟩ := has_bit (g := (U.sg more).toNat) (s := f.2.1.toNat) (by omega) (by omega)
    have hlt : a ||| 2 ^ i < 2 ^ f.2.1.toNat := Nat.or_lt_two_pow hA.lt (Nat.pow_lt_pow_right (by omega) b1)
    have hp : (2 : Nat) ^ f.2.1.toNat ≤ 2 ^ 10 := Nat.pow_le_pow_right (by omega) hs10
    have hlA := hA.lt
    have hone := one_bit a (by omega) i (by omega)
    have := hB.min (a ||| 2 ^ i) hlt (by
      rw [agrees_iff hs10 hlt sgB]
      intro g hg
      rcases (memB g).1 hg with hg | ⟨rfl, _⟩
      · exact and_or_ne (.inl (haA g hg))
      · exact and_or_ne (.inr b2))
    omega
  · have := hB.min a hA.lt (by
      rw [agrees_iff hs10 hA.lt sgB]
      intro g hg
      rcases (memB g).1 hg with hg | ⟨_, hg⟩
      · exact haA g hg
      · exact absurd hg hm)
    omega

/-! ### What is read -/

theorem filmErr_zero {f : FD} {l : List GD} (h : U.check f l = 0) {film : Int} (hf : 0 ≤ film ∧ film < f.1.length) : U.filmErr f l film = 0 := by
  unfold U.filmErr
  rw [if_neg (by rw [h]; simp), if_pos hf]

theorem readings_eq {f : FD} {l : List GD} (h : U.check f l = 0) {film : Int} (hf : 0 ≤ film ∧ film < f.1.length) : U.readings f l film = U.readsTo (U.setAt f.2.1 (U.heldG l) film) (nth f.1 film.toNat).toNat := by
  unfold U.readings
  rw [filmErr_zero h hf, if_pos rfl]

theorem readings_len {f : FD} {l : List GD} (h : U.check f l = 0) {film : Int} (hf : 0 ≤ film ∧ film < f.1.length) : ((U.readings f l film).length : Int) ≤ nth f.1 film.toNat ∧ (U.readings f l film).length ≤ 200 := by
  rw [readings_eq h hf]
  have hn := (ok_of h).fr _ (L.mem_nth (l := f.1) (i := film.toNat) (by omega))
  have := (reads (U.setAt f.2.1 (U.heldG l) film) (nth f.1 film.toNat).toNat).len
  omega

theorem readings_at {f : FD} {l : List GD} (h : U.check f l = 0) {film : Int} (hf : 0 ≤ film ∧ film < f.1.length) {k : Int} (hk : 0 ≤ k ∧ k < nth f.1 film.toNat) :
    U.readS k (U.readings f l film) = U.setAt f.2.1 (U.heldG l) film k.toNat ∧ U.readN k (U.readings f l film) ≤ 1 := by
  rw [readings_eq h hf]
  have := (reads (U.setAt f.2.1 (U.heldG l) film) (nth f.1 film.toNat).toNat).val k.toNat (by omega)
  rwa [Int.toNat_of_nonneg hk.1] at this

/-! ### Valid -/

theorem valid_of {f : FD} {l : List GD} (h : U.valid f l = true) : U.check f l = 0 ∧ l.length ≤ 12 ∧ Ok f l ∧ (∀ n ∈ f.1, n ≤ 12) ∧ f.2.1 ≤ 6 := by
  unfold U.valid at h
  rw [Bool.and_eq_true, decide_eq_true_eq] at h
  obtain ⟨h1, h2⟩ := h
  have h1 := L.not_true h1
  have hok := ok_of h2
  have h0 : U.check f [] = 0 := by
    obtain ⟨k1, _⟩ := check_films h2
    unfold U.check
    rw [if_pos k1]; rfl
  unfold U.far at h1
  rw [Bool.or_eq_false_iff, decide_eq_false_iff_not, decide_eq_true h0, Bool.true_and, Bool.or_eq_false_iff, decide_eq_false_iff_not, List.any_eq_false] at h1
  obtain ⟨a1, a2, a3⟩ := h1
  have := hok.len
  refine ⟨h2, by omega, hok, fun n hn => ?_, by omega⟩
  have := a2 n hn
  simp only [decide_eq_true_eq] at this
  omega

end M
end Go.X
