/-
  What all of the smallest sets have in common, and what some of them has.
-/
import Derived.Test.YtoijahccalbjiaaG7
namespace Go.X
open Go.Proofs
namespace M

def Sub (a b : Nat) : Prop := ∀ i, a.testBit i = true → b.testBit i = true

theorem bor_nat {a b : Nat} (ha : a < 2 ^ 63) (hb : b < 2 ^ 63) : bor (a : Int) (b : Int) = ((a ||| b : Nat) : Int) := by
  unfold bor
  have h : (BitVec.ofInt 64 (a : Int) ||| BitVec.ofInt 64 (b : Int)).toNat = a ||| b := by
    rw [BitVec.toNat_or]
    have e : ∀ n : Nat, n < 2 ^ 63 → (BitVec.ofInt 64 (n : Int)).toNat = n := by
      intro n hn
      simp only [BitVec.toNat_ofInt]
      omega
    rw [e a ha, e b hb]
  rw [h]
  have hlt : a ||| b < 2 ^ 63 := Nat.or_lt_two_pow ha hb
  unfold IntKind.wrap
  simp [IntKind.signed, IntKind.bits]
  omega

theorem bandn_nat {a b : Nat} (ha : a < 2 ^ 63) (hb : b < 2 ^ 63) (h : Sub a b) : bandn (a : Int) (b : Int) = 0 := by
  unfold bandn
  have e : ∀ n : Nat, n < 2 ^ 63 → BitVec.ofInt 64 (n : Int) = BitVec.ofNat 64 n := by
    intro n hn
    apply BitVec.eq_of_toNat_eq
    simp only [BitVec.toNat_ofInt, BitVec.toNat_ofNat]
    omega
  have hz : BitVec.ofInt 64 (a : Int) &&& ~~~(BitVec.ofInt 64 (b : Int)) = 0#64 := by
    rw [e a ha, e b hb]
    apply BitVec.eq_of_getLsbD_eq
    intro i hi
    rw [BitVec.getLsbD_and, BitVec.getLsbD_not, BitVec.getLsbD_ofNat, BitVec.getLsbD_ofNat, BitVec.getLsbD_zero]
    cases hx : a.testBit i with
    | false => simp
    | true => rw [h i hx]; simp
  rw [hz]
  rfl

theorem andAll_nat {s : Nat} (hs : s ≤ 10) : ∀ (o : List Int) (a : Nat), a < 2 ^ s → (∀ x ∈ o, ∃ n : Nat, x = (n : Int) ∧ n < 2 ^ s) →
    ∃ r : Nat, U.andAll o (a : Int) = (r : Int) ∧ r < 2 ^ s ∧ Sub r a ∧ (∀ n : Nat, (n : Int) ∈ o → Sub r n) ∧ (∀ i, a.testBit i = true → (∀ n : Nat, (n : Int) ∈ o → n.testBit i = true) → r.testBit i = true)
  | [], a, ha, _ => ⟨a, rfl, ha, fun _ h => h, fun n hn => by simp at hn, fun i h _ => h⟩
  | x :: o, a, ha, h => by
    obtain ⟨n, rfl, hn⟩ := h x (by simp)
    have hp : (2 : Nat) ^ s ≤ 2 ^ 10 := Nat.pow_le_pow_right (by omega) hs
    have hlt : a &&& n < 2 ^ s := Nat.lt_of_le_of_lt Nat.and_le_left ha
    obtain ⟨r, h1, h2, h3, h4, h5⟩ := andAll_nat hs o (a &&& n) hlt (fun y hy => h y (by simp [hy]))
    refine ⟨r, ?_, h2, fun i hi => ?_, fun m hm => ?_, fun i hi hm => ?_⟩
    · rw [← h1]
      unfold U.andAll
      simp only [List.foldl_cons]
      rw [band_nat (by omega) (by omega)]
    · have := h3 i hi
      rw [Nat.testBit_and, Bool.and_eq_true] at this
      exact this.1
    · rcases List.mem_cons.1 hm with e | hm
      · have : m = n := by omega
        subst this
        intro i hi
        have := h3 i hi
        rw [Nat.testBit_and, Bool.and_eq_true] at this
        exact this.2
      · exact h4 m hm
    · refine h5 i ?_ (fun m hm' => hm m (by simp [hm']))
      rw [Nat.testBit_and, hi, hm n (by simp)]; rfl

theorem orAll_nat {s : Nat} (hs : s ≤ 10) : ∀ (o : List Int) (a : Nat), a < 2 ^ s → (∀ x ∈ o, ∃ n : Nat, x = (n : Int) ∧ n < 2 ^ s) →
    ∃ r : Nat, U.orAll o (a : Int) = (r : Int) ∧ r < 2 ^ s ∧ Sub a r ∧ (∀ n : Nat, (n : Int) ∈ o → Sub n r)
  | [], a, ha, _ => ⟨a, rfl, ha, fun _ h => h, fun n hn => by simp at hn⟩
  | x :: o, a, ha, h => by
    obtain ⟨n, rfl, hn⟩ := h x (by simp)
    have hp : (2 : Nat) ^ s ≤ 2 ^ 10 := Nat.pow_le_pow_right (by omega) hs
    obtain ⟨r, h1, h2, h3, h4⟩ := orAll_nat hs o (a ||| n) (Nat.or_lt_two_pow ha hn) (fun y hy => h y (by simp [hy]))
    refine ⟨r, ?_, h2, fun i hi => h3 i (by rw [Nat.testBit_or, hi]; rfl), fun m hm => ?_⟩
    · rw [← h1]
      unfold U.orAll
      simp only [List.foldl_cons]
      rw [bor_nat (by omega) (by omega)]
    · rcases List.mem_cons.1 hm with e | hm
      · have : m = n := by omega
        subst this
        exact fun i hi => h3 i (by rw [Nat.testBit_or, hi]; simp)
      · exact h4 m hm

/-- the smallest sets, all of them -/
theorem smalls {s : Int} (h0 : 0 ≤ s) (hs : s ≤ 10) {l : List GD} (hl : ∀ g ∈ l, Sg s.toNat g) : ∃ h : Nat, nth (U.smallest s l) 0 = (h : Int) ∧ Best s.toNat l h ∧ (h : Int) ∈ U.smallest s l ∧
    (∀ x, x ∈ U.smallest s l ↔ ∃ n : Nat, x = (n : Int) ∧ n < 2 ^ s.toNat ∧ U.agrees (n : Int) l = true ∧ U.size (n : Int) = U.size (h : Int)) := by
  obtain ⟨hne, h, e, hb⟩ := best h0 hs hl
  have hmem := nth_mem hne
  rw [e] at hmem
  refine ⟨h, e, hb, hmem, ?_⟩
  have hf := found l (2 ^ s.toNat)
  obtain ⟨m, h1, _⟩ := hf.some hne
  obtain ⟨n, en, _, _, hm⟩ := (h1 _).1 hmem
  have : n = h := by omega
  subst this
  intro x
  rw [hm]
  exact h1 x

end M
end Go.X
/-
  The statement 'GlossesHeard' is true of what the program computes; Sure.
-/
namespace Go.X
open Go.Proofs

theorem frm_zero {f : FD} {l : List GD} {film frame : Int} (h : U.frmErr f l film frame = 0) : U.check f l = 0 ∧ (0 ≤ film ∧ film < f.1.length) ∧ 0 ≤ frame ∧ frame < nth f.1 film.toNat := by
  unfold U.frmErr at h
  split at h
  · rename_i hc; exact absurd h hc
  · rename_i hc
    split at h
    · rename_i h2; exact ⟨Classical.byContradiction hc, h2⟩
    · cases h

theorem frm_of {f : FD} {l : List GD} {film frame : Int} (c : U.check f l = 0) (h : (0 ≤ film ∧ film < f.1.length) ∧ 0 ≤ frame ∧ frame < nth f.1 film.toNat) : U.frmErr f l film frame = 0 := by
  unfold U.frmErr
  rw [if_neg (by rw [c]; simp), if_pos h]

theorem h50 : vc50 := by
  rintro ⟨⟨⟨fr, s, ⟨⟩⟩, ⟨⟩⟩, l, film, frame, ⟨⟩⟩ hpre
  have hpre : U.check (fr, s, ()) l = 0 → l.length ≤ 12 := hpre
  simp only
  refine ⟨fun h => ?_, fun h => ⟨fun hb => ?_, fun hb => ?_, fun hb => ?_, fun hb => ?_⟩⟩
  · have h : U.check (fr, s, ()) l ≠ 0 := of_decide_eq_true h
    have e : U.frmErr (fr, s, ()) l film frame = U.check (fr, s, ()) l := by unfold U.frmErr; rw [if_pos h]
    rw [e, if_neg h]
  · simp only [Bool.not_eq_true', Bool.or_eq_false_iff, Bool.not_eq_false', decide_eq_true_eq, decide_eq_false_iff_not] at hb
    exact hb.1.1
  · simp only [Bool.not_eq_true', Bool.or_eq_false_iff, Bool.not_eq_false', decide_eq_true_eq, decide_eq_false_iff_not] at hb
    exact hb.1.2
  · have c : U.check (fr, s, ()) l = 0 := Classical.byContradiction (of_decide_eq_false h)
    simp only [Bool.or_eq_true, Bool.not_eq_true', decide_eq_true_eq, decide_eq_false_iff_not] at hb
    have e : U.frmErr (fr, s, ()) l film frame = 1 := by
      unfold U.frmErr
      rw [if_neg (by rw [c]; simp), if_neg]
      rintro ⟨a1, a2, a3⟩
      rcases hb with (hb | hb) | hb
      · exact hb a1
      · omega
      · have a3 : frame < nth fr film.toNat := a3
        omega
    rw [e, if_neg (by omega)]
  · have c : U.check (fr, s, ()) l = 0 := Classical.byContradiction (of_decide_eq_false h)
    simp only [Bool.or_eq_false_iff, Bool.not_eq_false', decide_eq_true_eq, decide_eq_false_iff_not] at hb
    have e : U.frmErr (fr, s, ()) l film frame = 0 := frm_of c ⟨hb.1.1, by omega, by simp only; omega⟩
    have hok := ok_of c
    rw [e, if_pos rfl]
    have := heldG_len l
    have := hpre c
    exact ⟨hpre c, hok.small, by omega, rfl⟩

theorem ok50 : FnOK PR 50 sp50 := mkFn (vc50_eq.mpr h50) Try.func50 (by kernel_rfl) (by kernel_rfl) (by kernel_rfl) (by kernel_rfl) ⟨fun _ => ok37, fun _ => ok44, fun _ => ok45, fun _ => ok47, trivial⟩ trivial

theorem andAll_succ {o : List Int} {a : Int} {j : Nat} (h : j < o.length) : band (U.andAll (o.take j) a) (nth o j) = U.andAll (o.take (j + 1)) a := by
  rw [L.take_succ h]; simp [U.andAll]
theorem orAll_succ {o : List Int} {a : Int} {j : Nat} (h : j < o.length) : bor (U.orAll (o.take j) a) (nth o j) = U.orAll (o.take (j + 1)) a := by
  rw [L.take_succ h]; simp [U.orAll]

theorem h22 : vc22 := by
  rintro ⟨⟨fr, s, ⟨⟩⟩, l, film, frame, ⟨⟩⟩ hpre
  simp only
  refine ⟨hpre, fun h => ?_, fun h => ?_⟩
  · have h : U.frmErr (fr, s, ()) l film frame ≠ 0 := of_decide_eq_true h
    unfold U.sureG U.mayG
    rw [if_neg h, if_neg h]
  · have h : U.frmErr (fr, s, ()) l film frame = 0 := Classical.byContradiction (of_decide_eq_false h)
    obtain ⟨c, _⟩ := frm_zero h
    have hs := (ok_of c).s
    simp only at hs
    have hp := pow_in (by omega) hs.2
    unfold U.sureG U.mayG
    simp only
    rw [if_pos h, if_pos h, if_pos h, h]
    generalize hL : U.smallest s ((U.heldG l).filter (U.inFrame film frame)) = o
    refine ⟨by omega, by omega, by unfold In64; omega, by unfold In64; omega, hs, fun _ => ⟨⟨0, ⟨⟨rfl, rfl, rfl, trivial⟩, trivial⟩, Nat.zero_le _⟩, fun j hj => ⟨fun hc => ?_, fun hc => ?_⟩⟩⟩
    · have hc : j < o.length := by have := of_decide_eq_true hc; omega
      have hlen : o.length ≤ 2 ^ s.toNat := by rw [← hL]; exact small_len _ _
      have hpn : (((2 : Nat) ^ s.toNat : Nat) : Int) = (2 : Int) ^ s.toNat := by simp
      simp only [Int.toNat_natCast]
      exact ⟨by omega, by omega, by unfold In64; omega, j + 1, ⟨⟨by simp, orAll_succ hc, andAll_succ hc, trivial⟩, trivial⟩, by omega, by omega⟩
    · have hc : o.length ≤ j := by have := of_decide_eq_false hc; omega
      rw [List.take_of_length_le hc]

theorem ok22 : FnOK PR 22 sp22 := mkFn (vc22_eq.mpr h22) Try.func22 (by kernel_rfl) (by kernel_rfl) (by kernel_rfl) (by kernel_rfl) ⟨fun _ => ok50, fun _ => ok46, trivial⟩ trivial

/-- Sure, in a frame -/
theorem sure_of {f : FD} {l : List GD} {film frame : Int} (c : U.check f l = 0) (hf : 0 ≤ film ∧ film < f.1.length) (hk : 0 ≤ frame ∧ frame < nth f.1 film.toNat) :
    ∃ h r q : Nat, U.setAt f.2.1 (U.heldG l) film frame.toNat = (h : Int) ∧ U.sureG f l film frame = (r : Int) ∧ U.mayG f l film frame = (q : Int) ∧ M.Best f.2.1.toNat (U.at' l film frame) h ∧ r < 2 ^ f.2.1.toNat ∧ q < 2 ^ f.2.1.toNat ∧
      (∀ n : Nat, n < 2 ^ f.2.1.toNat → U.agrees (n : Int) (U.at' l film frame) = true → U.size (n : Int) = U.size (h : Int) → M.Sub r n ∧ M.Sub n q) := by
  have hok := ok_of c
  have hs := hok.s
  have e := frm_of c ⟨hf, hk⟩
  have hsg := frame_sg hok (U.inFrame film frame)
  have hs10 : f.2.1.toNat ≤ 10 := by omega
  obtain ⟨h, eh, hb, hm, hall⟩ := M.smalls (s := f.2.1) (by omega) hs.2 hsg
  have hel : ∀ x ∈ U.smallest f.2.1 ((U.heldG l).filter (U.inFrame film frame)), ∃ n : Nat, x = (n : Int) ∧ n < 2 ^ f.2.1.toNat := fun x hx => by
    obtain ⟨n, e1, e2, _⟩ := (hall x).1 hx
    exact ⟨n, e1, e2⟩
  have hpos : 0 < 2 ^ f.2.1.toNat := Nat.pow_pos (by omega)
  obtain ⟨r, r1, r2, _, r4, _⟩ := M.andAll_nat hs10 _ (2 ^ f.2.1.toNat - 1) (by omega) hel
  obtain ⟨q, q1, q2, _, q4⟩ := M.orAll_nat hs10 _ 0 hpos hel
  refine ⟨h, r, q, ?_, ?_, ?_, ?_, r2, q2, fun n hn ha hsz => ?_⟩
  · unfold U.setAt
    rw [Int.toNat_of_nonneg hk.1]; exact eh
  · unfold U.sureG
    rw [if_pos e, ← r1]
    congr 1
    have hc : ((2 ^ f.2.1.toNat : Nat) : Int) = (2 : Int) ^ f.2.1.toNat := by simp
    omega
  · unfold U.mayG
    rw [if_pos e, ← q1]
    rfl
  · rw [M.at_eq hok]; exact hb
  · rw [M.at_eq hok] at ha
    have := (hall (n : Int)).2 ⟨n, rfl, hn, ha, hsz⟩
    exact ⟨r4 n this, q4 n this⟩

theorem h6 : vc6 := by
  rintro ⟨⟨fr, s, ⟨⟩⟩, l, ⟨film, frame, a, b, set, ⟨⟩⟩, ⟨⟩⟩ _
  simp only
  refine ⟨fun _ => trivial, fun h => ?_⟩
  simp only [Bool.or_eq_false_iff, Bool.not_eq_false', decide_eq_false_iff_not] at h
  obtain ⟨v1, v2⟩ := h
  obtain ⟨c1, n1, o1, _, _⟩ := M.valid_of v1
  have v2 : U.frameErr (fr, s, ()) l film frame = 0 := Classical.byContradiction v2
  obtain ⟨hfilm, hk⟩ := M.frame_zero c1 v2
  have f1 := M.filmErr_zero c1 hfilm
  have f2 := frm_of c1 ⟨hfilm, hk⟩
  have len1 := M.readings_len c1 hfilm
  have at1 := M.readings_at c1 hfilm hk
  obtain ⟨h, r, q, e1, e2, e3, hb, hr, hq, hsub⟩ := sure_of c1 hfilm hk
  rw [e1] at at1
  simp only at len1 at1 e1 e2 e3 hb hr hq hsub
  have hs := o1.s
  simp only at hs
  have hp := pow_in (by omega) hs.2
  have hpn : ((2 ^ s.toNat : Nat) : Int) = (2 : Int) ^ s.toNat := by simp
  have hs10 : s.toNat ≤ 10 := by omega
  have hp10 : (2 : Nat) ^ s.toNat ≤ 2 ^ 10 := Nat.pow_le_pow_right (by omega) hs10
  have hsg := frame_sg o1 (U.inFrame film frame)
  rw [← M.at_eq o1] at hsg
  have hlt := hb.lt
  obtain ⟨s1, s2⟩ := hsub h hb.lt hb.ag rfl
  have hqa : U.agrees (q : Int) (U.at' l film frame) = true := by
    rw [M.agrees_iff hs10 hq hsg]
    have hha := hb.ag
    rw [M.agrees_iff hs10 hb.lt hsg] at hha
    intro g hg h0
    refine hha g hg ?_
    apply Nat.eq_of_testBit_eq
    intro i
    rw [Nat.zero_testBit]
    cases hx : (h &&& (U.sg g).toNat).testBit i with
    | false => rfl
    | true =>
      rw [Nat.testBit_and, Bool.and_eq_true] at hx
      have : (q &&& (U.sg g).toNat).testBit i = true := by rw [Nat.testBit_and, s2 i hx.1, hx.2]; rfl
      rw [h0, Nat.zero_testBit] at this
      cases this
  have z1 : bandn (r : Int) (h : Int) = 0 := M.bandn_nat (by omega) (by omega) s1
  have z2 : bandn (h : Int) (q : Int) = 0 := M.bandn_nat (by omega) (by omega) s2
  have big : s ≤ 18446744073709551615 := by omega
  have i64 : In64 (1 * 2 ^ s.toNat) := by unfold In64; omega
  have z3 : decide (bandn (r : Int) (h : Int) ≠ 0) = false := decide_eq_false (by rw [z1]; simp)
  have z4 : decide (bandn (h : Int) (q : Int) ≠ 0) = false := decide_eq_false (by rw [z2]; simp)
  rw [at1.1, e2, e3]
  refine ⟨fun _ => n1, fun _ => n1, fun _ => ⟨fun _ => hfilm.1, fun _ => hfilm.2, fun hx => ?_, fun _ => ⟨by omega, by omega, fun g hg => by have := o1.gl g hg; omega, fun _ => by omega, fun _ => big, fun _ => by omega, fun _ => by omega, fun _ => i64, fun hx => ?_, fun _ => ⟨fun _ => by omega, fun _ => big, fun _ => by omega, fun _ => by omega, fun _ => i64, fun _ => trivial, fun hx => ?_⟩⟩⟩⟩
  · exfalso
    rw [f1, f2, decide_eq_false (show ¬ nth fr film.toNat < ((U.readings (fr, s, ()) l film).length : Int) by omega)] at hx
    exact absurd hx (by decide)
  · exfalso
    rw [decide_eq_true at1.2, decide_eq_false (show ¬ (h : Int) < 0 by omega), decide_eq_false (show ¬ (1 * 2 ^ s.toNat : Int) ≤ (h : Int) by omega), hb.ag, z3, z4, hqa] at hx
    exact absurd hx (by decide)
  · simp only [Bool.or_eq_false_iff, Bool.not_eq_false', decide_eq_false_iff_not] at hx
    obtain ⟨⟨x1, x2⟩, x3⟩ := hx
    rw [Bool.and_true]
    refine congrArg (·, ()) ?_
    obtain ⟨n, rfl⟩ : ∃ n : Nat, set = (n : Int) := ⟨set.toNat, by omega⟩
    rcases hb.min n (by omega) x3 with hm | ⟨hm, hle⟩
    · rw [decide_eq_true hm]; rfl
    · obtain ⟨t1, t2⟩ := hsub n (by omega) x3 hm.symm
      have y1 : bandn (r : Int) (n : Int) = 0 := M.bandn_nat (by omega) (by omega) t1
      have y2 : bandn (n : Int) (q : Int) = 0 := M.bandn_nat (by omega) (by omega) t2
      rw [decide_eq_true hm, decide_eq_true y1, decide_eq_true y2, decide_eq_true (show (h : Int) ≤ (n : Int) by omega)]
      simp

theorem ok6 : FnOK PR 6 sp6 := mkFn (vc6_eq.mpr h6) Try.func6 (by kernel_rfl) (by kernel_rfl) (by kernel_rfl) (by kernel_rfl) ⟨fun _ => ok13, fun _ => ok14, fun _ => ok15, fun _ => ok16, fun _ => ok17, fun _ => ok18, fun _ => ok19, fun _ => ok22, fun _ => ok23, trivial⟩ trivial

end Go.X
