/-
  The statement 'GlossesReads' is true of what the program and the specification compute.
-/
import Derived.Test.YtoijahccalbjiaaG8
namespace Go.X
open Go.Proofs

theorem frame_of {f : FD} {l : List GD} {film frame : Int} (h : U.frameErr f l film frame = 0) : U.check f l = 0 ∧ (0 ≤ film ∧ film < f.1.length) ∧ 0 ≤ frame ∧ frame < nth f.1 film.toNat := by
  have c : U.check f l = 0 := by
    unfold U.frameErr at h
    split at h
    · rename_i hc; exact absurd h hc
    · rename_i hc; exact Classical.byContradiction hc
  exact ⟨c, M.frame_zero c h⟩

theorem at_sg {f : FD} {l : List GD} (h : Ok f l) (film frame : Int) : ∀ g ∈ U.at' l film frame, M.Sg f.2.1.toNat g := by
  rw [M.at_eq h]; exact frame_sg h (U.inFrame film frame)

theorem smallest_pos {f : FD} {l : List GD} (h : Ok f l) (film frame : Int) : 0 < (U.smallest f.2.1 (U.at' l film frame)).length := by
  have hs := h.s
  obtain ⟨hne, _⟩ := M.best (s := f.2.1) (by omega) hs.2 (at_sg h film frame)
  exact List.length_pos_iff.2 hne

theorem h28 : vc28 := by
  rintro ⟨⟨fr, s, ⟨⟩⟩, l, film, frame, ⟨⟩⟩
  simp only
  refine ⟨fun h => ?_, fun h => ?_⟩
  · have h : U.frameErr (fr, s, ()) l film frame ≠ 0 := of_decide_eq_true h
    unfold U.sureR U.mayR
    rw [if_neg h, if_neg h]
  · have h : U.frameErr (fr, s, ()) l film frame = 0 := Classical.byContradiction (of_decide_eq_false h)
    obtain ⟨c, _⟩ := frame_of h
    have hok := ok_of c
    have hs := hok.s
    have hpos := smallest_pos hok film frame
    simp only at hs hpos
    have hln := hok.len
    have hlen : (U.smallest s (U.at' l film frame)).length ≤ 2 ^ s.toNat := small_len _ _
    have hp := pow_in (by omega) hs.2
    have hpn : (((2 : Nat) ^ s.toNat : Nat) : Int) = (2 : Int) ^ s.toNat := by simp
    unfold U.sureR U.mayR
    simp only
    rw [if_pos h, if_pos h, h]
    generalize U.smallest s (U.at' l film frame) = o at hpos hlen ⊢
    refine ⟨by omega, fun g hg => by have := hok.gl g hg; omega, hs, by omega, by omega, ⟨0, ⟨⟨rfl, rfl, rfl, trivial⟩, trivial⟩, Nat.zero_le _⟩, fun j hj _ => ⟨fun hc => ?_, fun hc => ?_⟩⟩
    · have hc : j < o.length := by have := of_decide_eq_true hc; omega
      simp only [Int.toNat_natCast]
      exact ⟨by omega, by omega, by omega, by omega, by unfold In64; omega, j + 1, ⟨⟨by simp, orAll_succ hc, andAll_succ hc, trivial⟩, trivial⟩, by omega, by omega⟩
    · have hc : o.length ≤ j := by have := of_decide_eq_false hc; omega
      rw [List.take_of_length_le hc]
      rfl

theorem ok28 : FnOK PR 28 sp28 := mkFn (vc28_eq.mpr h28) Try.func28 (by kernel_rfl) (by kernel_rfl) (by kernel_rfl) (by kernel_rfl) ⟨fun _ => ok14, fun _ => ok16, fun _ => ok51, trivial⟩ trivial

theorem sumN_in {f : Nat → Int} {b : Int} : ∀ {n : Nat}, (∀ k, k < n → 0 ≤ f k ∧ f k ≤ b) → 0 ≤ U.sumN f n ∧ U.sumN f n ≤ b * n
  | 0, _ => by simp [U.sumN]
  | n + 1, h => by
    have := sumN_in (n := n) (fun k hk => h k (by omega))
    have := h n (by omega)
    rw [M.sumN_succ]
    have : b * ((n + 1 : Nat) : Int) = b * n + b := by rw [Int.natCast_add, Int.mul_add]; simp
    omega

theorem cntB_in (l : List GD) (a b : Int) (φ k : Nat) : 0 ≤ U.cntB l a b φ k ∧ U.cntB l a b φ k ≤ 1 := by
  unfold U.cntB; split <;> omega
theorem cntS_in (l : List GD) (a b : Int) (φ k : Nat) : 0 ≤ U.cntS l a b φ k ∧ U.cntS l a b φ k ≤ 1 := by
  unfold U.cntS; split <;> omega

theorem h29 : vc29 := by
  rintro ⟨⟨fr, s, ⟨⟩⟩, l, a, b, ⟨⟩⟩
  simp only
  refine ⟨fun h => ?_, fun h => ⟨fun h2 => ?_, fun h2 => ?_⟩⟩
  · have h : U.check (fr, s, ()) l ≠ 0 := of_decide_eq_true h
    have e : U.autErr (fr, s, ()) l a b = U.check (fr, s, ()) l := by unfold U.autErr; rw [if_pos h]
    unfold U.bothR U.sameR
    rw [e, if_neg h, if_neg h]
  · have c : U.check (fr, s, ()) l = 0 := Classical.byContradiction (of_decide_eq_false h)
    have h2 : U.areAuthors a b = false := L.not_true h2
    have e : U.autErr (fr, s, ()) l a b = 1 := by unfold U.autErr; rw [if_neg (by rw [c]; simp), if_neg (by rw [h2]; simp)]
    unfold U.bothR U.sameR
    rw [e, if_neg (by omega), if_neg (by omega)]
  · have c : U.check (fr, s, ()) l = 0 := Classical.byContradiction (of_decide_eq_false h)
    have h2 : U.areAuthors a b = true := L.not_false h2
    have e : U.autErr (fr, s, ()) l a b = 0 := by unfold U.autErr; rw [if_neg (by rw [c]; simp), if_pos h2]
    have hok := ok_of c
    have hfr := hok.fr
    have hnf := hok.nf
    have hln := hok.len
    simp only at hfr hnf
    unfold U.bothR U.sameR
    rw [e, if_pos rfl, if_pos rfl]
    have rowB : ∀ φ, φ < fr.length → 0 ≤ U.sumN (U.cntB l a b φ) (nth fr φ).toNat ∧ U.sumN (U.cntB l a b φ) (nth fr φ).toNat ≤ 200 := fun φ hφ => by
      have := sumN_in (b := 1) (n := (nth fr φ).toNat) (fun k _ => cntB_in l a b φ k)
      have := hfr _ (L.mem_nth hφ)
      omega
    have rowS : ∀ φ, φ < fr.length → 0 ≤ U.sumN (U.cntS l a b φ) (nth fr φ).toNat ∧ U.sumN (U.cntS l a b φ) (nth fr φ).toNat ≤ 200 := fun φ hφ => by
      have := sumN_in (b := 1) (n := (nth fr φ).toNat) (fun k _ => cntS_in l a b φ k)
      have := hfr _ (L.mem_nth hφ)
      omega
    refine ⟨⟨0, ⟨⟨rfl, rfl, rfl, trivial⟩, trivial⟩, Nat.zero_le _⟩, fun i hi _ => ⟨fun hc => ?_, fun hc => ?_⟩⟩
    · have hc : i < fr.length := by have := of_decide_eq_true hc; omega
      have bB := sumN_in (b := 200) (n := i) (fun φ hφ => rowB φ (by omega))
      have bS := sumN_in (b := 200) (n := i) (fun φ hφ => rowS φ (by omega))
      have sB := M.sumN_succ (fun φ => U.sumN (U.cntB l a b φ) (nth fr φ).toNat) i
      have sS := M.sumN_succ (fun φ => U.sumN (U.cntS l a b φ) (nth fr φ).toNat) i
      have hni := hfr _ (L.mem_nth hc)
      simp only [Int.toNat_natCast]
      generalize U.sumN (fun φ => U.sumN (U.cntB l a b φ) (nth fr φ).toNat) i = PB at bB sB ⊢
      generalize U.sumN (fun φ => U.sumN (U.cntS l a b φ) (nth fr φ).toNat) i = PS at bS sS ⊢
      refine ⟨⟨0, ⟨⟨rfl, by simp [M.sumN_zero], by simp [M.sumN_zero], trivial⟩, trivial⟩, Nat.zero_le _⟩, fun k hk => ⟨by omega, by omega, fun hc2 => ?_, fun hc2 => ?_⟩⟩
      · have hc2 : k < (nth fr i).toNat := by have := of_decide_eq_true hc2; omega
        have tB := M.sumN_succ (U.cntB l a b i) k
        have tS := M.sumN_succ (U.cntS l a b i) k
        have cB := sumN_in (b := 1) (n := k) (fun k _ => cntB_in l a b i k)
        have cS := sumN_in (b := 1) (n := k) (fun k _ => cntS_in l a b i k)
        have i64 : In64 ((k : Int) + 1) := by unfold In64; omega
        generalize U.sumN (U.cntB l a b i) k = QB at tB cB ⊢
        generalize U.sumN (U.cntS l a b i) k = QS at tS cS ⊢
        refine ⟨by omega, fun g hg => by have := hok.gl g hg; omega, fun hb => ?_, fun hb => ?_⟩
        · rw [Bool.and_eq_true, decide_eq_true_eq, decide_eq_true_eq] at hb
          have vB : U.cntB l a b i k = 1 := if_pos hb
          refine ⟨by unfold In64; omega, fun hs => ?_, fun hs => ?_⟩
          · have vS : U.cntS l a b i k = 1 := if_pos (of_decide_eq_true hs)
            exact ⟨by unfold In64; omega, i64, k + 1, ⟨⟨by simp, by rw [tS, vS]; omega, by rw [tB, vB]; omega, trivial⟩, trivial⟩, by omega, by omega⟩
          · have vS : U.cntS l a b i k = 0 := if_neg (of_decide_eq_false hs)
            exact ⟨i64, k + 1, ⟨⟨by rw [tS, vS]; omega, by simp, by rw [tB, vB]; omega, trivial⟩, trivial⟩, by omega, by omega⟩
        · have vB : U.cntB l a b i k = 0 := if_neg (fun h => by rw [decide_eq_true h.1, decide_eq_true h.2] at hb; cases hb)
          refine ⟨fun hs => ?_, fun hs => ?_⟩
          · have vS : U.cntS l a b i k = 1 := if_pos (of_decide_eq_true hs)
            exact ⟨by unfold In64; omega, i64, k + 1, ⟨⟨by rw [tB, vB]; omega, by simp, by rw [tS, vS]; omega, trivial⟩, trivial⟩, by omega, by omega⟩
          · have vS : U.cntS l a b i k = 0 := if_neg (of_decide_eq_false hs)
            exact ⟨i64, k + 1, ⟨⟨by rw [tS, vS]; omega, by rw [tB, vB]; omega, by simp, trivial⟩, trivial⟩, by omega, by omega⟩
      · have hc2 : k = (nth fr i).toNat := by have := of_decide_eq_false hc2; omega
        rw [hc2]
        exact ⟨by unfold In64; omega, i + 1, ⟨⟨by simp, sB.symm, sS.symm, trivial⟩, trivial⟩, by omega, by omega⟩
    · have hc : i = fr.length := by have := of_decide_eq_false hc; omega
      rw [hc]

theorem ok29 : FnOK PR 29 sp29 := mkFn (vc29_eq.mpr h29) Try.func29 (by kernel_rfl) (by kernel_rfl) (by kernel_rfl) (by kernel_rfl) ⟨fun _ => ok38, fun _ => ok20, fun _ => ok16, fun _ => ok52, trivial⟩ trivial

theorem reads_nz (f : Nat → Int) : ∀ k, ∀ r ∈ U.readsTo f k, r.2.2.1 ≠ 0
  | 0 => by simp [U.readsTo]
  | k + 1 => by
    rw [M.readsTo_succ]
    have ih := reads_nz f k
    unfold U.stepR
    split
    · exact ih
    · rename_i h0
      split
      · rename_i hj
        intro r hr
        rcases List.mem_or_eq_of_mem_set hr with hr | rfl
        · exact ih r hr
        · rw [hj.2.2]; exact h0
      · intro r hr
        rcases List.mem_append.1 hr with hr | hr
        · exact ih r hr
        · have : r = ((k : Int), (k : Int) + 1, f k, ()) := by simpa using hr
          subst this; exact h0

theorem h26 : vc26 := by
  rintro ⟨⟨fr, s, ⟨⟩⟩, l, film, ⟨⟩⟩
  simp only
  refine ⟨fun h => ?_, fun h => ?_⟩
  · have h : U.frameErr (fr, s, ()) l film 0 ≠ 0 := of_decide_eq_true h
    unfold U.readingsR
    rw [if_neg h]
  · have h : U.frameErr (fr, s, ()) l film 0 = 0 := Classical.byContradiction (of_decide_eq_false h)
    obtain ⟨c, hfilm, _⟩ := frame_of h
    have hok := ok_of c
    have hs := hok.s
    have hln := hok.len
    have hn := hok.fr _ (L.mem_nth (l := fr) (i := film.toNat) (by have : film < (fr.length : Int) := hfilm.2; omega))
    have hr : U.readingsR (fr, s, ()) l film = U.readsTo (U.setR s l film) (nth fr film.toNat).toNat := by unfold U.readingsR; rw [if_pos h]
    simp only at hs
    refine ⟨⟨0, ⟨⟨rfl, trivial, trivial⟩, rfl, trivial⟩, Nat.zero_le _⟩, fun k hk => ⟨hfilm.1, hfilm.2, fun hc => ?_, fun hc => ?_⟩⟩
    · have hc : k < (nth fr film.toNat).toNat := by have := of_decide_eq_true hc; omega
      have hpos := smallest_pos hok film k
      have hset : nth (U.smallest s (U.at' l film (k : Int))) (Int.toNat 0) = U.setR s l film k := rfl
      rw [hset]
      have hR := M.reads (U.setR s l film) k
      have hsucc := M.readsTo_succ (U.setR s l film) k
      have hnz := reads_nz (U.setR s l film) k
      generalize U.readsTo (U.setR s l film) k = out at hR hsucc hnz ⊢
      have i1 : In64 ((k : Int) + 1) := by unfold In64; omega
      have hrl := hR.len
      have il : In64 ((out.length : Int) - 1) := by unfold In64; omega
      simp only at hpos
      refine ⟨by omega, fun g hg => by have := hok.gl g hg; omega, hs, by omega, by omega, fun _ => ⟨fun _ => il, fun hd => by have := of_decide_eq_true hd; omega, fun _ => by omega, fun _ => il, fun hd => by rw [Bool.and_eq_true] at hd; have := of_decide_eq_true hd.1; omega, fun _ => by omega, fun hd => ?_, fun hd => ?_⟩⟩
      · simp only [Bool.and_eq_true, decide_eq_true_eq] at hd
        obtain ⟨⟨d1, d2⟩, d3⟩ := hd
        have hp : 0 < out.length := by omega
        have hlast : ((out.length : Int) - 1).toNat = out.length - 1 := by omega
        rw [hlast] at d2 d3 ⊢
        have hm := L.mem_nth (l := out) (i := out.length - 1) (by omega)
        have hne : U.setR s l film k ≠ 0 := by rw [← d3]; exact hnz _ hm
        refine ⟨il, by omega, by omega, i1, il, by omega, by omega, i1, k + 1, ⟨⟨trivial, by simp, trivial⟩, ?_, trivial⟩, by omega, by omega⟩
        rw [hsucc]; unfold U.stepR
        rw [if_neg hne, if_pos ⟨hp, d2, d3⟩]
        unfold U.lastR
        rw [d2]
      · have hnj : ¬ (0 < out.length ∧ (U.lastR out).2.1 = (k : Int) ∧ (U.lastR out).2.2.1 = U.setR s l film k) := by
          rintro ⟨j1, j2, j3⟩
          have hlast : ((out.length : Int) - 1).toNat = out.length - 1 := by omega
          rw [hlast] at hd
          unfold U.lastR at j2 j3
          rw [decide_eq_true (show (0 : Int) < (out.length : Int) by omega), decide_eq_true j2, decide_eq_true j3] at hd
          cases hd
        refine ⟨fun hb => ⟨i1, by simp only [List.length_cons, List.length_nil]; omega, i1, k + 1, ⟨⟨by simp, trivial, trivial⟩, ?_, trivial⟩, by omega, by omega⟩, fun hb => ⟨i1, k + 1, ⟨⟨trivial, by simp, trivial⟩, ?_, trivial⟩, by omega, by omega⟩⟩
        · rw [hsucc]; unfold U.stepR
          rw [if_neg (of_decide_eq_true hb), if_neg hnj]
        · rw [hsucc]; unfold U.stepR
          rw [if_pos (Classical.byContradiction (of_decide_eq_false hb))]
    · have hc : k = (nth fr film.toNat).toNat := by have := of_decide_eq_false hc; omega
      rw [hr, h, hc]

theorem ok26 : FnOK PR 26 sp26 := mkFn (vc26_eq.mpr h26) Try.func26 (by kernel_rfl) (by kernel_rfl) (by kernel_rfl) (by kernel_rfl) ⟨fun _ => ok14, fun _ => ok16, fun _ => ok51, trivial⟩ trivial

/-! ### The program and the specification -/

theorem err_film (f : FD) (l : List GD) (film : Int) : U.filmErr f l film = U.frameErr f l film 0 := by
  unfold U.filmErr U.frameErr
  by_cases c : U.check f l ≠ 0
  · rw [if_pos c, if_pos c]
  · rw [if_neg c, if_neg c]
    have hok := ok_of (Classical.byContradiction c)
    by_cases h : 0 ≤ film ∧ film < f.1.length
    · have := hok.fr _ (L.mem_nth (l := f.1) (i := film.toNat) (by omega))
      rw [if_pos h, if_pos (by omega)]
    · rw [if_neg h, if_neg (by omega)]

theorem err_frame (f : FD) (l : List GD) (film frame : Int) : U.frmErr f l film frame = U.frameErr f l film frame := by
  unfold U.frmErr U.frameErr
  split
  · rfl
  · by_cases h : (0 ≤ film ∧ film < f.1.length) ∧ 0 ≤ frame ∧ frame < nth f.1 film.toNat
    · rw [if_pos h, if_pos (by omega)]
    · rw [if_neg h, if_neg (by omega)]

theorem err_auth (f : FD) (l : List GD) (a b : Int) : U.authErr f l a b = U.autErr f l a b := by
  unfold U.authErr U.autErr U.areAuthors
  split
  · rfl
  · by_cases h : 0 ≤ a ∧ a < 8 ∧ 0 ≤ b ∧ b < 8 ∧ a ≠ b
    · rw [if_pos h, if_pos (decide_eq_true (by omega))]
    · rw [if_neg h, if_neg (fun e => h (by have := of_decide_eq_true e; omega))]

theorem readings_same (f : FD) (l : List GD) (film : Int) : U.readings f l film = U.readingsR f l film := by
  unfold U.readings U.readingsR
  rw [err_film]
  split
  · rename_i h
    obtain ⟨c, _⟩ := frame_of h
    have hok := ok_of c
    congr 1
    funext k
    unfold U.setAt U.setR
    rw [M.at_eq hok]
  · rfl

theorem readings_small (f : FD) (l : List GD) (film : Int) : (U.readings f l film).length ≤ 200 := by
  by_cases h : U.filmErr f l film = 0
  · rw [err_film] at h
    obtain ⟨c, hf, _⟩ := frame_of h
    exact (M.readings_len c hf).2
  · unfold U.readings
    rw [if_neg h]; simp

theorem may_same (f : FD) (l : List GD) (film frame : Int) : U.mayG f l film frame = U.mayR f l film frame := by
  unfold U.mayG U.mayR
  rw [err_frame]
  split
  · rename_i h
    obtain ⟨c, _⟩ := frame_of h
    rw [M.at_eq (ok_of c)]
  · rfl

theorem sure_same (f : FD) (l : List GD) (film frame : Int) : U.sureG f l film frame = U.sureR f l film frame := by
  unfold U.sureG U.sureR
  rw [err_frame]
  split
  · rename_i h
    obtain ⟨c, _⟩ := frame_of h
    have hok := ok_of c
    have hs := hok.s
    have hs10 : f.2.1.toNat ≤ 10 := by omega
    rw [M.at_eq hok]
    obtain ⟨h0, eh, hb, hm, hall⟩ := M.smalls (s := f.2.1) (by omega) hs.2 (frame_sg hok (U.inFrame film frame))
    have hel : ∀ x ∈ U.smallest f.2.1 ((U.heldG l).filter (U.inFrame film frame)), ∃ n : Nat, x = (n : Int) ∧ n < 2 ^ f.2.1.toNat := fun x hx => by
      obtain ⟨n, e1, e2, _⟩ := (hall x).1 hx
      exact ⟨n, e1, e2⟩
    have hpos : 0 < 2 ^ f.2.1.toNat := Nat.pow_pos (by omega)
    obtain ⟨r, r1, r2, _, r4, r5⟩ := M.andAll_nat hs10 _ (2 ^ f.2.1.toNat - 1) (by omega) hel
    obtain ⟨q, q1, q2, _, q4, q5⟩ := M.andAll_nat hs10 _ h0 hb.lt hel
    have hc : ((2 ^ f.2.1.toNat : Nat) : Int) = (2 : Int) ^ f.2.1.toNat := by simp
    have e1 : (1 * 2 ^ f.2.1.toNat - 1 : Int) = ((2 ^ f.2.1.toNat - 1 : Nat) : Int) := by omega
    rw [e1, r1, eh, q1]
    congr 1
    apply Nat.eq_of_testBit_eq
    intro i
    rw [Bool.eq_iff_iff]
    constructor
    · intro hi
      exact q5 i (r4 h0 hm i hi) (fun n hn => r4 n hn i hi)
    · intro hi
      refine r5 i ?_ (fun n hn => q4 n hn i hi)
      rw [Nat.testBit_two_pow_sub_one]
      refine decide_eq_true (Classical.byContradiction fun hge => ?_)
      have : q < 2 ^ i := Nat.lt_of_lt_of_le q2 (Nat.pow_le_pow_right (by omega) (by omega))
      rw [Nat.testBit_lt_two_pow this] at hi
      cases hi
  · rfl

theorem h7 : vc7 := by
  rintro ⟨⟨fr, s, ⟨⟩⟩, l, ⟨film, frame, a, b, set, ⟨⟩⟩, ⟨⟩⟩ hfit
  have hl1 : fr.length ≤ 1048576 := hfit.1.1.1
  have hl2 : l.length ≤ 1048576 := hfit.2.1.1
  simp only
  refine ⟨fun _ => trivial, fun hfar => ?_⟩
  have pre : U.check (fr, s, ()) l = 0 → l.length ≤ 12 := fun c => by
    have := (ok_of c).len
    unfold U.far at hfar
    rw [Bool.or_eq_false_iff, decide_eq_false_iff_not] at hfar
    omega
  have hrs := readings_small (fr, s, ()) l film
  rw [readings_same, err_film, err_frame, err_auth, sure_same, may_same]
  rw [readings_same] at hrs
  refine ⟨by omega, by omega, pre, by omega, fun hb => ?_, fun _ => ⟨pre, fun hb => ?_, fun _ => ⟨pre, ?_⟩⟩⟩
  · simp at hb
  · simp at hb
  · rw [Bool.and_true]
    refine congrArg (·, ()) ?_
    by_cases h : U.autErr (fr, s, ()) l a b = 0
    · have c : U.check (fr, s, ()) l = 0 := by
        unfold U.autErr at h
        split at h
        · rename_i hc; exact absurd h hc
        · rename_i hc; exact Classical.byContradiction hc
      have e1 : U.both (U.heldG l) a b = U.bothR (fr, s, ()) l a b := by
        unfold U.bothR
        rw [if_pos h]
        exact M.both_eq (ok_of c) a b
      have e2 : U.same (U.heldG l) a b = U.sameR (fr, s, ()) l a b := by
        unfold U.sameR
        rw [if_pos h]
        exact M.same_eq (ok_of c) a b
      rw [if_pos h, if_pos h, e1, e2]
      simp
    · have e1 : U.bothR (fr, s, ()) l a b = 0 := by unfold U.bothR; rw [if_neg h]
      have e2 : U.sameR (fr, s, ()) l a b = 0 := by unfold U.sameR; rw [if_neg h]
      rw [if_neg h, if_neg h, e1, e2]
      simp

theorem ok7 : FnOK PR 7 sp7 := mkFn (vc7_eq.mpr h7) Try.func7 (by kernel_rfl) (by kernel_rfl) (by kernel_rfl) (by kernel_rfl) ⟨fun _ => ok24, fun _ => ok15, fun _ => ok25, fun _ => ok17, fun _ => ok26, fun _ => ok27, fun _ => ok22, fun _ => ok28, fun _ => ok21, fun _ => ok29, trivial⟩ ⟨ok12, trivial⟩

end Go.X
