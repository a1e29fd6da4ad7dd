/-
  Signs: the book that the program keeps, and the specification's list of entries, plainly.
-/
import Derived.Test.YtafidkjlgchbbaaGreatG1
import Derived.Test.YtafidkjlgchbbaaGreatG4
import Derived.Test.YtafidkjlgchbbaaGreatK9
namespace Go.X
open Go.Proofs

/-! ### Entries in canon form -/

theorem canE_R {x : ED} (h : U.okE x = true) : U.canE x = U.canRE x := by
  unfold U.canE U.canRE; rw [canon_eq (okE_form h)]
theorem canR_canR {f : FmD} (h : U.okForm f = true) : U.canR (U.canR f) = U.canR f := by
  have ha := order_ok.anti f (U.mir f)
  by_cases h1 : U.order (U.mir f) f < 0
  · have e : U.canR f = U.mir f := by unfold U.canR; rw [if_pos h1]
    rw [e]; unfold U.canR; rw [mir_mir h, if_neg (by omega)]
  · have e : U.canR f = f := by unfold U.canR; rw [if_neg h1]
    rw [e, e]
theorem canRE_ok {x : ED} (h : U.okE x = true) : U.okE (U.canRE x) = true := by rw [← canE_R h]; exact canE_ok h
theorem canRE_canRE {x : ED} (h : U.okE x = true) : U.canRE (U.canRE x) = U.canRE x := by
  show (U.id' x, U.sg x, U.rg x, U.canR (U.canR (U.fm x)), U.ag x, ()) = _
  rw [canR_canR (okE_form h)]; rfl
theorem canRE_id (x : ED) : U.id' (U.canRE x) = U.id' x := rfl
theorem canRE_sg (x : ED) : U.sg (U.canRE x) = U.sg x := rfl
theorem ed_ext {a b : ED} (h1 : U.id' a = U.id' b) (h2 : U.sg a = U.sg b) (h3 : U.rg a = U.rg b) (h4 : U.fm a = U.fm b) (h5 : U.ag a = U.ag b) : a = b := by
  obtain ⟨a1, a2, a3, a4, a5, a6⟩ := a
  obtain ⟨b1, b2, b3, b4, b5, b6⟩ := b
  cases h1; cases h2; cases h3; cases h4; cases h5; rfl
theorem eqAt {β : Type} (f : ED → β) {x y : ED} (h : x = y) : f x = f y := congrArg f h
theorem nodup_of_map {α β : Type} {f : α → β} {l : List α} (h : (l.map f).Nodup) : l.Nodup := (List.pairwise_map.1 h).imp (fun h e => h (by rw [e]))
theorem alikeR_iff {a b : ED} : U.alikeR a b = true ↔ U.canRE a = U.canRE b := by
  unfold U.alikeR
  rw [decide_eq_true_iff, order_zero]
  constructor
  · rintro ⟨h1, h2, h3, h4, h5⟩; exact ed_ext h1 h2 h3 h5 h4
  · intro h
    have g := h
    exact ⟨eqAt U.id' (x := U.canRE a) (y := U.canRE b) h, eqAt U.sg (x := U.canRE a) (y := U.canRE b) h, eqAt U.rg (x := U.canRE a) (y := U.canRE b) h, eqAt U.ag (x := U.canRE a) (y := U.canRE b) h, eqAt U.fm (x := U.canRE a) (y := U.canRE b) h⟩
theorem alike_iff {a b : ED} (hid : U.id' a = U.id' b) : U.alike a b = true ↔ a = b := by
  unfold U.alike
  rw [decide_eq_true_iff, order_zero]
  constructor
  · rintro ⟨h2, h3, h4, h5⟩; exact ed_ext hid h2 h3 h5 h4
  · rintro rfl; exact ⟨rfl, rfl, rfl, rfl⟩

/-- no two entries that clash -/
def NC (l : List ED) : Prop := ∀ x, x ∈ l → ∀ y, y ∈ l → U.id' x = U.id' y → U.canRE x = U.canRE y

theorem clash_iff {l : List ED} : U.clash l = false ↔ NC l := by
  unfold U.clash U.clashTo
  constructor
  · intro h
    have key : ∀ i j : Nat, j < i → i < l.length → U.id' (nth l i) = U.id' (nth l j) → U.canRE (nth l i) = U.canRE (nth l j) := by
      intro i j hji hi hid
      have h1 : U.clashAt l i = false := by
        cases e : U.clashAt l i with
        | false => rfl
        | true => rw [List.any_eq_false] at h; exact absurd e (by simpa using h i (List.mem_range.2 hi))
      unfold U.clashAt at h1
      rw [List.any_eq_false] at h1
      have hm : nth l j ∈ l.take i := by
        rw [L.nth_lt (by omega : j < l.length)]
        exact List.mem_take_iff_getElem.2 ⟨j, by omega, rfl⟩
      have h2 := h1 _ hm
      unfold U.clsh at h2
      rw [decide_eq_true hid] at h2
      simp only [Bool.true_and, Bool.not_eq_true', Bool.not_eq_false] at h2
      exact alikeR_iff.1 h2
    intro x hx y hy hid
    obtain ⟨i, hi, ex⟩ := List.mem_iff_getElem.1 hx
    obtain ⟨j, hj, ey⟩ := List.mem_iff_getElem.1 hy
    rw [← L.nth_lt hi] at ex; rw [← L.nth_lt hj] at ey
    subst ex; subst ey
    rcases Nat.lt_trichotomy i j with h1 | h1 | h1
    · exact (key j i h1 hj hid.symm).symm
    · rw [h1]
    · exact key i j h1 hi hid
  · intro h
    rw [List.any_eq_false]
    intro i hi
    rw [List.mem_range] at hi
    intro hc
    unfold U.clashAt at hc
    obtain ⟨y, hy, hc⟩ := List.any_eq_true.1 hc
    unfold U.clsh at hc
    simp only [Bool.and_eq_true, decide_eq_true_eq, Bool.not_eq_true'] at hc
    have hx : nth l i ∈ l := by rw [L.nth_lt hi]; exact List.getElem_mem hi
    have := alikeR_iff.2 (h _ hx _ (List.mem_of_mem_take hy) hc.1)
    rw [this] at hc; exact absurd hc.2 (by simp)

/-! ### First entries -/

theorem firstOf_id {l : List ED} {n : Nat} {y : ED} (h : y ∈ U.firstOf l n) : U.id' y = (n : Int) := by
  obtain ⟨x, _, h1, rfl⟩ := firstOf_mem h
  exact h1
theorem firstOf_app (a b : List ED) (n : Nat) : U.firstOf (a ++ b) n = if U.firstOf a n = [] then U.firstOf b n else U.firstOf a n := by
  unfold U.firstOf
  rw [List.find?_append]
  cases a.find? (fun x => decide (U.id' x = (n : Int))) with
  | none => simp
  | some x => simp
theorem firstOf_nil {l : List ED} {n : Nat} : U.firstOf l n = [] ↔ ∀ x, x ∈ l → U.id' x ≠ (n : Int) := by
  unfold U.firstOf
  cases e : l.find? (fun x => decide (U.id' x = (n : Int))) with
  | none => simpa using e
  | some x =>
    simp only [List.cons_ne_nil, false_iff]
    intro h
    have h1 := List.find?_some e
    exact h x (List.mem_of_find?_eq_some e) (by simpa using h1)
theorem firstOf_one (l : List ED) (n : Nat) : U.firstOf l n = [] ∨ ∃ x, x ∈ l ∧ U.id' x = (n : Int) ∧ U.firstOf l n = [U.canRE x] := by
  unfold U.firstOf
  cases e : l.find? (fun x => decide (U.id' x = (n : Int))) with
  | none => exact .inl rfl
  | some x => exact .inr ⟨x, List.mem_of_find?_eq_some e, by have := List.find?_some e; simpa using this, rfl⟩
/-- just the first entries -/
def Reps (V l : List ED) : Prop := ∀ y, y ∈ V ↔ ∃ n : Nat, y ∈ U.firstOf l n
theorem Reps.first {V l : List ED} (hl : ∀ x, x ∈ l → U.okE x = true) (h : Reps V l) (n : Nat) : U.firstOf V n = U.firstOf l n := by
  rcases firstOf_one l n with e | ⟨x, hx, hid, e⟩
  · rw [e, firstOf_nil]
    intro y hy hn
    obtain ⟨m, hm⟩ := (h y).1 hy
    have := firstOf_id hm
    have : m = n := by omega
    subst this; rw [e] at hm; simp at hm
  · rcases firstOf_one V n with e' | ⟨y, hy, hidy, e'⟩
    · exact absurd hid (firstOf_nil.1 e' (U.canRE x) ((h _).2 ⟨n, by rw [e]; simp⟩))
    · rw [e', e]
      obtain ⟨m, hm⟩ := (h y).1 hy
      have := firstOf_id hm
      have hmn : m = n := by omega
      subst hmn; rw [e] at hm
      simp at hm
      rw [hm, canRE_canRE (hl x hx)]
theorem Reps.perm {V W l : List ED} (h : Reps V l) (hp : W.Perm V) : Reps W l := fun y => (hp.mem_iff).trans (h y)
theorem mem_nat {l : List ED} (hl : ∀ x, x ∈ l → U.okE x = true) {x : ED} (hx : x ∈ l) : ∃ n : Nat, n < 100 ∧ U.id' x = (n : Int) := by
  have := hl x hx
  unfold U.okE at this
  simp only [Bool.and_eq_true, decide_eq_true_eq] at this
  exact ⟨(U.id' x).toNat, by omega, by omega⟩
theorem dist_mem {l : List ED} (hl : ∀ x, x ∈ l → U.okE x = true) : Reps (U.dist l) l := by
  intro y
  unfold U.dist U.distTo
  rw [List.mem_flatMap]
  constructor
  · rintro ⟨n, _, h⟩; exact ⟨n, h⟩
  · rintro ⟨n, h⟩
    obtain ⟨x, hx, hid, rfl⟩ := firstOf_mem h
    obtain ⟨m, hm, hm'⟩ := mem_nat hl hx
    exact ⟨n, List.mem_range.2 (by omega), h⟩
theorem dist_congr {a b : List ED} (h : ∀ n, U.firstOf a n = U.firstOf b n) : U.dist a = U.dist b := by
  unfold U.dist U.distTo
  congr 1
  funext n; exact h n

/-! ### What the program's map holds -/

structure BInv (p : Bool × Bk) (L : List ED) : Prop where
  ok : OkBk p.2
  reps : Reps (U.vals p.2) L
  nc : p.1 = true ↔ NC L
theorem vals_key {b : Bk} (hb : OkBk b) {k : Int} : k ∈ b.map (·.1) ↔ ∃ v, v ∈ U.vals b ∧ U.id' v = k := by
  unfold U.vals
  constructor
  · intro h
    obtain ⟨p, hp, rfl⟩ := List.mem_map.1 h
    exact ⟨p.2, List.mem_map.2 ⟨p, hp, rfl⟩, (hb.key p hp).symm⟩
  · rintro ⟨v, hv, rfl⟩
    obtain ⟨p, hp, rfl⟩ := List.mem_map.1 hv
    exact List.mem_map.2 ⟨p, hp, hb.key p hp⟩
theorem firstOf_of {L : List ED} {x : ED} (hx : x ∈ L) {n : Nat} (hid : U.id' x = (n : Int)) : ∃ z, z ∈ L ∧ U.id' z = (n : Int) ∧ U.firstOf L n = [U.canRE z] := by
  rcases firstOf_one L n with e | h
  · exact absurd hid (firstOf_nil.1 e x hx)
  · exact h
theorem BInv.step {p : Bool × Bk} {L : List ED} (_ : ∀ x, x ∈ L → U.okE x = true) (h : BInv p L) {x : ED} (hx : U.okE x = true) : BInv (U.add1 p x) (L ++ [x]) := by
  have hok := add1_ok h.ok hx
  obtain ⟨n, _, hn⟩ := mem_nat (l := [x]) (by simpa using hx) (List.mem_singleton.2 rfl)
  by_cases hm : misS (mfind .int (U.id' x) p.2) = true
  · rw [add1_old hm] at hok ⊢
    obtain ⟨v, hv⟩ : ∃ v, mfind .int (U.id' x) p.2 = some v := by
      cases e : mfind .int (U.id' x) p.2 with
      | none => rw [e] at hm; simp [misS] at hm
      | some v => exact ⟨v, rfl⟩
    have hmem := mfind_mem hv
    have hvid : U.id' v = U.id' x := (h.ok.key _ hmem).symm
    have hvv : v ∈ U.vals p.2 := List.mem_map.2 ⟨_, hmem, rfl⟩
    obtain ⟨m, hvm⟩ := (h.reps v).1 hvv
    have hmn : m = n := by have := firstOf_id hvm; omega
    subst hmn
    obtain ⟨z, hz, hzid, rfl⟩ := firstOf_mem hvm
    have hfirst : ∀ k, U.firstOf (L ++ [x]) k = U.firstOf L k := by
      intro k
      rw [firstOf_app]
      split
      · rename_i e
        have : k ≠ m := by rintro rfl; rw [e] at hvm; simp at hvm
        rw [e, firstOf_nil]
        intro y hy; rw [List.mem_singleton.1 hy]; omega
      · rfl
    refine ⟨hok, fun y => (h.reps y).trans (exists_congr fun k => by rw [hfirst]), ?_⟩
    rw [hv]
    show (p.1 && U.alike (U.canRE z) (U.canE x)) = true ↔ _
    rw [Bool.and_eq_true, h.nc, canE_R hx, alike_iff (by rw [canRE_id, canRE_id]; omega)]
    constructor
    · rintro ⟨h1, h2⟩ a ha b hb hab
      have hz' : ∀ a, a ∈ L → U.id' a = U.id' x → U.canRE a = U.canRE x := fun a ha e => by rw [← h2]; exact h1 a ha z hz (by omega)
      rcases List.mem_append.1 ha with ha | ha <;> rcases List.mem_append.1 hb with hb | hb
      · exact h1 a ha b hb hab
      · rw [List.mem_singleton.1 hb] at hab ⊢; exact hz' a ha hab
      · rw [List.mem_singleton.1 ha] at hab ⊢; exact (hz' b hb hab.symm).symm
      · rw [List.mem_singleton.1 ha, List.mem_singleton.1 hb]
    · intro hN
      exact ⟨fun a ha b hb => hN a (List.mem_append_left _ ha) b (List.mem_append_left _ hb), hN z (List.mem_append_left _ hz) x (by simp) (by omega)⟩
  · have hm : misS (mfind .int (U.id' x) p.2) = false := by simpa using hm
    rw [add1_new hm] at hok ⊢
    have hk := mfind_none.1 hm
    have hno : ∀ y, y ∈ L → U.id' y ≠ (n : Int) := by
      intro y hy e
      obtain ⟨z, hz, hzid, hf⟩ := firstOf_of hy e
      exact hk ((vals_key h.ok).2 ⟨U.canRE z, (h.reps _).2 ⟨n, by rw [hf]; simp⟩, by rw [canRE_id]; omega⟩)
    have hLn : U.firstOf L n = [] := firstOf_nil.2 hno
    refine ⟨hok, fun y => ?_, ?_⟩
    · show y ∈ U.vals (mput .int (U.id' x) (U.canE x) p.2) ↔ _
      rw [mput_new hk, canE_R hx]
      unfold U.vals
      rw [List.map_append, List.mem_append]
      show y ∈ U.vals p.2 ∨ y ∈ [U.canRE x] ↔ _
      rw [h.reps y]
      constructor
      · rintro (⟨k, hk⟩ | hy)
        · exact ⟨k, by rw [firstOf_app]; split; · rename_i e; rw [e] at hk; simp at hk
                       · exact hk⟩
        · refine ⟨n, ?_⟩
          rw [firstOf_app, if_pos hLn]
          obtain ⟨z, hz, _, hf⟩ := firstOf_of (L := [x]) (List.mem_singleton.2 rfl) hn
          rw [hf, List.mem_singleton.1 hz]; exact hy
      · rintro ⟨k, hy⟩
        rw [firstOf_app] at hy
        split at hy
        · obtain ⟨z, hz, _, rfl⟩ := firstOf_mem hy
          rw [List.mem_singleton.1 hz]; exact .inr (by simp)
        · exact .inl ⟨k, hy⟩
    · show p.1 = true ↔ _
      rw [h.nc]
      constructor
      · intro h1 a ha b hb hab
        rcases List.mem_append.1 ha with ha | ha <;> rcases List.mem_append.1 hb with hb | hb
        · exact h1 a ha b hb hab
        · rw [List.mem_singleton.1 hb] at hab; exact absurd (by omega) (hno a ha)
        · rw [List.mem_singleton.1 ha] at hab; exact absurd (by omega) (hno b hb)
        · rw [List.mem_singleton.1 ha, List.mem_singleton.1 hb]
      · intro h1 a ha b hb
        exact h1 a (List.mem_append_left _ ha) b (List.mem_append_left _ hb)
theorem BInv.fold : ∀ (l : List ED) {p : Bool × Bk} {L : List ED}, (∀ x, x ∈ L → U.okE x = true) → (∀ x, x ∈ l → U.okE x = true) → BInv p L → BInv (l.foldl U.add1 p) (L ++ l)
  | [], p, L, _, _, h => by simpa using h
  | x :: r, p, L, hL, hl, h => by
    have := BInv.fold r (p := U.add1 p x) (L := L ++ [x]) (fun y hy => (List.mem_append.1 hy).elim (hL y) (fun hy => by rw [List.mem_singleton.1 hy]; exact hl x (by simp))) (fun y hy => hl y (by simp [hy])) (h.step hL (hl x (by simp)))
    rw [List.append_assoc] at this
    exact this
theorem addTo_inv {b : Bk} {L l : List ED} (hb : OkBk b) (hL : ∀ x, x ∈ L → U.okE x = true) (hr : Reps (U.vals b) L) (hn : NC L) (hl : ∀ x, x ∈ l → U.okE x = true) : BInv (U.addTo b l) (L ++ l) :=
  BInv.fold l hL hl ⟨hb, hr, by simp [hn]⟩
theorem addTo_nil {l : List ED} (hl : ∀ x, x ∈ l → U.okE x = true) : BInv (U.addTo [] l) l :=
  addTo_inv (L := []) okB_nil (by simp) (by intro y; simp [U.vals, U.firstOf]) (by intro x hx; simp at hx) hl

/-! ### Check -/

theorem isB_iff {l : List ED} : U.isB l = true ↔ l.length ≤ 40 ∧ ∀ x, x ∈ l → U.okE x = true := by
  unfold U.isB; rw [Bool.and_eq_true, decide_eq_true_iff, List.all_eq_true]
theorem opn_def (l : List ED) : U.opn l = if U.isB l = false then ([], 11, ()) else if (U.addTo [] l).1 = false then ([], 12, ()) else ((U.addTo [] l).2, 0, ()) := by
  unfold U.opn
  by_cases h : U.isB l = false
  · rw [if_pos h, if_pos]
    unfold U.isB at h
    rw [Bool.and_eq_false_iff] at h
    rcases h with h | h
    · exact .inl (by simpa using h)
    · exact .inr h
  · rw [if_neg h, if_neg]
    have h := isB_iff.1 (by simpa using h)
    rintro (h1 | h1)
    · omega
    · rw [List.all_eq_true.2 h.2] at h1; simp at h1
theorem chk_eq (l : List ED) : (U.opn l).2.1 = U.chk l := by
  rw [opn_def]
  unfold U.chk
  by_cases h : U.isB l = false
  · rw [if_pos h, if_pos h]
  · rw [if_neg h, if_neg h]
    have hl := (isB_iff.1 (by simpa using h)).2
    have hi := (addTo_nil hl).nc
    cases e : (U.addTo [] l).1 with
    | false =>
      rw [if_pos rfl]
      rw [if_pos]
      cases ec : U.clash l with
      | true => rfl
      | false => have := hi.2 (clash_iff.1 ec); rw [e] at this; simp at this
    | true =>
      rw [if_neg (by simp), if_neg]
      rw [clash_iff.2 (hi.1 e)]; simp

/-- a book that is valid -/
structure Book (l : List ED) : Prop where
  len : l.length ≤ 40
  ok : ∀ x, x ∈ l → U.okE x = true
  nc : NC l
theorem chk_iff {l : List ED} : U.chk l = 0 ↔ Book l := by
  constructor
  · intro h
    obtain ⟨h1, h2⟩ := chk_zero h
    exact ⟨(isB_iff.1 h1).1, (isB_iff.1 h1).2, clash_iff.1 h2⟩
  · intro h
    unfold U.chk
    rw [if_neg (by rw [isB_iff.2 ⟨h.len, h.ok⟩]; simp), if_neg (by rw [clash_iff.2 h.nc]; simp)]
theorem Book.opn {l : List ED} (h : Book l) : (U.opn l).1 = (U.addTo [] l).2 := by
  rw [opn_def, if_neg (by rw [isB_iff.2 ⟨h.len, h.ok⟩]; simp), if_neg]
  rw [(addTo_nil h.ok).nc.2 h.nc]; simp
theorem Book.reps {l : List ED} (h : Book l) : Reps (U.vals (U.opn l).1) l := by rw [h.opn]; exact (addTo_nil h.ok).reps
theorem nodup_vals {b : Bk} (hb : OkBk b) : ((U.vals b).map U.id').Nodup := by
  have : (U.vals b).map U.id' = b.map (·.1) := by
    unfold U.vals
    rw [List.map_map]
    exact List.map_congr_left (fun p hp => (hb.key p hp).symm)
  rw [this]; exact hb.nodup
theorem reps_perm {b : Bk} {l : List ED} (hb : OkBk b) (hl : ∀ x, x ∈ l → U.okE x = true) (h : Reps (U.vals b) l) : (U.vals b).Perm (U.dist l) :=
  (List.perm_ext_iff_of_nodup (nodup_of_map (nodup_vals hb)) (nodup_of_map (dist_nodup l))).2 (fun y => (h y).trans (dist_mem hl y).symm)
theorem Book.perm {l : List ED} (h : Book l) : (U.vals (U.opn l).1).Perm (U.dist l) := reps_perm (opn_ok l) h.ok h.reps

/-! ### Order and Merge -/

theorem ord_eq (l : List ED) : U.ord l = U.ordR l := by
  unfold U.ord U.ordR
  rw [chk_eq]
  by_cases h : U.chk l = 0
  · rw [if_neg (by simp [h]), if_neg (by simp [h])]
    have hb := chk_iff.1 h
    rw [show U.srtE (U.vals (U.opn l).1) = U.srtE (U.dist l) from sortBy_congr ((ordE (opn_ok l)).perm hb.perm.symm) hb.perm]
  · rw [if_pos h, if_pos h]
theorem dist_asc (l : List ED) : Asc' (U.lessF tE fun x => (U.cmp (U.id' x.1) (U.id' x.2.1), ())) (U.dist l) := by
  have := distTo_asc l 100
  rw [List.pairwise_map] at this
  refine List.Pairwise.imp ?_ this
  intro a b hab
  unfold U.lessF
  refine decide_eq_false ?_
  show ¬ U.cmp (U.id' b) (U.id' a) < 0
  rw [cmp_neg]; omega
theorem srtI_dist {b : Bk} {l : List ED} (hb : OkBk b) (hl : ∀ x, x ∈ l → U.okE x = true) (h : Reps (U.vals b) l) : U.srtI (U.vals b) = U.dist l :=
  (sortBy_eq (ordI hb) (reps_perm hb hl h).symm (dist_asc l)).symm
theorem nc_of_mem {a b : List ED} (h : ∀ x, x ∈ a → ∃ y, y ∈ b ∧ U.canRE x = U.canRE y) (hb : NC b) : NC a := by
  intro x hx y hy hid
  obtain ⟨x', hx', ex⟩ := h x hx
  obtain ⟨y', hy', ey⟩ := h y hy
  rw [ex, ey]
  refine hb x' hx' y' hy' ?_
  have h1 := congrArg U.id' ex
  have h2 := congrArg U.id' ey
  rw [canRE_id, canRE_id] at h1 h2
  omega
/-- each entry's canon is a first entry, and each first entry one's canon -/
theorem Book.to {l V : List ED} (hb : Book l) (h : Reps V l) {x : ED} (hx : x ∈ l) : U.canRE x ∈ V := by
  obtain ⟨n, _, hn⟩ := mem_nat hb.ok hx
  obtain ⟨z, hz, hzid, hf⟩ := firstOf_of hx hn
  exact (h _).2 ⟨n, by rw [hf, List.mem_singleton]; exact hb.nc x hx z hz (by omega)⟩
theorem Reps.of {l V : List ED} (h : Reps V l) {y : ED} (hy : y ∈ V) : ∃ x, x ∈ l ∧ y = U.canRE x := by
  obtain ⟨n, hn⟩ := (h y).1 hy
  obtain ⟨x, hx, _, e⟩ := firstOf_mem hn
  exact ⟨x, hx, e⟩
theorem mrg_eq (l more : List ED) : U.mrg l more = U.mrgR l more := by
  unfold U.mrg U.mrgR
  rw [chk_eq, chk_eq]
  by_cases h : U.chk l = 0
  · rw [if_neg (show ¬ U.chk l ≠ 0 by simp [h]), if_neg (show ¬ U.chk l ≠ 0 by simp [h])]
    by_cases h' : U.chk more = 0
    · rw [if_neg (show ¬ U.chk more ≠ 0 by simp [h']), if_neg (show ¬ U.chk more ≠ 0 by simp [h'])]
      have hb := chk_iff.1 h
      have hb' := chk_iff.1 h'
      have hS : Reps (U.srtI (U.vals (U.opn more).1)) more := hb'.reps.perm (srtI_perm _)
      have hokS : ∀ x, x ∈ U.srtI (U.vals (U.opn more).1) → U.okE x = true := fun x hx => vals_ok (opn_ok more) ((srtI_perm _).mem_iff.1 hx)
      have hokV : ∀ x, x ∈ U.vals (U.opn l).1 → U.okE x = true := fun x hx => vals_ok (opn_ok l) hx
      have hall : ∀ x, x ∈ l ++ more → U.okE x = true := fun x hx => (List.mem_append.1 hx).elim (hb.ok x) (hb'.ok x)
      have hi : BInv (U.mrgTo l more) (l ++ U.srtI (U.vals (U.opn more).1)) := addTo_inv (opn_ok l) hb.ok hb.reps hb.nc hokS
      have hfirst : ∀ n, U.firstOf (l ++ U.srtI (U.vals (U.opn more).1)) n = U.firstOf (l ++ more) n := fun n => by
        rw [firstOf_app, firstOf_app, hS.first hb'.ok]
      have hr : Reps (U.vals (U.mrgTo l more).2) (l ++ more) := fun y => (hi.reps y).trans (exists_congr fun n => by rw [hfirst])
      have hp := reps_perm hi.ok hall hr
      have hlen : (U.mrgTo l more).2.length = (U.dist (l ++ more)).length := by
        rw [← hp.length_eq]; unfold U.vals; rw [List.length_map]
      have hnc : (U.mrgTo l more).1 = true ↔ NC (l ++ more) := by
        rw [hi.nc]
        constructor
        · refine nc_of_mem (fun x hx => ?_)
          rcases List.mem_append.1 hx with hx | hx
          · exact ⟨x, List.mem_append_left _ hx, rfl⟩
          · exact ⟨U.canRE x, List.mem_append_right _ (hb'.to hS hx), (canRE_canRE (hb'.ok x hx)).symm⟩
        · refine nc_of_mem (fun x hx => ?_)
          rcases List.mem_append.1 hx with hx | hx
          · exact ⟨x, List.mem_append_left _ hx, rfl⟩
          · obtain ⟨z, hz, rfl⟩ := hS.of hx
            exact ⟨z, List.mem_append_right _ hz, canRE_canRE (hb'.ok z hz)⟩
      rw [hlen]
      by_cases h1 : 40 < (U.dist (l ++ more)).length
      · rw [if_pos h1, if_pos h1]
      · rw [if_neg h1, if_neg h1]
        cases e : (U.mrgTo l more).1 with
        | false =>
          rw [if_pos rfl, if_pos]
          cases ec : U.clash (l ++ more) with
          | true => rfl
          | false => have := hnc.2 (clash_iff.1 ec); rw [e] at this; simp at this
        | true =>
          rw [if_neg (by simp), if_neg (by rw [clash_iff.2 (hnc.1 e)]; simp), srtI_dist hi.ok hall hr]
    · rw [if_pos (show U.chk more ≠ 0 from h'), if_pos (show U.chk more ≠ 0 from h')]
  · rw [if_pos (show U.chk l ≠ 0 from h), if_pos (show U.chk l ≠ 0 from h)]

end Go.X
/-
  Signs: what agrees, what is asked best, and twins, plainly: the program's and the specification's are the same.
-/
namespace Go.X
open Go.Proofs

theorem strict_unique {α : Type} {lt : α → α → Prop} (irr : ∀ x, ¬ lt x x) (tr : ∀ x y z, lt x y → lt y z → lt x z) : ∀ {a b : List α}, a.Pairwise lt → b.Pairwise lt → (∀ x, x ∈ a ↔ x ∈ b) → a = b
  | [], [], _, _, _ => rfl
  | [], y :: s, _, _, h => absurd ((h y).2 (by simp)) (by simp)
  | x :: r, [], _, _, h => absurd ((h x).1 (by simp)) (by simp)
  | x :: r, y :: s, ha, hb, h => by
    have ha' := List.pairwise_cons.1 ha
    have hb' := List.pairwise_cons.1 hb
    have e : x = y := by
      rcases List.mem_cons.1 ((h x).1 (by simp)) with e | hx
      · exact e
      · rcases List.mem_cons.1 ((h y).2 (by simp)) with e | hy
        · exact e.symm
        · exact absurd (tr _ _ _ (hb'.1 x hx) (ha'.1 y hy)) (irr y)
    subst e
    congr 1
    refine strict_unique irr tr ha'.2 hb'.2 (fun z => ?_)
    constructor
    · intro hz
      rcases List.mem_cons.1 ((h z).1 (List.mem_cons_of_mem _ hz)) with e | h1
      · exact absurd (ha'.1 z hz) (by rw [e]; exact irr x)
      · exact h1
    · intro hz
      rcases List.mem_cons.1 ((h z).2 (List.mem_cons_of_mem _ hz)) with e | h1
      · exact absurd (hb'.1 z hz) (by rw [e]; exact irr x)
      · exact h1

/-! ### What agrees -/

def emb : List Int → List Int → Bool
  | [], _ => true
  | _ :: _, [] => false
  | s :: r, m :: t => (U.bit s m && emb r t) || emb (s :: r) t
theorem emb_cc (s m : Int) (r t : List Int) : emb (s :: r) (m :: t) = ((U.bit s m && emb r t) || emb (s :: r) t) := by conv => lhs; unfold emb
theorem emb_more {m : Int} : ∀ {r t : List Int}, emb r t = true → emb r (m :: t) = true
  | [], _, _ => rfl
  | s :: r, t, h => by unfold emb; rw [h]; simp
theorem emb_less {s : Int} : ∀ {r t : List Int}, emb (s :: r) t = true → emb r t = true
  | r, [], h => by simp [emb] at h
  | r, m :: t, h => by
    unfold emb at h
    rw [Bool.or_eq_true, Bool.and_eq_true] at h
    rcases h with h | h
    · exact emb_more h.2
    · exact emb_more (emb_less h)
theorem emb_len : ∀ {r t : List Int}, emb r t = true → r.length ≤ t.length
  | [], _, _ => Nat.zero_le _
  | s :: r, [], h => by simp [emb] at h
  | s :: r, m :: t, h => by
    unfold emb at h
    rw [Bool.or_eq_true, Bool.and_eq_true] at h
    rcases h with h | h
    · have := emb_len h.2; simp only [List.length_cons]; omega
    · have := emb_len h; simp only [List.length_cons] at *; omega
theorem idx_nil {p : Int → Bool} : U.idx p [] = -1 := rfl
theorem idx_hit {p : Int → Bool} {m : Int} {t : List Int} (h : p m = true) : U.idx p (m :: t) = 0 := by
  unfold U.idx; rw [List.findIdx?_cons, h]; rfl
theorem idx_miss {p : Int → Bool} {m : Int} {t : List Int} (h : p m = false) : (U.idx p t < 0 ∧ U.idx p (m :: t) < 0) ∨ (0 ≤ U.idx p t ∧ U.idx p (m :: t) = U.idx p t + 1) := by
  unfold U.idx; rw [List.findIdx?_cons, h]
  cases t.findIdx? p with
  | none => exact .inl ⟨by simp, by simp⟩
  | some i => exact .inr ⟨by simp, by simp⟩
theorem greedy_emb : ∀ (t r : List Int), U.greedy r t = emb r t
  | t, [] => by cases t <;> rfl
  | [], s :: r => by unfold U.greedy emb; rw [idx_nil]; simp
  | m :: t, s :: r => by
    have ih := greedy_emb t
    have ih2 := ih (s :: r)
    unfold U.greedy at ih2 ⊢
    unfold emb
    cases hb : U.bit s m with
    | true =>
      rw [idx_hit hb, if_neg (by omega)]
      show U.greedy r t = _
      rw [ih r]
      cases h1 : emb r t with
      | true => simp
      | false =>
        cases h2 : emb (s :: r) t with
        | false => simp
        | true => rw [emb_less h2] at h1; cases h1
    | false =>
      rw [← ih2]
      rcases idx_miss (p := U.bit s) (t := t) hb with ⟨h1, h2⟩ | ⟨h1, h2⟩
      · rw [if_pos h1, if_pos h2]; simp
      · rw [h2, if_neg (by omega), if_neg (by omega)]
        have : (U.idx (U.bit s) t + 1).toNat + 1 = ((U.idx (U.bit s) t).toNat + 1) + 1 := by omega
        rw [this, List.drop_succ_cons]; simp
theorem fits_emb : ∀ (l sets : List Int) (lost : Int), (∀ m, m ∈ l → U.okMove m = true) → 0 ≤ lost → U.fits l sets lost = (emb sets l && decide ((l.length : Int) - (sets.length : Int) ≤ lost))
  | [], sets, lost, _, h => by
    unfold U.fits
    cases sets with
    | nil => simp [emb, h]
    | cons s q => simp [emb]; omega
  | m :: r, sets, lost, hm, h => by
    have hm0 := okMove_iff.1 (hm m (by simp))
    have hr := fun x hx => hm x (List.mem_cons_of_mem _ hx)
    have hh : ∀ s, U.has s m = U.bit s m := fun s => by unfold U.has; rw [decide_eq_true (by omega)]; rfl
    unfold U.fits
    by_cases hl : 0 < lost
    · rw [fits_emb r sets (lost - 1) hr (by omega), decide_eq_true hl]
      cases sets with
      | nil => simp [emb]; omega
      | cons s q =>
        rw [fits_emb r _ lost hr h, hh]
        show ((decide _ && U.bit s m && (emb q r && _)) || (true && _)) = _
        rw [decide_eq_true (show (0 : Int) < ((s :: q).length : Int) by simp only [List.length_cons]; omega)]
        rw [emb_cc]
        have e1 : decide ((r.length : Int) - ((List.drop 1 (s :: q)).length : Int) ≤ lost) = decide (((m :: r).length : Int) - ((s :: q).length : Int) ≤ lost) := by
          simp only [List.length_cons, List.drop_succ_cons, List.drop_zero]; exact decide_eq_decide.2 ⟨fun h => by omega, fun h => by omega⟩
        have e2 : decide ((r.length : Int) - ((s :: q).length : Int) ≤ lost - 1) = decide (((m :: r).length : Int) - ((s :: q).length : Int) ≤ lost) := by
          simp only [List.length_cons]; exact decide_eq_decide.2 ⟨fun h => by omega, fun h => by omega⟩
        rw [e1, e2]
        cases decide (((m :: r).length : Int) - ((s :: q).length : Int) ≤ lost) <;> simp
    · have e0 : lost = 0 := by omega
      subst e0
      rw [decide_eq_false hl]
      cases sets with
      | nil => simp [emb]
      | cons s q =>
        rw [fits_emb r _ 0 hr h, hh]
        show ((decide _ && U.bit s m && (emb q r && _)) || (false && _)) = _
        rw [decide_eq_true (show (0 : Int) < ((s :: q).length : Int) by simp only [List.length_cons]; omega)]
        rw [emb_cc]
        have e1 : decide ((r.length : Int) - ((List.drop 1 (s :: q)).length : Int) ≤ 0) = decide (((m :: r).length : Int) - ((s :: q).length : Int) ≤ 0) := by
          simp only [List.length_cons, List.drop_succ_cons, List.drop_zero]; exact decide_eq_decide.2 ⟨fun h => by omega, fun h => by omega⟩
        rw [e1]
        by_cases h4 : ((m :: r).length : Int) - ((s :: q).length : Int) ≤ 0
        · rw [decide_eq_true h4]
          cases h3 : emb (s :: q) r with
          | false => simp
          | true =>
            have := emb_len h3
            simp only [List.length_cons] at this h4
            omega
        · rw [decide_eq_false h4]; simp
/-- what is needed of what was seen -/
structure SeenOk (s : SnD) : Prop where
  lost : 0 ≤ U.lost s
  ages : U.lo (U.ages s) ≤ U.hi (U.ages s)
theorem moved_eq {s : SnD} (hs : SeenOk s) {l : List Int} (hl : ∀ m, m ∈ l → U.okMove m = true) : U.moved s l = U.fits l (U.mvs s) (U.lost s) := by
  rw [fits_emb l _ _ hl hs.lost]
  unfold U.moved
  rw [greedy_emb]
  cases h : emb (U.mvs s) l with
  | false => simp
  | true =>
    have := emb_len h
    unfold U.within
    simp only [Bool.and_true, Bool.true_and]
    exact decide_eq_decide.2 ⟨fun h => h.2, fun h => ⟨by omega, h⟩⟩
theorem has_bit {s n : Int} (h : 0 ≤ n) (h2 : n < 60) : U.has s n = U.bit s n := by unfold U.has; rw [decide_eq_true ⟨h, h2⟩]; rfl
theorem shows_eq {s : SnD} (hs : SeenOk s) {f : FmD} (hf : U.okForm f = true) : U.shows s f = U.shownR f s := by
  unfold U.shows U.shownR
  have hm := List.all_eq_true.1 (okForm_moves hf)
  unfold U.okForm at hf
  simp only [Bool.and_eq_true, decide_eq_true_eq] at hf
  rw [moved_eq hs hm, has_bit (by omega) (by omega), has_bit (by omega) (by omega), has_bit (by omega) (by omega)]
  cases U.bit (U.rights s) (U.rt f + 1) <;> cases U.bit (U.lefts s) (U.lf f + 1) <;> cases U.bit (U.faces s) (U.fc f) <;> simp
theorem agrees_eq {s : SnD} (hs : SeenOk s) {x : ED} (hx : U.okE x = true) : U.agrees s (U.canRE x) = U.agreesR x s := by
  have hf := okE_form hx
  have hm := mir_ok hf
  unfold U.agrees U.agreesR
  have e1 : (U.shows s (U.fm (U.canRE x)) || U.shows s (U.mir (U.fm (U.canRE x)))) = (U.shownR (U.fm x) s || U.shownR (U.mir (U.fm x)) s) := by
    rw [← shows_eq hs hf, ← shows_eq hs hm]
    show (U.shows s (U.canR (U.fm x)) || U.shows s (U.mir (U.canR (U.fm x)))) = _
    unfold U.canR
    split
    · rw [mir_mir hf, Bool.or_comm]
    · rfl
  have e2 : U.meet (U.ag (U.canRE x)) (U.ages s) = decide (max (U.lo (U.ag x)) (U.lo (U.ages s)) ≤ min (U.hi (U.ag x)) (U.hi (U.ages s))) := by
    show U.meet (U.ag x) (U.ages s) = _
    unfold U.meet
    have h1 := hs.ages
    unfold U.okE at hx
    simp only [Bool.and_eq_true, decide_eq_true_eq] at hx
    exact decide_eq_decide.2 ⟨fun h => by omega, fun h => by omega⟩
  rw [e1, e2]
  rfl
theorem okS_seen {s : SnD} (h : U.okS s = true) : SeenOk s := by
  unfold U.okS at h
  simp only [Bool.and_eq_true, decide_eq_true_eq] at h
  exact ⟨by omega, by omega⟩

/-! ### Find -/

theorem findTo_mem {l : List ED} {s : SnD} {n : Nat} {k : Int} : k ∈ U.findTo l s n ↔ (0 ≤ k ∧ k < (n : Int)) ∧ ∃ x, x ∈ l ∧ U.sg x = k ∧ U.agreesR x s = true := by
  unfold U.findTo
  rw [List.mem_map]
  constructor
  · rintro ⟨i, hi, rfl⟩
    rw [List.mem_filter, List.mem_range] at hi
    obtain ⟨x, hx, h⟩ := List.any_eq_true.1 hi.2
    unfold U.hit at h
    rw [Bool.and_eq_true, decide_eq_true_iff] at h
    exact ⟨⟨by omega, by omega⟩, x, hx, h.1, h.2⟩
  · rintro ⟨⟨h1, h2⟩, x, hx, h3, h4⟩
    refine ⟨k.toNat, ?_, by omega⟩
    rw [List.mem_filter, List.mem_range]
    refine ⟨by omega, List.any_eq_true.2 ⟨x, hx, ?_⟩⟩
    unfold U.hit
    rw [Bool.and_eq_true, decide_eq_true_iff]
    exact ⟨by omega, h4⟩
theorem range_asc (n : Nat) : (List.range n).Pairwise (fun a b => a < b) := List.pairwise_lt_range
theorem findTo_asc (l : List ED) (s : SnD) (n : Nat) : (U.findTo l s n).Pairwise (fun a b => a < b) := by
  unfold U.findTo
  rw [List.pairwise_map]
  exact ((range_asc n).filter _).imp (fun h => by omega)
theorem okE_sg {x : ED} (h : U.okE x = true) : 0 ≤ U.sg x ∧ U.sg x < 1000 := by
  unfold U.okE at h
  simp only [Bool.and_eq_true, decide_eq_true_eq] at h
  omega
theorem find_mem {V : List ED} {s : SnD} {n : Int} : n ∈ U.find V s ↔ ∃ v, v ∈ V ∧ U.agrees s v = true ∧ U.sg v = n := by
  unfold U.find
  rw [(sortI_perm _).mem_iff, dedup_mem, List.mem_map]
  constructor
  · rintro ⟨v, hv, rfl⟩
    rw [List.mem_filter] at hv
    exact ⟨v, hv.1, hv.2, rfl⟩
  · rintro ⟨v, h1, h2, rfl⟩
    exact ⟨v, List.mem_filter.2 ⟨h1, h2⟩, rfl⟩
theorem find_asc (V : List ED) (s : SnD) : (U.find V s).Pairwise (fun a b => a < b) := by
  unfold U.find
  have h1 := sortI_asc (U.dedup ((V.filter (U.agrees s)).map U.sg))
  have h2 : (U.sortI (U.dedup ((V.filter (U.agrees s)).map U.sg))).Nodup := (sortI_perm _).nodup_iff.2 (dedup_nodup _)
  exact (h1.and h2).imp (fun h => by have := h.1; have := h.2; omega)
theorem find_eq {l V : List ED} (hb : Book l) (hr : Reps V l) {s : SnD} (hs : SeenOk s) : U.find V s = U.findR l s := by
  refine strict_unique (fun x => by omega) (fun x y z h1 h2 => by omega) (find_asc V s) (findTo_asc l s 1000) (fun n => ?_)
  unfold U.findR
  rw [find_mem, findTo_mem]
  constructor
  · rintro ⟨v, hv, ha, rfl⟩
    obtain ⟨x, hx, rfl⟩ := hr.of hv
    rw [agrees_eq hs (hb.ok x hx)] at ha
    have := okE_sg (hb.ok x hx)
    exact ⟨⟨this.1, this.2⟩, x, hx, rfl, ha⟩
  · rintro ⟨_, x, hx, rfl, ha⟩
    exact ⟨U.canRE x, hb.to hr hx, by rw [agrees_eq hs (hb.ok x hx)]; exact ha, rfl⟩
theorem lookE_eq (l : List ED) (s : SnD) : U.lookE l s = U.lookR l s := by
  unfold U.lookE U.lookR
  rw [chk_eq]
  by_cases h : U.chk l = 0
  · rw [if_neg (show ¬ U.chk l ≠ 0 by simp [h])]
    by_cases h2 : U.okS s = false
    · rw [if_pos ⟨h, h2⟩, if_pos h2]
    · rw [if_neg (fun h3 => h2 h3.2), if_neg h2, h]
  · rw [if_pos (show U.chk l ≠ 0 from h), if_neg (fun h3 => h h3.1)]
theorem fnd_eq (l : List ED) (s : SnD) : U.fnd l s = U.fndR l s := by
  unfold U.fnd U.fndR
  rw [lookE_eq]
  by_cases h : U.lookR l s = 0
  · rw [if_neg (show ¬ U.lookR l s ≠ 0 by simp [h]), if_neg (show ¬ U.lookR l s ≠ 0 by simp [h])]
    obtain ⟨h1, h2⟩ := lookR_zero h
    rw [find_eq (chk_iff.1 h1) (chk_iff.1 h1).reps (okS_seen h2)]
  · rw [if_pos h, if_pos h]

end Go.X
/-
  Signs: the best question and twins, plainly: the program's and the specification's are the same.
-/
namespace Go.X
open Go.Proofs

/-! ### Answers -/

theorem flat_if {α β : Type} (p : α → Bool) (f : α → β) : ∀ l : List α, (l.flatMap fun x => if p x = true then [f x] else []) = (l.filter p).map f
  | [] => rfl
  | x :: r => by
    rw [List.flatMap_cons, flat_if p f r, List.filter_cons]
    split <;> rfl
theorem range36 : List.range 36 = [0, 1, 2] ++ (List.range 33).map (3 + ·) := List.range_add (n := 3) (m := 33)
theorem block36 {β : Type} (F : Int → List β) (h0 : ∀ n, n < 0 → F n = []) : ((List.range 36).flatMap fun (i : Nat) => F ((i : Int) - 3)) = (List.range 33).flatMap fun (i : Nat) => F (i : Int) := by
  rw [range36, List.flatMap_append, List.flatMap_map]
  have e : ([0, 1, 2].flatMap fun (i : Nat) => F ((i : Int) - 3)) = [] := by
    show F _ ++ (F _ ++ (F _ ++ [])) = []
    rw [h0 _ (by decide), h0 _ (by decide), h0 _ (by decide)]; rfl
  rw [e, List.nil_append]
  congr 1
  funext i
  congr 1
  omega
theorem ans_set {β : Type} (N : Int) (g : Int → β) : ((List.range 36).flatMap fun (i : Nat) => if U.has N ((i : Int) - 3) = true then [g (2 ^ (max 0 ((i : Int) - 3)).toNat)] else []) = (U.ones N).map g := by
  rw [block36 (fun n => if U.has N n = true then [g (2 ^ (max 0 n).toNat)] else []) (fun n hn => if_neg (by unfold U.has; rw [decide_eq_false (by omega)]; simp))]
  unfold U.ones U.elsTo
  rw [flat_if (fun (i : Nat) => U.has N (i : Int)), List.map_map]
  have e : (List.range 33).filter (fun (i : Nat) => U.has N (i : Int)) = (List.range 33).filter (fun (i : Nat) => U.bit N (i : Int)) := List.filter_congr (fun i hi => by
    rw [List.mem_range] at hi
    exact has_bit (by omega) (by omega))
  rw [e]
  refine List.map_congr_left (fun i _ => ?_)
  show g _ = g _
  congr 2
theorem filter_all {α : Type} {p : α → Bool} {l : List α} (h : ∀ x, x ∈ l → p x = true) : l.filter p = l := List.filter_eq_self.2 h
theorem filter_no {α : Type} {p : α → Bool} {l : List α} (h : ∀ x, x ∈ l → p x = false) : l.filter p = [] := List.filter_eq_nil_iff.2 (fun x hx => by rw [h x hx]; simp)
theorem range_mid {a m n : Nat} (h : a + m ≤ n) : (List.range n).filter (fun i => decide (a ≤ i ∧ i < a + m)) = (List.range m).map (a + ·) := by
  obtain ⟨r, rfl⟩ := Nat.exists_eq_add_of_le h
  rw [List.range_add, List.range_add, List.filter_append, List.filter_append]
  rw [filter_no (l := List.range a), filter_all (l := (List.range m).map (a + ·)), filter_no (l := (List.range r).map (a + m + ·))]
  · simp
  · intro x hx
    obtain ⟨y, hy, rfl⟩ := List.mem_map.1 hx
    exact decide_eq_false (by omega)
  · intro x hx
    obtain ⟨y, hy, rfl⟩ := List.mem_map.1 hx
    rw [List.mem_range] at hy
    exact decide_eq_true (by omega)
  · intro x hx
    rw [List.mem_range] at hx
    exact decide_eq_false (by omega)
theorem ans_num {β : Type} {a b : Int} (ha : -3 ≤ a) (hb : b ≤ 32) (g : Int → β) : ((List.range 36).flatMap fun (i : Nat) => if U.within ((i : Int) - 3) a b = true then [g ((i : Int) - 3)] else []) = (U.upto a b).map g := by
  rw [flat_if (fun (i : Nat) => U.within ((i : Int) - 3) a b)]
  by_cases h : a ≤ b
  · have e : (List.range 36).filter (fun (i : Nat) => U.within ((i : Int) - 3) a b) = (List.range 36).filter (fun i => decide ((a + 3).toNat ≤ i ∧ i < (a + 3).toNat + (b - a + 1).toNat)) :=
      List.filter_congr (fun i _ => by unfold U.within; exact decide_eq_decide.2 ⟨fun h => by omega, fun h => by omega⟩)
    rw [e, range_mid (by omega)]
    unfold U.upto
    rw [List.map_map, List.map_map]
    refine List.map_congr_left (fun i _ => ?_)
    show g ((((a + 3).toNat + i : Nat) : Int) - 3) = g (a + (i : Int))
    congr 1
    omega
  · rw [filter_no (fun i _ => by unfold U.within; exact decide_eq_false (by omega))]
    unfold U.upto
    have : (b - a + 1).toNat = 0 := by omega
    rw [this]; rfl
theorem answers_eq (s : SnD) (p : Int) : U.answers s p = U.answersR s p := by
  unfold U.answers U.answersR U.ansTo U.ansAt
  by_cases h0 : p = 0
  · simp only [h0, if_true]; exact (ans_set _ _).symm
  · simp only [if_neg h0]
    by_cases h1 : p = 1
    · simp only [h1, if_true]; exact (ans_set _ _).symm
    · simp only [if_neg h1]
      by_cases h2 : p = 2
      · simp only [h2, if_true]; exact (ans_num (by omega) (by omega) (fun n => U.setRw s (n, n, ()))).symm
      · simp only [if_neg h2]
        by_cases h3 : p = 3
        · simp only [h3, if_true]
          rw [← ans_num (by omega) (by omega) (fun n => U.setCo s (n, n, ()))]
          congr 1
          funext i
          have e : U.within ((i : Int) - 3) (max (-3) (U.lo (U.cols s))) (min 3 (U.hi (U.cols s))) = U.within ((i : Int) - 3) (U.lo (U.cols s)) (min 3 (U.hi (U.cols s))) := by
            unfold U.within; exact decide_eq_decide.2 ⟨fun h => by omega, fun h => by omega⟩
          rw [e]
        · simp only [if_neg h3]
          by_cases h4 : p = 4
          · simp only [h4, if_true]; exact (ans_set _ _).symm
          · simp only [if_neg h4]
            exact (List.flatMap_eq_nil_iff.2 (fun _ _ => rfl)).symm
theorem ansAt_seen {s : SnD} {p n : Int} {o : SnD} (h : o ∈ U.ansAt s p n) : U.lost o = U.lost s ∧ U.ages o = U.ages s := by
  unfold U.ansAt at h
  repeat' split at h
  all_goals first
    | (simp at h; done)
    | (simp at h; subst h; exact ⟨rfl, rfl⟩)
theorem answersR_seen {s : SnD} (hs : SeenOk s) {p : Int} {o : SnD} (h : o ∈ U.answersR s p) : SeenOk o := by
  unfold U.answersR U.ansTo at h
  obtain ⟨i, _, hi⟩ := List.mem_flatMap.1 h
  obtain ⟨h1, h2⟩ := ansAt_seen hi
  exact ⟨by rw [h1]; exact hs.lost, by rw [h2]; exact hs.ages⟩
theorem most_eq {l V : List ED} (hb : Book l) (hr : Reps V l) {s : SnD} (hs : SeenOk s) (p : Int) : U.most V s p = U.mostR l s p := by
  unfold U.most U.mostR U.nums U.numsR
  rw [answers_eq]
  exact congrArg U.topOf (List.map_congr_left (fun o ho => by rw [find_eq hb hr (answersR_seen hs ho)]))
theorem dedup_len : ∀ l : List Int, (U.dedup l).length ≤ l.length
  | [] => Nat.le_refl _
  | a :: r => by
    unfold U.dedup
    have := dedup_len r
    split
    · simp only [List.length_cons]; omega
    · simp only [List.length_cons]; omega
theorem find_len (V : List ED) (s : SnD) : (U.find V s).length ≤ V.length := by
  unfold U.find
  rw [(sortI_perm _).length_eq]
  refine Nat.le_trans (dedup_len _) ?_
  rw [List.length_map]
  exact List.length_filter_le _ _
theorem topOf_le {B : Int} : ∀ (l : List Int) (a : Int), a ≤ B → (∀ x, x ∈ l → x ≤ B) → l.foldl max a ≤ B
  | [], _, h, _ => h
  | x :: r, a, h, hl => topOf_le r (max a x) (by have := hl x (by simp); omega) (fun y hy => hl y (by simp [hy]))
theorem most_le (V : List ED) (s : SnD) (p : Int) : U.most V s p ≤ (V.length : Int) := by
  unfold U.most U.topOf U.nums
  refine topOf_le _ _ (by omega) (fun x hx => ?_)
  obtain ⟨o, _, rfl⟩ := List.mem_map.1 hx
  have := find_len V o
  omega
theorem best_eq {l V : List ED} (hb : Book l) (hr : Reps V l) (hV : V.length ≤ 40) {s : SnD} (hs : SeenOk s) : ∀ p : Nat, U.bestTo V s (p + 1) = U.bestR l s (p + 1) ∧ 0 ≤ (U.bestTo V s (p + 1)).1
  | 0 => by
    have h := most_le V s 0
    have e : U.bestTo V s (0 + 1) = (0, U.most V s 0) := by
      unfold U.bestTo
      rw [if_pos]
      · rfl
      · show U.most V s 0 < 41; omega
    rw [e]
    refine ⟨?_, by show (0 : Int) ≤ 0; omega⟩
    unfold U.bestR
    rw [if_pos, most_eq hb hr hs]
    · rfl
    · rfl
  | p + 1 => by
    obtain ⟨h1, h2⟩ := best_eq hb hr hV hs p
    have e1 : U.bestTo V s (p + 1 + 1) = if U.most V s ((p + 1 : Nat) : Int) < (U.bestTo V s (p + 1)).2 then (((p + 1 : Nat) : Int), U.most V s ((p + 1 : Nat) : Int)) else U.bestTo V s (p + 1) := rfl
    have e2 : U.bestR l s (p + 1 + 1) = if (decide ((U.bestR l s (p + 1)).1 < 0) || decide (U.mostR l s ((p + 1 : Nat) : Int) < (U.bestR l s (p + 1)).2)) = true then (((p + 1 : Nat) : Int), U.mostR l s ((p + 1 : Nat) : Int)) else U.bestR l s (p + 1) := rfl
    rw [e1, e2, ← h1, ← most_eq hb hr hs, decide_eq_false (by omega), Bool.false_or]
    by_cases h3 : U.most V s ((p + 1 : Nat) : Int) < (U.bestTo V s (p + 1)).2
    · rw [if_pos h3, if_pos (decide_eq_true h3)]; exact ⟨rfl, by show (0 : Int) ≤ ((p + 1 : Nat) : Int); omega⟩
    · rw [if_neg h3, if_neg (by rw [decide_eq_false h3]; simp)]; exact ⟨rfl, h2⟩
theorem vals_len (l : List ED) : (U.vals (U.opn l).1).length ≤ 40 := by
  unfold U.vals; rw [List.length_map]; exact opn_len l
theorem ask_eq (l : List ED) (s : SnD) : U.ask l s = U.askR l s := by
  unfold U.ask U.askR
  rw [lookE_eq]
  by_cases h : U.lookR l s = 0
  · rw [if_neg (show ¬ U.lookR l s ≠ 0 by simp [h]), if_neg (show ¬ U.lookR l s ≠ 0 by simp [h])]
    obtain ⟨h1, h2⟩ := lookR_zero h
    have hb := chk_iff.1 h1
    rw [find_eq hb hb.reps (okS_seen h2), (best_eq hb hb.reps (vals_len l) (okS_seen h2) 4).1]
  · rw [if_pos h, if_pos h]

/-! ### Twins -/

theorem compT_mem (hl : PaD) : ∀ (r : List PaD) (p : PaD), (p :: r).Pairwise (fun a b => U.cmpP a b ≤ 0) →
    (∀ y, y ∈ U.compT U.eqP p r → U.cmpP p y < 0) ∧ (U.compT U.eqP p r).Pairwise (fun a b => U.cmpP a b < 0) ∧ (∀ y, y ∈ p :: U.compT U.eqP p r ↔ y ∈ p :: r)
  | [], p, _ => by simp [U.compT]
  | y :: r, p, h => by
    have h' := List.pairwise_cons.1 h
    obtain ⟨h1, h2, h3⟩ := compT_mem hl r y h'.2
    unfold U.compT
    by_cases e : U.eqP y p = true
    · rw [if_pos e]
      have e : y = p := of_decide_eq_true e
      subst e
      exact ⟨h1, h2, fun z => by rw [h3]; simp⟩
    · rw [if_neg e]
      have hne : y ≠ p := fun h => e (decide_eq_true h)
      have hlt : U.cmpP p y < 0 := by
        have h4 := h'.1 y (by simp)
        rcases Int.lt_or_eq_of_le h4 with h5 | h5
        · exact h5
        · exact absurd (cmpP_zero h5).symm hne
      refine ⟨fun z hz => ?_, List.pairwise_cons.2 ⟨h1, h2⟩, fun z => ?_⟩
      · rcases List.mem_cons.1 hz with rfl | hz
        · exact hlt
        · exact cmpP_ok.lt_le hlt (by have := h1 z hz; omega)
      · have := h3 z
        simp only [List.mem_cons] at this ⊢
        constructor
        · rintro (h | h)
          · exact .inl h
          · exact .inr (this.1 h)
        · rintro (h | h)
          · exact .inl h
          · exact .inr (this.2 h)
theorem comp_mem {l : List PaD} (h : l.Pairwise (fun a b => U.cmpP a b ≤ 0)) : (U.comp U.eqP l).Pairwise (fun a b => U.cmpP a b < 0) ∧ ∀ y, y ∈ U.comp U.eqP l ↔ y ∈ l := by
  cases l with
  | nil => simp [U.comp]
  | cons x r =>
    obtain ⟨h1, h2, h3⟩ := compT_mem x r x h
    exact ⟨List.pairwise_cons.2 ⟨h1, h2⟩, h3⟩
theorem srtP_asc (l : List PaD) : (U.srtP l).Pairwise (fun a b => U.cmpP a b ≤ 0) := by
  refine (sortBy_asc (ordP l)).imp ?_
  intro a b h
  have h : U.lessF tP (fun x => (U.cmpP x.1 x.2.1, ())) b a = false := h
  unfold U.lessF at h
  have h : ¬ U.cmpP b a < 0 := of_decide_eq_false h
  have := cmpP_ok.anti b a
  omega
theorem cmpP_lt {a b : PaD} : U.cmpP a b < 0 ↔ a.1 < b.1 ∨ a.1 = b.1 ∧ a.2.1 < b.2.1 := by
  have e : U.cmpP a b = if U.cmp a.1 b.1 ≠ 0 then U.cmp a.1 b.1 else if U.cmp a.2.1 b.2.1 ≠ 0 then U.cmp a.2.1 b.2.1 else 0 := rfl
  rw [e]
  unfold U.cmp
  split <;> (repeat' split) <;> omega
theorem signs_mem {l : List ED} {n : Nat} {k : Int} : k ∈ U.signsTo l n ↔ (0 ≤ k ∧ k < (n : Int)) ∧ ∃ x, x ∈ l ∧ U.sg x = k := by
  unfold U.signsTo
  rw [List.mem_map]
  constructor
  · rintro ⟨i, hi, rfl⟩
    rw [List.mem_filter, List.mem_range] at hi
    obtain ⟨x, hx, h⟩ := List.any_eq_true.1 hi.2
    exact ⟨⟨by omega, by omega⟩, x, hx, of_decide_eq_true h⟩
  · rintro ⟨⟨h1, h2⟩, x, hx, h3⟩
    refine ⟨k.toNat, ?_, by omega⟩
    rw [List.mem_filter, List.mem_range]
    refine ⟨by omega, List.any_eq_true.2 ⟨x, hx, decide_eq_true (by omega)⟩⟩
theorem signs_asc (l : List ED) (n : Nat) : (U.signsTo l n).Pairwise (fun a b => a < b) := by
  unfold U.signsTo
  rw [List.pairwise_map]
  exact ((range_asc n).filter _).imp (fun h => by omega)
theorem asc_nth {l : List Int} (h : l.Pairwise (fun a b => a < b)) {i j : Nat} (hij : i < j) (hj : j < l.length) : nth l i < nth l j := by
  rw [L.nth_lt (by omega), L.nth_lt hj]
  exact (List.pairwise_iff_getElem.1 h) i j (by omega) hj hij
theorem row_asc {l : List ED} {all : List Int} (h : all.Pairwise (fun a b => a < b)) (i : Nat) : (U.rowTo l all i all.length).Pairwise (fun a b => U.cmpP a b < 0) := by
  unfold U.rowTo
  rw [List.pairwise_map]
  refine List.Pairwise.imp_of_mem ?_ ((range_asc all.length).filter _)
  intro a b _ hb hab
  rw [List.mem_filter, List.mem_range] at hb
  exact cmpP_lt.2 (.inr ⟨rfl, asc_nth h hab hb.1⟩)
theorem row_mem {l : List ED} {all : List Int} {i : Nat} {y : PaD} : y ∈ U.rowTo l all i all.length ↔ ∃ j, i < j ∧ j < all.length ∧ U.twTo l (nth all i) (nth all j) l.length = true ∧ y = (nth all i, nth all j, ()) := by
  unfold U.rowTo
  rw [List.mem_map]
  constructor
  · rintro ⟨j, hj, rfl⟩
    rw [List.mem_filter, List.mem_range, Bool.and_eq_true, decide_eq_true_iff] at hj
    exact ⟨j, hj.2.1, hj.1, hj.2.2, rfl⟩
  · rintro ⟨j, h1, h2, h3, rfl⟩
    exact ⟨j, by rw [List.mem_filter, List.mem_range, Bool.and_eq_true, decide_eq_true_iff]; exact ⟨h2, h1, h3⟩, rfl⟩
theorem rows_asc {l : List ED} {all : List Int} (h : all.Pairwise (fun a b => a < b)) : ∀ n : Nat, n ≤ all.length → (U.rowsTo l all n).Pairwise (fun a b => U.cmpP a b < 0)
  | 0, _ => by simp [U.rowsTo]
  | n + 1, hn => by
    rw [rowsTo_succ, List.pairwise_append]
    refine ⟨rows_asc h n (by omega), row_asc h n, fun a ha b hb => ?_⟩
    unfold U.rowsTo at ha
    obtain ⟨i, hi, ha⟩ := List.mem_flatMap.1 ha
    rw [List.mem_range] at hi
    obtain ⟨j, _, _, _, rfl⟩ := row_mem.1 ha
    obtain ⟨k, _, _, _, rfl⟩ := row_mem.1 hb
    exact cmpP_lt.2 (.inl (asc_nth h hi (by omega)))
theorem twTo_iff {l : List ED} {a b : Int} : U.twTo l a b l.length = true ↔ ∃ x, x ∈ l ∧ ∃ y, y ∈ l ∧ U.sg x = a ∧ U.sg y = b ∧ U.twinR x y = true := by
  unfold U.twTo
  rw [List.take_length, List.any_eq_true]
  refine exists_congr fun x => and_congr_right fun _ => ?_
  unfold U.twRow
  rw [List.any_eq_true]
  refine exists_congr fun y => and_congr_right fun _ => ?_
  unfold U.tw
  rw [Bool.and_eq_true, Bool.and_eq_true, decide_eq_true_iff, decide_eq_true_iff, and_assoc]
theorem mem_nth_iff {l : List Int} {n : Int} : n ∈ l ↔ ∃ i, i < l.length ∧ nth l i = n := L.mem_iff
theorem twins_mem {l : List ED} (hl : ∀ x, x ∈ l → U.okE x = true) {y : PaD} : y ∈ U.rowsTo l (U.signsR l) (U.signsR l).length ↔ ∃ u, u ∈ l ∧ ∃ v, v ∈ l ∧ U.sg u < U.sg v ∧ U.twinR u v = true ∧ y = (U.sg u, U.sg v, ()) := by
  have hasc := signs_asc l 1000
  unfold U.rowsTo
  rw [List.mem_flatMap]
  constructor
  · rintro ⟨i, hi, h⟩
    obtain ⟨j, h1, h2, h3, rfl⟩ := row_mem.1 h
    obtain ⟨u, hu, v, hv, e1, e2, h4⟩ := twTo_iff.1 h3
    refine ⟨u, hu, v, hv, ?_, h4, by rw [e1, e2]⟩
    rw [e1, e2]; exact asc_nth hasc h1 h2
  · rintro ⟨u, hu, v, hv, hlt, ht, rfl⟩
    have key : ∀ x, x ∈ l → ∃ i, i < (U.signsR l).length ∧ nth (U.signsR l) i = U.sg x := fun x hx => by
      have := okE_sg (hl x hx)
      exact mem_nth_iff.1 (signs_mem.2 ⟨⟨this.1, by omega⟩, x, hx, rfl⟩)
    obtain ⟨i, hi, ei⟩ := key u hu
    obtain ⟨j, hj, ej⟩ := key v hv
    refine ⟨i, List.mem_range.2 hi, row_mem.2 ⟨j, ?_, hj, ?_, by rw [ei, ej]⟩⟩
    · rcases Nat.lt_trichotomy i j with h | h | h
      · exact h
      · subst h; omega
      · have := asc_nth hasc h hi
        have : U.sg v < U.sg u := by rw [← ei, ← ej]; exact this
        omega
    · rw [ei, ej]; exact twTo_iff.2 ⟨u, hu, v, hv, rfl, rfl, ht⟩
theorem twin_eq {u v : ED} (hu : U.okE u = true) (hv : U.okE v = true) : U.twinOf (U.canRE u) (U.canRE v) = (decide (U.sg u < U.sg v) && U.twinR u v) := by
  unfold U.twinOf U.twinR
  have e2 : U.meet (U.ag (U.canRE u)) (U.ag (U.canRE v)) = decide (max (U.lo (U.ag u)) (U.lo (U.ag v)) ≤ min (U.hi (U.ag u)) (U.hi (U.ag v))) := by
    show U.meet (U.ag u) (U.ag v) = _
    unfold U.meet
    unfold U.okE at hu hv
    simp only [Bool.and_eq_true, decide_eq_true_eq] at hu hv
    exact decide_eq_decide.2 ⟨fun h => by omega, fun h => by omega⟩
  rw [e2, Bool.and_assoc, Bool.and_assoc, Bool.and_assoc]
  rfl
theorem pairs_mem {V : List ED} {y : PaD} : y ∈ U.pairsAll V V ↔ ∃ a, a ∈ V ∧ ∃ b, b ∈ V ∧ U.twinOf a b = true ∧ y = (U.sg a, U.sg b, ()) := by
  unfold U.pairsAll
  rw [List.mem_flatMap]
  refine exists_congr fun a => and_congr_right fun _ => ?_
  unfold U.pairsOf
  rw [List.mem_map]
  constructor
  · rintro ⟨b, hb, rfl⟩
    rw [List.mem_filter] at hb
    exact ⟨b, hb.1, hb.2, rfl⟩
  · rintro ⟨b, h1, h2, rfl⟩
    exact ⟨b, List.mem_filter.2 ⟨h1, h2⟩, rfl⟩
theorem twn_eq (l : List ED) : U.twn l = U.twnR l := by
  unfold U.twn U.twnR
  rw [chk_eq]
  by_cases h : U.chk l = 0
  · rw [if_neg (show ¬ U.chk l ≠ 0 by simp [h]), if_neg (show ¬ U.chk l ≠ 0 by simp [h])]
    have hb := chk_iff.1 h
    obtain ⟨h1, h2⟩ := comp_mem (srtP_asc (U.pairsAll (U.vals (U.opn l).1) (U.vals (U.opn l).1)))
    have e : U.comp U.eqP (U.srtP (U.pairsAll (U.vals (U.opn l).1) (U.vals (U.opn l).1))) = U.rowsTo l (U.signsR l) (U.signsR l).length := by
      refine strict_unique (lt := fun a b => U.cmpP a b < 0) (fun x h => ?_) (fun x y z h1 h2 => cmpP_ok.lt_le h1 (by omega)) h1 (rows_asc (signs_asc l 1000) _ (Nat.le_refl _)) (fun y => ?_)
      · have := cmpP_ok.refl x; omega
      · rw [h2, twins_mem hb.ok, show (y ∈ U.srtP (U.pairsAll (U.vals (U.opn l).1) (U.vals (U.opn l).1))) ↔ _ from (sortBy_perm _).mem_iff, pairs_mem]
        constructor
        · rintro ⟨a, ha, b, hb', ht, rfl⟩
          obtain ⟨u, hu, rfl⟩ := hb.reps.of ha
          obtain ⟨v, hv, rfl⟩ := hb.reps.of hb'
          rw [twin_eq (hb.ok u hu) (hb.ok v hv), Bool.and_eq_true, decide_eq_true_iff] at ht
          exact ⟨u, hu, v, hv, ht.1, ht.2, rfl⟩
        · rintro ⟨u, hu, v, hv, h1, h2, rfl⟩
          refine ⟨_, hb.to hb.reps hu, _, hb.to hb.reps hv, ?_, rfl⟩
          rw [twin_eq (hb.ok u hu) (hb.ok v hv), Bool.and_eq_true, decide_eq_true_iff]
          exact ⟨h1, h2⟩
    rw [e]
  · rw [if_pos (show U.chk l ≠ 0 from h), if_pos (show U.chk l ≠ 0 from h)]

/-! ### Forms -/

theorem canF_eq (f : FmD) : U.canF f = U.canRF f := by
  unfold U.canF U.canRF
  split
  · rename_i h; rw [canon_eq h]
  · rfl
theorem comF_eq (a b : FmD) : U.comF a b = U.comRF a b := by
  unfold U.comF U.comRF
  split
  · rename_i h; rw [canon_eq h.1, canon_eq h.2]
  · rfl

end Go.X
/-
  Signs: what the statements themselves call: what is asked.
-/
namespace Go.X
open Go.Proofs

namespace U
def long (l : List ED) : Bool := l.any (fun x => decide (20 < (mv (fm x)).length)) || decide (60 < l.length)
def far (l : List ED) : Bool := long l || (isB l && decide (12 < l.length))
def ready (l : List ED) : Bool := !far l && decide (chk l = 0)
instance decM : DecidableEq (Int × Int × Int × List Int × Unit) := inferInstance
instance decF : DecidableEq FmD := inferInstance
instance decT : DecidableEq (FmD × SpD × Unit) := @instDecidableEqProd _ _ decF inferInstance
instance decE : DecidableEq ED := @instDecidableEqProd _ _ inferInstance (@instDecidableEqProd _ _ inferInstance (@instDecidableEqProd _ _ inferInstance decT))
def sameF (a b : FmD) : Bool := decide (a = b)
def sameB (a b : List ED) : Bool := decide (a = b)
def exL : List ED := [(1, 10, 3, (3, -1, -1, 2, 0, [1, 2], ()), (0, 60, ()), ()), (2, 20, 6, (-1, 3, 1, 2, 0, [7, 6], ()), (40, 120, ()), ()), (3, 30, 7, (5, 5, 0, 2, 4, [0], ()), (0, 120, ()), ()), (4, 10, 4, (4, -1, 0, 3, 0, [2, 2, 6], ()), (0, 120, ()), ())]
def exS : SnD := (8589934591, 8589934591, 1, 255, 2, (-3, 3, ()), (2, 3, ()), (0, 120, ()), [4], ())
end U

def sp44 : Spec := ⟨[.val (.slice tE)], [.bool], false, fun _ => [], fun d => (U.long d.1, ())⟩
def an44 : Ann := fun r => match r with
  | 2 => some fun σ => { X := Nat, sl := fun i => [(3, .dat .int (i : Int))], ob := fun _ => [], inv := fun i => i ≤ (gd (.slice tE) σ 0).length ∧ ((gd (.slice tE) σ 0).take i).any (fun x => decide (20 < (U.mv (U.fm x)).length)) = false, mu := fun i => (gd (.slice tE) σ 0).length - i }
  | _ => none
def vc44 : Prop :=
  ∀ (d : List ED × Unit),
  (∃ (x : Nat),
  (((0 : Int) = (x : Int) ∧ True) ∧ True) ∧
  x ≤ d.1.length ∧ ((List.take x d.1).any fun (x : ED) => decide (20 < (U.mv (U.fm x)).length)) = false) ∧
  ∀ (x : Nat),
  x ≤ d.1.length ∧ ((List.take x d.1).any fun (x : ED) => decide (20 < (U.mv (U.fm x)).length)) = false →
  d.1.length < 4611686018427387904 →
  (decide ((x : Int) < (d.1.length : Int)) = true →
  0 ≤ (x : Int) ∧
  (x : Int) < (d.1.length : Int) ∧
  ((nth d.1 (x : Int).toNat).2.2.2.1.2.2.2.2.2.1.length < 4611686018427387904 →
  (decide ((20 : Int) < (↑(nth d.1 (x : Int).toNat).2.2.2.1.2.2.2.2.2.1.length : Int)) = true → (true, ()) = (U.long d.1, ())) ∧
  (decide ((20 : Int) < (↑(nth d.1 (x : Int).toNat).2.2.2.1.2.2.2.2.2.1.length : Int)) = false →
  In64 ((x : Int) + 1) ∧
  ∃ (x' : Nat),
  (((x : Int) + 1 = (x' : Int) ∧ True) ∧ True) ∧
  (x' ≤ d.1.length ∧
  ((List.take x' d.1).any fun (x : ED) => decide (20 < (U.mv (U.fm x)).length)) = false) ∧
  d.1.length - x' < d.1.length - x))) ∧
  (decide ((x : Int) < (d.1.length : Int)) = false → d.1.length < 4611686018427387904 → (decide (60 < (d.1.length : Int)), ()) = (U.long d.1, ()))

theorem vc44_eq : fnVC (ctx 21 [] []) (an44) Tryz.f44 (bodyOf Tryz.f44) sp44 = vc44 := by kernel_rfl

def sp14 : Spec := ⟨[.val (.slice tE)], [.bool], false, fun _ => [], fun d => (U.far d.1, ())⟩
def vc14 : Prop :=
  ∀ (d : List ED × Unit),
  ((!U.long d.1 && U.isB d.1) = true → d.1.length < 4611686018427387904) → (U.long d.1 || U.isB d.1 && decide (12 < (d.1.length : Int)), ()) = (U.far d.1, ())

theorem vc14_eq : fnVC (ctx 14 [(44, sp44), (48, sp48)] []) (fun _ => none) Tryz.f14 (bodyOf Tryz.f14) sp14 = vc14 := by kernel_rfl

def sp23 : Spec := ⟨[.val (.slice tE)], [.bool], false, fun _ => [], fun d => (U.ready d.1, ())⟩
def vc23 : Prop :=
  ∀ (d : List ED × Unit), (!U.far d.1 && decide (U.chk d.1 = (0 : Int)), ()) = (U.ready d.1, ())

theorem vc23_eq : fnVC (ctx 11 [(14, sp14), (28, sp28)] []) (fun _ => none) Tryz.f23 (bodyOf Tryz.f23) sp23 = vc23 := by kernel_rfl

def sp22 : Spec := ⟨[.val (.slice .int), .val (.slice .int)], [.bool], false, fun _ => [], fun d => (decide (d.1 = d.2.1), ())⟩
def an22 : Ann := fun r => match r with
  | 4 => some fun σ => { X := Nat, sl := fun i => [(5, .dat .int (i : Int))], ob := fun _ => [], inv := fun i => i ≤ (gd (.slice .int) σ 0).length ∧ (gd (.slice .int) σ 0).take i = (gd (.slice .int) σ 1).take i, mu := fun i => (gd (.slice .int) σ 0).length - i }
  | _ => none
def vc22 : Prop :=
  ∀ (d : List Int × List Int × Unit),
  d.1.length < 4611686018427387904 →
  d.2.1.length < 4611686018427387904 →
  (decide ((d.1.length : Int) ≠ (d.2.1.length : Int)) = true → (false, ()) = (decide (d.1 = d.2.1), ())) ∧
  (decide ((d.1.length : Int) ≠ (d.2.1.length : Int)) = false →
  (∃ (x : Nat), (((0 : Int) = (x : Int) ∧ True) ∧ True) ∧ x ≤ d.1.length ∧ List.take x d.1 = List.take x d.2.1) ∧
  ∀ (x : Nat),
  x ≤ d.1.length ∧ List.take x d.1 = List.take x d.2.1 →
  d.1.length < 4611686018427387904 →
  (decide ((x : Int) < (d.1.length : Int)) = true →
  0 ≤ (x : Int) ∧
  (x : Int) < (d.1.length : Int) ∧
  0 ≤ (x : Int) ∧
  (x : Int) < (d.2.1.length : Int) ∧
  (decide (nth d.1 (x : Int).toNat ≠ nth d.2.1 (x : Int).toNat) = true → (false, ()) = (decide (d.1 = d.2.1), ())) ∧
  (decide (nth d.1 (x : Int).toNat ≠ nth d.2.1 (x : Int).toNat) = false →
  In64 ((x : Int) + 1) ∧
  ∃ (x' : Nat), (((x : Int) + 1 = (x' : Int) ∧ True) ∧ True) ∧ (x' ≤ d.1.length ∧ List.take x' d.1 = List.take x' d.2.1) ∧ d.1.length - x' < d.1.length - x)) ∧
  (decide ((x : Int) < (d.1.length : Int)) = false → (true, ()) = (decide (d.1 = d.2.1), ())))

theorem vc22_eq : fnVC (ctx 26 [] []) (an22) Tryz.f22 (bodyOf Tryz.f22) sp22 = vc22 := by kernel_rfl



def sp27 : Spec := ⟨[.val .int, .val .int], [tSp], false, fun _ => [], fun d => ((d.1, d.2.1, ()), ())⟩
def vc27 : Prop :=
  ∀ (d : Int × Int × Unit), (d, ()) = (d, ())

theorem vc27_eq : fnVC (ctx 8 [] []) (fun _ => none) Tryz.f27 (bodyOf Tryz.f27) sp27 = vc27 := by kernel_rfl

def sp36 : Spec := ⟨[.val (.slice tP), .val (.slice tP)], [.bool], false, fun _ => [], fun d => (decide (d.1 = d.2.1), ())⟩
def an36 : Ann := fun r => match r with
  | 4 => some fun σ => { X := Nat, sl := fun i => [(5, .dat .int (i : Int))], ob := fun _ => [], inv := fun i => i ≤ (gd (.slice tP) σ 0).length ∧ (gd (.slice tP) σ 0).take i = (gd (.slice tP) σ 1).take i, mu := fun i => (gd (.slice tP) σ 0).length - i }
  | _ => none
def vc36 : Prop :=
  ∀ (d : List SpD × List SpD × Unit),
  d.1.length < 4611686018427387904 →
  d.2.1.length < 4611686018427387904 →
  (decide ((d.1.length : Int) ≠ (d.2.1.length : Int)) = true → (false, ()) = (decide (d.1 = d.2.1), ())) ∧
  (decide ((d.1.length : Int) ≠ (d.2.1.length : Int)) = false →
  (∃ (x : Nat), (((0 : Int) = (x : Int) ∧ True) ∧ True) ∧ x ≤ d.1.length ∧ List.take x d.1 = List.take x d.2.1) ∧
  ∀ (x : Nat),
  x ≤ d.1.length ∧ List.take x d.1 = List.take x d.2.1 →
  d.1.length < 4611686018427387904 →
  (decide ((x : Int) < (d.1.length : Int)) = true →
  0 ≤ (x : Int) ∧
  (x : Int) < (d.1.length : Int) ∧
  0 ≤ (x : Int) ∧
  (x : Int) < (d.2.1.length : Int) ∧
  ((!decide (nth d.1 (x : Int).toNat = nth d.2.1 (x : Int).toNat)) = true → (false, ()) = (decide (d.1 = d.2.1), ())) ∧
  ((!decide (nth d.1 (x : Int).toNat = nth d.2.1 (x : Int).toNat)) = false →
  In64 ((x : Int) + 1) ∧
  ∃ (x' : Nat), (((x : Int) + 1 = (x' : Int) ∧ True) ∧ True) ∧ (x' ≤ d.1.length ∧ List.take x' d.1 = List.take x' d.2.1) ∧ d.1.length - x' < d.1.length - x)) ∧
  (decide ((x : Int) < (d.1.length : Int)) = false → (true, ()) = (decide (d.1 = d.2.1), ())))

theorem vc36_eq : fnVC (ctx 26 [] []) (an36) Tryz.f36 (bodyOf Tryz.f36) sp36 = vc36 := by kernel_rfl

def sp42 : Spec := ⟨[.val tFm, .val tFm], [.bool], false, fun _ => [], fun d => (U.sameF d.1 d.2.1, ())⟩
def vc42 : Prop :=
  ∀ (d : FmD × FmD × Unit),
  (decide (d.1.1 = d.2.1.1) && decide (d.1.2.1 = d.2.1.2.1) && decide (d.1.2.2.1 = d.2.1.2.2.1) && decide (d.1.2.2.2.1 = d.2.1.2.2.2.1) &&
  decide (d.1.2.2.2.2.1 = d.2.1.2.2.2.2.1) &&
  decide (d.1.2.2.2.2.2.1 = d.2.1.2.2.2.2.2.1),
  ()) =
  (U.sameF d.1 d.2.1, ())

theorem vc42_eq : fnVC (ctx 45 [(22, sp22)] []) (fun _ => none) Tryz.f42 (bodyOf Tryz.f42) sp42 = vc42 := by kernel_rfl

def sp47 : Spec := ⟨[.val (.slice tE), .val (.slice tE)], [.bool], false, fun _ => [], fun d => (U.sameB d.1 d.2.1, ())⟩
def an47 : Ann := fun r => match r with
  | 4 => some fun σ => { X := Nat, sl := fun i => [(5, .dat .int (i : Int))], ob := fun _ => [], inv := fun i => i ≤ (gd (.slice tE) σ 0).length ∧ (gd (.slice tE) σ 0).take i = (gd (.slice tE) σ 1).take i, mu := fun i => (gd (.slice tE) σ 0).length - i }
  | _ => none
def vc47 : Prop :=
  ∀ (d : List ED × List ED × Unit),
  d.1.length < 4611686018427387904 →
  d.2.1.length < 4611686018427387904 →
  (decide ((d.1.length : Int) ≠ (d.2.1.length : Int)) = true → (false, ()) = (U.sameB d.1 d.2.1, ())) ∧
  (decide ((d.1.length : Int) ≠ (d.2.1.length : Int)) = false →
  (∃ (x : Nat), (((0 : Int) = (x : Int) ∧ True) ∧ True) ∧ x ≤ d.1.length ∧ List.take x d.1 = List.take x d.2.1) ∧
  ∀ (x : Nat),
  x ≤ d.1.length ∧ List.take x d.1 = List.take x d.2.1 →
  d.1.length < 4611686018427387904 →
  (decide ((x : Int) < (d.1.length : Int)) = true →
  0 ≤ (x : Int) ∧
  (x : Int) < (d.1.length : Int) ∧
  0 ≤ (x : Int) ∧
  (x : Int) < (d.2.1.length : Int) ∧
  ((!decide ((nth d.1 (x : Int).toNat).1 ≠ (nth d.2.1 (x : Int).toNat).1)) = true → 0 ≤ (x : Int)) ∧
  ((!decide ((nth d.1 (x : Int).toNat).1 ≠ (nth d.2.1 (x : Int).toNat).1)) = true → (x : Int) < (d.1.length : Int)) ∧
  ((!decide ((nth d.1 (x : Int).toNat).1 ≠ (nth d.2.1 (x : Int).toNat).1)) = true → 0 ≤ (x : Int)) ∧
  ((!decide ((nth d.1 (x : Int).toNat).1 ≠ (nth d.2.1 (x : Int).toNat).1)) = true → (x : Int) < (d.2.1.length : Int)) ∧
  ((!(decide ((nth d.1 (x : Int).toNat).1 ≠ (nth d.2.1 (x : Int).toNat).1) || decide ((nth d.1 (x : Int).toNat).2.1 ≠ (nth d.2.1 (x : Int).toNat).2.1))) = true →
  0 ≤ (x : Int)) ∧
  ((!(decide ((nth d.1 (x : Int).toNat).1 ≠ (nth d.2.1 (x : Int).toNat).1) || decide ((nth d.1 (x : Int).toNat).2.1 ≠ (nth d.2.1 (x : Int).toNat).2.1))) = true →
  (x : Int) < (d.1.length : Int)) ∧
  ((!(decide ((nth d.1 (x : Int).toNat).1 ≠ (nth d.2.1 (x : Int).toNat).1) || decide ((nth d.1 (x : Int).toNat).2.1 ≠ (nth d.2.1 (x : Int).toNat).2.1))) = true →
  0 ≤ (x : Int)) ∧
  ((!(decide ((nth d.1 (x : Int).toNat).1 ≠ (nth d.2.1 (x : Int).toNat).1) || decide ((nth d.1 (x : Int).toNat).2.1 ≠ (nth d.2.1 (x : Int).toNat).2.1))) = true →
  (x : Int) < (d.2.1.length : Int)) ∧
  ((!(decide ((nth d.1 (x : Int).toNat).1 ≠ (nth d.2.1 (x : Int).toNat).1) || decide ((nth d.1 (x : Int).toNat).2.1 ≠ (nth d.2.1 (x : Int).toNat).2.1) ||
  decide ((nth d.1 (x : Int).toNat).2.2.1 ≠ (nth d.2.1 (x : Int).toNat).2.2.1))) =
  true →
  0 ≤ (x : Int)) ∧
  ((!(decide ((nth d.1 (x : Int).toNat).1 ≠ (nth d.2.1 (x : Int).toNat).1) || decide ((nth d.1 (x : Int).toNat).2.1 ≠ (nth d.2.1 (x : Int).toNat).2.1) ||
  decide ((nth d.1 (x : Int).toNat).2.2.1 ≠ (nth d.2.1 (x : Int).toNat).2.2.1))) =
  true →
  (x : Int) < (d.1.length : Int)) ∧
  ((!(decide ((nth d.1 (x : Int).toNat).1 ≠ (nth d.2.1 (x : Int).toNat).1) || decide ((nth d.1 (x : Int).toNat).2.1 ≠ (nth d.2.1 (x : Int).toNat).2.1) ||
  decide ((nth d.1 (x : Int).toNat).2.2.1 ≠ (nth d.2.1 (x : Int).toNat).2.2.1))) =
  true →
  0 ≤ (x : Int)) ∧
  ((!(decide ((nth d.1 (x : Int).toNat).1 ≠ (nth d.2.1 (x : Int).toNat).1) || decide ((nth d.1 (x : Int).toNat).2.1 ≠ (nth d.2.1 (x : Int).toNat).2.1) ||
  decide ((nth d.1 (x : Int).toNat).2.2.1 ≠ (nth d.2.1 (x : Int).toNat).2.2.1))) =
  true →
  (x : Int) < (d.2.1.length : Int)) ∧
  ((!(decide ((nth d.1 (x : Int).toNat).1 ≠ (nth d.2.1 (x : Int).toNat).1) || decide ((nth d.1 (x : Int).toNat).2.1 ≠ (nth d.2.1 (x : Int).toNat).2.1) ||
  decide ((nth d.1 (x : Int).toNat).2.2.1 ≠ (nth d.2.1 (x : Int).toNat).2.2.1) ||
  !decide ((nth d.1 (x : Int).toNat).2.2.2.2.1 = (nth d.2.1 (x : Int).toNat).2.2.2.2.1))) =
  true →
  0 ≤ (x : Int)) ∧
  ((!(decide ((nth d.1 (x : Int).toNat).1 ≠ (nth d.2.1 (x : Int).toNat).1) || decide ((nth d.1 (x : Int).toNat).2.1 ≠ (nth d.2.1 (x : Int).toNat).2.1) ||
  decide ((nth d.1 (x : Int).toNat).2.2.1 ≠ (nth d.2.1 (x : Int).toNat).2.2.1) ||
  !decide ((nth d.1 (x : Int).toNat).2.2.2.2.1 = (nth d.2.1 (x : Int).toNat).2.2.2.2.1))) =
  true →
  (x : Int) < (d.1.length : Int)) ∧
  ((!(decide ((nth d.1 (x : Int).toNat).1 ≠ (nth d.2.1 (x : Int).toNat).1) || decide ((nth d.1 (x : Int).toNat).2.1 ≠ (nth d.2.1 (x : Int).toNat).2.1) ||
  decide ((nth d.1 (x : Int).toNat).2.2.1 ≠ (nth d.2.1 (x : Int).toNat).2.2.1) ||
  !decide ((nth d.1 (x : Int).toNat).2.2.2.2.1 = (nth d.2.1 (x : Int).toNat).2.2.2.2.1))) =
  true →
  0 ≤ (x : Int)) ∧
  ((!(decide ((nth d.1 (x : Int).toNat).1 ≠ (nth d.2.1 (x : Int).toNat).1) || decide ((nth d.1 (x : Int).toNat).2.1 ≠ (nth d.2.1 (x : Int).toNat).2.1) ||
  decide ((nth d.1 (x : Int).toNat).2.2.1 ≠ (nth d.2.1 (x : Int).toNat).2.2.1) ||
  !decide ((nth d.1 (x : Int).toNat).2.2.2.2.1 = (nth d.2.1 (x : Int).toNat).2.2.2.2.1))) =
  true →
  (x : Int) < (d.2.1.length : Int)) ∧
  ((decide ((nth d.1 (x : Int).toNat).1 ≠ (nth d.2.1 (x : Int).toNat).1) || decide ((nth d.1 (x : Int).toNat).2.1 ≠ (nth d.2.1 (x : Int).toNat).2.1) ||
  decide ((nth d.1 (x : Int).toNat).2.2.1 ≠ (nth d.2.1 (x : Int).toNat).2.2.1) ||
  !decide ((nth d.1 (x : Int).toNat).2.2.2.2.1 = (nth d.2.1 (x : Int).toNat).2.2.2.2.1) ||
  !U.sameF (nth d.1 (x : Int).toNat).2.2.2.1 (nth d.2.1 (x : Int).toNat).2.2.2.1) =
  true →
  (false, ()) = (U.sameB d.1 d.2.1, ())) ∧
  ((decide ((nth d.1 (x : Int).toNat).1 ≠ (nth d.2.1 (x : Int).toNat).1) ||
  decide ((nth d.1 (x : Int).toNat).2.1 ≠ (nth d.2.1 (x : Int).toNat).2.1) ||
  decide ((nth d.1 (x : Int).toNat).2.2.1 ≠ (nth d.2.1 (x : Int).toNat).2.2.1) ||
  !decide ((nth d.1 (x : Int).toNat).2.2.2.2.1 = (nth d.2.1 (x : Int).toNat).2.2.2.2.1) ||
  !U.sameF (nth d.1 (x : Int).toNat).2.2.2.1 (nth d.2.1 (x : Int).toNat).2.2.2.1) =
  false →
  In64 ((x : Int) + 1) ∧
  ∃ (x' : Nat),
  (((x : Int) + 1 = (x' : Int) ∧ True) ∧ True) ∧ (x' ≤ d.1.length ∧ List.take x' d.1 = List.take x' d.2.1) ∧ d.1.length - x' < d.1.length - x)) ∧
  (decide ((x : Int) < (d.1.length : Int)) = false → (true, ()) = (U.sameB d.1 d.2.1, ())))

theorem vc47_eq : fnVC (ctx 81 [(42, sp42)] []) (an47) Tryz.f47 (bodyOf Tryz.f47) sp47 = vc47 := by kernel_rfl

def sp49 : Spec := ⟨[], [.slice tE, tSn], false, fun _ => [], fun _ => (U.exL, U.exS, ())⟩
def vc49 : Prop :=
  ∀ (_ : Unit),
  ([((1 : Int), (10 : Int), (3 : Int), ((3 : Int), (-1 : Int), (-1 : Int), (2 : Int), (0 : Int), [(1 : Int), (2 : Int)], ()), ((0 : Int), (60 : Int), ()), ()),
  ((2 : Int), (20 : Int), (6 : Int), ((-1 : Int), (3 : Int), (1 : Int), (2 : Int), (0 : Int), [(7 : Int), (6 : Int)], ()), ((40 : Int), (120 : Int), ()), ()),
  ((3 : Int), (30 : Int), (7 : Int), ((5 : Int), (5 : Int), (0 : Int), (2 : Int), (4 : Int), [(0 : Int)], ()), ((0 : Int), (120 : Int), ()), ()),
  ((4 : Int), (10 : Int), (4 : Int), ((4 : Int), (-1 : Int), (0 : Int), (3 : Int), (0 : Int), [(2 : Int), (2 : Int), (6 : Int)], ()), ((0 : Int), (120 : Int), ()), ())],
  ((8589934591 : Int), (8589934591 : Int), (1 : Int), (255 : Int), (2 : Int), ((-3 : Int), (3 : Int), ()), ((2 : Int), (3 : Int), ()), ((0 : Int), (120 : Int), ()), [(4 : Int)], ()), ()) =
  (U.exL, U.exS, ())

theorem vc49_eq : fnVC (ctx 27 [(27, sp27)] []) (fun _ => none) Tryz.f49 (bodyOf Tryz.f49) sp49 = vc49 := by kernel_rfl

def sp45a : Spec := ⟨[.val (.slice tE), .val (.slice tE)], [.slice tE, .int], false, fun _ => [], fun d => U.mrg d.1 d.2.1⟩
def FS : List (Nat × Spec) := [(14, sp14), (18, sp18), (20, sp20), (22, sp22), (23, sp23), (24, sp24), (27, sp27), (28, sp28), (29, sp29), (32, sp32), (34, sp34), (36, sp36), (39, sp39), (42, sp42), (43, sp43), (44, sp44), (45, sp45a), (47, sp47), (48, sp48), (49, sp49)]
def sp15 : Spec := ⟨[], [.bool], false, fun _ => [], fun _ => (true, ())⟩
def vc15 : Prop :=
  ∀ (_ : Unit),
  ((decide ((U.ord U.exL).2.1 = (0 : Int)) && decide ((U.fnd U.exL U.exS).2.1 = (0 : Int)) && decide ((U.ask U.exL U.exS).2.2.1 = (0 : Int)) && decide ((U.twn U.exL).2.1 = (0 : Int)) &&
  decide ((U.ord U.exL).1 = [(1 : Int), (2 : Int), (3 : Int), (4 : Int)]) &&
  decide ((U.fnd U.exL U.exS).1 = [(10 : Int), (20 : Int)]) &&
  decide ((U.ask U.exL U.exS).2.1 = (2 : Int))) =
  true →
  (U.twn U.exL).1.length < 4611686018427387904) →
  ((decide ((U.ord U.exL).2.1 = (0 : Int)) && decide ((U.fnd U.exL U.exS).2.1 = (0 : Int)) && decide ((U.ask U.exL U.exS).2.2.1 = (0 : Int)) && decide ((U.twn U.exL).2.1 = (0 : Int)) &&
  decide ((U.ord U.exL).1 = [(1 : Int), (2 : Int), (3 : Int), (4 : Int)]) &&
  decide ((U.fnd U.exL U.exS).1 = [(10 : Int), (20 : Int)]) &&
  decide ((U.ask U.exL U.exS).2.1 = (2 : Int)) &&
  decide ((↑(U.twn U.exL).1.length : Int) = (1 : Int))) =
  true →
  (0 : Int) ≤ (0 : Int)) ∧
  ((decide ((U.ord U.exL).2.1 = (0 : Int)) && decide ((U.fnd U.exL U.exS).2.1 = (0 : Int)) && decide ((U.ask U.exL U.exS).2.2.1 = (0 : Int)) && decide ((U.twn U.exL).2.1 = (0 : Int)) &&
  decide ((U.ord U.exL).1 = [(1 : Int), (2 : Int), (3 : Int), (4 : Int)]) &&
  decide ((U.fnd U.exL U.exS).1 = [(10 : Int), (20 : Int)]) &&
  decide ((U.ask U.exL U.exS).2.1 = (2 : Int)) &&
  decide ((↑(U.twn U.exL).1.length : Int) = (1 : Int))) =
  true →
  (0 : Int) < (↑(U.twn U.exL).1.length : Int)) ∧
  (decide ((U.ord U.exL).2.1 = (0 : Int)) && decide ((U.fnd U.exL U.exS).2.1 = (0 : Int)) && decide ((U.ask U.exL U.exS).2.2.1 = (0 : Int)) && decide ((U.twn U.exL).2.1 = (0 : Int)) &&
  decide ((U.ord U.exL).1 = [(1 : Int), (2 : Int), (3 : Int), (4 : Int)]) &&
  decide ((U.fnd U.exL U.exS).1 = [(10 : Int), (20 : Int)]) &&
  decide ((U.ask U.exL U.exS).2.1 = (2 : Int)) &&
  decide ((↑(U.twn U.exL).1.length : Int) = (1 : Int)) &&
  decide (nth (U.twn U.exL).1 (Int.toNat (0 : Int)) = ((10 : Int), (20 : Int), ())),
  ()) =
  (true, ())

theorem vc15_eq : fnVC (ctx 79 FS []) (fun _ => none) Tryz.f15 (bodyOf Tryz.f15) sp15 = vc15 := by kernel_rfl


end Go.X
/-
  Signs: what the statements themselves call.
-/
namespace Go.X
open Go.Proofs

theorem any_step {α : Type} [Inhabited α] {l : List α} {p : α → Bool} {i : Nat} (h : i < l.length) (h1 : (l.take i).any p = false) (h2 : p (nth l i) = false) : (l.take (i + 1)).any p = false := by
  rw [L.take_succ h, List.any_append, h1]; simp [h2]
theorem h44 : vc44 := by
  intro d
  refine ⟨⟨0, ⟨⟨rfl, trivial⟩, trivial⟩, by omega, rfl⟩, fun x ⟨hx, ha⟩ hlen => ⟨fun h => ?_, fun h _ => ?_⟩⟩
  · have h : (x : Int) < (d.1.length : Int) := of_decide_eq_true h
    have hlt : x < d.1.length := by omega
    have hm : nth d.1 x ∈ d.1 := L.mem_nth hlt
    refine ⟨by omega, h, fun _ => ⟨fun h2 => ?_, fun h2 => ⟨by unfold In64; omega, x + 1, ⟨⟨by omega, trivial⟩, trivial⟩, ⟨by omega, ?_⟩, by omega⟩⟩⟩
    · have h2 : (20 : Int) < ((U.mv (U.fm (nth d.1 x))).length : Int) := of_decide_eq_true h2
      unfold U.long
      rw [List.any_eq_true.2 ⟨_, hm, decide_eq_true (by omega)⟩]; rfl
    · have h2 : ¬ (20 : Int) < ((U.mv (U.fm (nth d.1 x))).length : Int) := of_decide_eq_false h2
      exact any_step hlt ha (decide_eq_false (by omega))
  · have h : ¬ (x : Int) < (d.1.length : Int) := of_decide_eq_false h
    rw [List.take_of_length_le (by omega)] at ha
    unfold U.long
    rw [ha, Bool.false_or]
    exact Prod.ext (decide_eq_decide.2 ⟨fun h => by omega, fun h => by omega⟩) rfl
theorem ok44 : FnOK PR 44 sp44 := mkFn (vc44_eq.mpr h44) Tryz.func44 (by kernel_rfl) (by kernel_rfl) (by kernel_rfl) (by kernel_rfl) trivial trivial
theorem h14 : vc14 := by
  intro d
  refine fun _ => ?_
  unfold U.far
  rw [show decide ((12 : Int) < (d.1.length : Int)) = decide (12 < d.1.length) from decide_eq_decide.2 ⟨fun h => by omega, fun h => by omega⟩]
theorem ok14 : FnOK PR 14 sp14 := mkFn (vc14_eq.mpr h14) Tryz.func14 (by kernel_rfl) (by kernel_rfl) (by kernel_rfl) (by kernel_rfl) ⟨fun _ => ok44, fun _ => ok48, trivial⟩ trivial
theorem h23 : vc23 := fun _ => rfl
theorem ok23 : FnOK PR 23 sp23 := mkFn (vc23_eq.mpr h23) Tryz.func23 (by kernel_rfl) (by kernel_rfl) (by kernel_rfl) (by kernel_rfl) ⟨fun _ => ok14, fun _ => ok28, trivial⟩ trivial
theorem take_all {α : Type} {a b : List α} {x : Nat} (h : a.take x = b.take x) (h1 : a.length ≤ x) (h2 : a.length = b.length) : a = b := by
  rw [List.take_of_length_le h1, List.take_of_length_le (by omega)] at h; exact h
theorem nth_ne {α : Type} [Inhabited α] {a b : List α} {x : Nat} (h : nth a x ≠ nth b x) : a ≠ b := fun e => h (by rw [e])
theorem take_same {α : Type} [Inhabited α] {a b : List α} {x : Nat} (h : a.take x = b.take x) (h1 : x < a.length) (h2 : x < b.length) (h3 : nth a x = nth b x) : a.take (x + 1) = b.take (x + 1) := by
  rw [L.take_succ h1, L.take_succ h2, h, h3]
theorem len_ne {α : Type} {a b : List α} (h : (a.length : Int) ≠ (b.length : Int)) : a ≠ b := fun e => h (by rw [e])
theorem h22 : vc22 := by
  intro d _ _
  refine ⟨fun h => by rw [decide_eq_false (len_ne (of_decide_eq_true h))], fun h => ⟨⟨0, ⟨⟨rfl, trivial⟩, trivial⟩, by omega, rfl⟩, fun x ⟨hx, ha⟩ _ => ⟨fun h1 => ?_, fun h1 => ?_⟩⟩⟩
  · have h : (d.1.length : Int) = (d.2.1.length : Int) := Classical.not_not.1 (of_decide_eq_false h)
    have h1 : (x : Int) < (d.1.length : Int) := of_decide_eq_true h1
    refine ⟨by omega, h1, by omega, by omega, fun h2 => by rw [decide_eq_false (nth_ne (of_decide_eq_true h2))], fun h2 => ⟨by unfold In64; omega, x + 1, ⟨⟨by omega, trivial⟩, trivial⟩, ⟨by omega, take_same ha (by omega) (by omega) (Classical.not_not.1 (of_decide_eq_false h2))⟩, by omega⟩⟩
  · have h : (d.1.length : Int) = (d.2.1.length : Int) := Classical.not_not.1 (of_decide_eq_false h)
    have h1 : ¬ (x : Int) < (d.1.length : Int) := of_decide_eq_false h1
    rw [decide_eq_true (take_all ha (by omega) (by omega))]
theorem ok22 : FnOK PR 22 sp22 := mkFn (vc22_eq.mpr h22) Tryz.func22 (by kernel_rfl) (by kernel_rfl) (by kernel_rfl) (by kernel_rfl) trivial trivial
theorem h27 : vc27 := fun _ => rfl
theorem ok27 : FnOK PR 27 sp27 := mkFn (vc27_eq.mpr h27) Tryz.func27 (by kernel_rfl) (by kernel_rfl) (by kernel_rfl) (by kernel_rfl) trivial trivial
theorem h36 : vc36 := by
  intro d _ _
  refine ⟨fun h => by rw [decide_eq_false (len_ne (of_decide_eq_true h))], fun h => ⟨⟨0, ⟨⟨rfl, trivial⟩, trivial⟩, by omega, rfl⟩, fun x ⟨hx, ha⟩ _ => ⟨fun h1 => ?_, fun h1 => ?_⟩⟩⟩
  · have h : (d.1.length : Int) = (d.2.1.length : Int) := Classical.not_not.1 (of_decide_eq_false h)
    have h1 : (x : Int) < (d.1.length : Int) := of_decide_eq_true h1
    refine ⟨by omega, h1, by omega, by omega, fun h2 => ?_, fun h2 => ⟨by unfold In64; omega, x + 1, ⟨⟨by omega, trivial⟩, trivial⟩, ⟨by omega, take_same ha (by omega) (by omega) ?_⟩, by omega⟩⟩
    · rw [decide_eq_false (nth_ne (of_decide_eq_false (by simpa using h2)))]
    · exact of_decide_eq_true (by simpa using h2)
  · have h : (d.1.length : Int) = (d.2.1.length : Int) := Classical.not_not.1 (of_decide_eq_false h)
    have h1 : ¬ (x : Int) < (d.1.length : Int) := of_decide_eq_false h1
    rw [decide_eq_true (take_all ha (by omega) (by omega))]
theorem ok36 : FnOK PR 36 sp36 := mkFn (vc36_eq.mpr h36) Tryz.func36 (by kernel_rfl) (by kernel_rfl) (by kernel_rfl) (by kernel_rfl) trivial trivial
theorem sameF_iff {a b : FmD} : U.sameF a b = true ↔ a = b := decide_eq_true_iff
theorem sameB_iff {a b : List ED} : U.sameB a b = true ↔ a = b := decide_eq_true_iff
theorem fm_ext {a b : FmD} (h1 : a.1 = b.1) (h2 : a.2.1 = b.2.1) (h3 : a.2.2.1 = b.2.2.1) (h4 : a.2.2.2.1 = b.2.2.2.1) (h5 : a.2.2.2.2.1 = b.2.2.2.2.1) (h6 : a.2.2.2.2.2.1 = b.2.2.2.2.2.1) : a = b := by
  obtain ⟨a1, a2, a3, a4, a5, a6, a7⟩ := a
  obtain ⟨b1, b2, b3, b4, b5, b6, b7⟩ := b
  cases h1; cases h2; cases h3; cases h4; cases h5; cases h6; rfl
theorem h42 : vc42 := by
  intro d
  refine Prod.ext ?_ rfl
  refine Bool.eq_iff_iff.2 ?_
  rw [sameF_iff]
  simp only [Bool.and_eq_true, decide_eq_true_eq]
  constructor
  · rintro ⟨⟨⟨⟨⟨h1, h2⟩, h3⟩, h4⟩, h5⟩, h6⟩; exact fm_ext h1 h2 h3 h4 h5 h6
  · intro h; rw [h]; exact ⟨⟨⟨⟨⟨rfl, rfl⟩, rfl⟩, rfl⟩, rfl⟩, rfl⟩
theorem ok42 : FnOK PR 42 sp42 := mkFn (vc42_eq.mpr h42) Tryz.func42 (by kernel_rfl) (by kernel_rfl) (by kernel_rfl) (by kernel_rfl) ⟨fun _ => ok22, trivial⟩ trivial
theorem h47 : vc47 := by
  intro d _ _
  refine ⟨fun h => ?_, fun h => ⟨⟨0, ⟨⟨rfl, trivial⟩, trivial⟩, by omega, rfl⟩, fun x ⟨hx, ha⟩ _ => ⟨fun h1 => ?_, fun h1 => ?_⟩⟩⟩
  · have := len_ne (of_decide_eq_true h)
    cases e : U.sameB d.1 d.2.1 with
    | false => rfl
    | true => exact absurd (sameB_iff.1 e) this
  · have h : (d.1.length : Int) = (d.2.1.length : Int) := Classical.not_not.1 (of_decide_eq_false h)
    have h1 : (x : Int) < (d.1.length : Int) := of_decide_eq_true h1
    have a1 : (0 : Int) ≤ (x : Int) := by omega
    have a2 : (x : Int) < (d.2.1.length : Int) := by omega
    refine ⟨a1, h1, a1, a2, fun _ => a1, fun _ => h1, fun _ => a1, fun _ => a2, fun _ => a1, fun _ => h1, fun _ => a1, fun _ => a2, fun _ => a1, fun _ => h1, fun _ => a1, fun _ => a2, fun _ => a1, fun _ => h1, fun _ => a1, fun _ => a2, fun h2 => ?_, fun h2 => ⟨by unfold In64; omega, x + 1, ⟨⟨by omega, trivial⟩, trivial⟩, ⟨by omega, take_same ha (by omega) (by omega) ?_⟩, by omega⟩⟩
    · cases e : U.sameB d.1 d.2.1 with
      | false => rfl
      | true =>
        have e := sameB_iff.1 e
        rw [e] at h2
        have : U.sameF (nth d.2.1 (x : Int).toNat).2.2.2.1 (nth d.2.1 (x : Int).toNat).2.2.2.1 = true := sameF_iff.2 rfl
        rw [this] at h2
        simp at h2
    · have e : (x : Int).toNat = x := rfl
      rw [e] at h2
      simp only [Bool.or_eq_false_iff, decide_eq_false_iff_not, Bool.not_eq_false', decide_eq_true_eq, Classical.not_not] at h2
      obtain ⟨⟨⟨⟨b1, b2⟩, b3⟩, b4⟩, b5⟩ := h2
      exact ed_ext b1 b2 b3 (sameF_iff.1 b5) b4
  · have h : (d.1.length : Int) = (d.2.1.length : Int) := Classical.not_not.1 (of_decide_eq_false h)
    have h1 : ¬ (x : Int) < (d.1.length : Int) := of_decide_eq_false h1
    rw [sameB_iff.2 (take_all ha (by omega) (by omega))]
theorem ok47 : FnOK PR 47 sp47 := mkFn (vc47_eq.mpr h47) Tryz.func47 (by kernel_rfl) (by kernel_rfl) (by kernel_rfl) (by kernel_rfl) ⟨fun _ => ok42, trivial⟩ trivial
theorem h49 : vc49 := fun _ => rfl
theorem ok49 : FnOK PR 49 sp49 := mkFn (vc49_eq.mpr h49) Tryz.func49 (by kernel_rfl) (by kernel_rfl) (by kernel_rfl) (by kernel_rfl) ⟨fun _ => ok27, trivial⟩ trivial

/-! ### The chapter's example -/

theorem ex_chk : U.chk U.exL = 0 := by decide +kernel
theorem ex_look : U.lookE U.exL U.exS = 0 := by decide +kernel
theorem ex_ord : U.ord U.exL = ([1, 2, 3, 4], 0, ()) := by decide +kernel
theorem ex_twn : U.twn U.exL = ([(10, 20, ())], 0, ()) := by decide +kernel
theorem ex_found : U.dedup (((U.vals (U.opn U.exL).1).filter (U.agrees U.exS)).map U.sg) = [20, 10] := by decide +kernel
theorem ex_find : U.find (U.vals (U.opn U.exL).1) U.exS = [10, 20] := by
  unfold U.find
  rw [ex_found]
  exact asc_int_unique ((sortI_perm _).trans (List.Perm.swap 10 20 [])) (sortI_asc _) (by decide)
theorem ex_fnd : U.fnd U.exL U.exS = ([10, 20], 0, ()) := by
  unfold U.fnd
  rw [ex_look, if_neg (by decide), ex_find]
def lenF (V : List ED) (o : SnD) : Int := ((U.dedup ((V.filter (U.agrees o)).map U.sg)).length : Int)
def mostF (V : List ED) (s : SnD) (p : Int) : Int := U.topOf ((U.answers s p).map (lenF V))
theorem mostF_eq (V : List ED) (s : SnD) (p : Int) : U.most V s p = mostF V s p := by
  unfold U.most U.nums mostF
  exact congrArg U.topOf (List.map_congr_left (fun o _ => by
    show ((U.find V o).length : Int) = ((U.dedup ((V.filter (U.agrees o)).map U.sg)).length : Int)
    unfold U.find
    rw [(sortI_perm _).length_eq]))
def bestF (V : List ED) (s : SnD) : Nat → Int × Int
  | 0 => (0, 41)
  | p + 1 => if mostF V s (p : Int) < (bestF V s p).2 then ((p : Int), mostF V s (p : Int)) else bestF V s p
theorem bestF_eq (V : List ED) (s : SnD) : ∀ p : Nat, U.bestTo V s p = bestF V s p
  | 0 => rfl
  | p + 1 => by unfold U.bestTo bestF; rw [mostF_eq, bestF_eq V s p]
theorem ex_best : (bestF (U.vals (U.opn U.exL).1) U.exS 5).2 = 2 := by decide +kernel
theorem ex_ask : (U.ask U.exL U.exS).2 = (2, 0, ()) := by
  unfold U.ask
  rw [ex_look, if_neg (by decide), ex_find, if_neg (by decide), bestF_eq]
  show ((bestF (U.vals (U.opn U.exL).1) U.exS 5).2, (0 : Int), ()) = _
  rw [ex_best]
theorem h15 : vc15 := by
  intro d
  rw [ex_ord, ex_fnd, ex_twn, ex_ask]
  exact fun _ => ⟨fun _ => by decide, fun _ => by decide, by decide⟩
theorem ok45a : FnOK PR 45 sp45a := ok45all
theorem ok15 : FnOK PR 15 sp15 := mkFn (vc15_eq.mpr h15) Tryz.func15 (by kernel_rfl) (by kernel_rfl) (by kernel_rfl) (by kernel_rfl) ⟨fun _ => ok14, fun _ => ok18, fun _ => ok20, fun _ => ok22, fun _ => ok23, fun _ => ok24, fun _ => ok27, fun _ => ok28, fun _ => ok29, fun _ => ok32, fun _ => ok34, fun _ => ok36, fun _ => ok39, fun _ => ok42, fun _ => ok43, fun _ => ok44, fun _ => ok45a, fun _ => ok47, fun _ => ok48, fun _ => ok49, trivial⟩ trivial
theorem known_FS : Known FS := ⟨fun _ => ok14, fun _ => ok18, fun _ => ok20, fun _ => ok22, fun _ => ok23, fun _ => ok24, fun _ => ok27, fun _ => ok28, fun _ => ok29, fun _ => ok32, fun _ => ok34, fun _ => ok36, fun _ => ok39, fun _ => ok42, fun _ => ok43, fun _ => ok44, fun _ => ok45a, fun _ => ok47, fun _ => ok48, fun _ => ok49, trivial⟩

end Go.X
