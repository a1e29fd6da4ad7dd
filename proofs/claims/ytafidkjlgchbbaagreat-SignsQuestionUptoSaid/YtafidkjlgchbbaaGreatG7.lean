/-
  Signs: the law of the search.
-/
import Derived.Test.YtafidkjlgchbbaaGreatG6
namespace Go.X
open Go.Proofs

def sp4 : Spec := lawSpec [.slice tE, tSn]
def an4 : Ann := fun r => match r with
  | 7 => some fun σ => { X := Nat, sl := fun i => [(7, .dat .int (i : Int))], ob := fun _ => [], inv := fun i => i ≤ (gd (.slice tE) σ 0).length, mu := fun i => (gd (.slice tE) σ 0).length - i }
  | 12 => some fun σ => { X := Nat, sl := fun i => [(8, .dat .int (i : Int))], ob := fun _ => [], inv := fun i => i ≤ (gd (.slice .int) σ 5).length, mu := fun i => (gd (.slice .int) σ 5).length - i }
  | 16 => some fun σ => { X := Nat, sl := fun i => [(10, .dat .int (i : Int)), (9, .dat .bool (((gd (.slice tE) σ 0).take i).any (U.hit (gd tSn σ 1) (nth (gd (.slice .int) σ 5) (gd .int σ 8).toNat))))], ob := fun _ => [], inv := fun i => i ≤ (gd (.slice tE) σ 0).length, mu := fun i => (gd (.slice tE) σ 0).length - i }
  | _ => none
def vc4 : Prop :=
  ∀ (d : List ED × SnD × Unit),
  fitsAll (1048576 : Nat)
  [(Ty.int.pair (Ty.int.pair (Ty.int.pair ((Ty.int.pair (Ty.int.pair (Ty.int.pair (Ty.int.pair (Ty.int.pair (Ty.int.slice.pair Ty.unit)))))).pair ((Ty.int.pair (Ty.int.pair Ty.unit)).pair Ty.unit))))).slice,
  Ty.int.pair (Ty.int.pair (Ty.int.pair (Ty.int.pair (Ty.int.pair ((Ty.int.pair (Ty.int.pair Ty.unit)).pair ((Ty.int.pair (Ty.int.pair Ty.unit)).pair ((Ty.int.pair (Ty.int.pair Ty.unit)).pair (Ty.int.slice.pair Ty.unit))))))))]
  d →
  ((!!U.ready d.1) = true → d.2.1.2.2.2.2.2.2.2.2.1.length < (4611686018427387904 : Nat)) →
  ((!U.ready d.1 || decide ((20 : Int) < (↑d.2.1.2.2.2.2.2.2.2.2.1.length : Int)) || !U.okS d.2.1) = true → (true, ()) = (true, ())) ∧
  ((!U.ready d.1 || decide ((20 : Int) < (↑d.2.1.2.2.2.2.2.2.2.2.1.length : Int)) || !U.okS d.2.1) = false →
  ((!decide ((U.fnd d.1 d.2.1).2.1 ≠ (0 : Int))) = true → (U.fnd d.1 d.2.1).1.length < (4611686018427387904 : Nat)) →
  ((!decide ((U.fnd d.1 d.2.1).2.1 ≠ (0 : Int))) = true → d.1.length < (4611686018427387904 : Nat)) →
  ((decide ((U.fnd d.1 d.2.1).2.1 ≠ (0 : Int)) || decide ((↑d.1.length : Int) < (↑(U.fnd d.1 d.2.1).1.length : Int))) = true → (false, ()) = (true, ())) ∧
  ((decide ((U.fnd d.1 d.2.1).2.1 ≠ (0 : Int)) || decide ((↑d.1.length : Int) < (↑(U.fnd d.1 d.2.1).1.length : Int))) = false →
  (∃ (x : Nat), (((0 : Int) = (↑x : Int) ∧ True) ∧ True) ∧ x ≤ d.1.length) ∧
  ∀ (x : Nat),
  x ≤ d.1.length →
  d.1.length < (4611686018427387904 : Nat) →
  (decide ((↑x : Int) < (↑d.1.length : Int)) = true →
  (0 : Int) ≤ (↑x : Int) ∧
  (↑x : Int) < (↑d.1.length : Int) ∧
  U.okForm (U.fm (nth d.1 (↑x : Int).toNat)) = true ∧
  U.lost d.2.1 ≤ (1000 : Int) ∧
  (U.agreesR (nth d.1 (↑x : Int).toNat) d.2.1 = true → (0 : Int) ≤ (↑x : Int)) ∧
  (U.agreesR (nth d.1 (↑x : Int).toNat) d.2.1 = true → (↑x : Int) < (↑d.1.length : Int)) ∧
  ((U.agreesR (nth d.1 (↑x : Int).toNat) d.2.1 && !decide ((nth d.1 (↑x : Int).toNat).2.1 ∈ (U.fnd d.1 d.2.1).1)) = true → (false, ()) = (true, ())) ∧
  ((U.agreesR (nth d.1 (↑x : Int).toNat) d.2.1 && !decide ((nth d.1 (↑x : Int).toNat).2.1 ∈ (U.fnd d.1 d.2.1).1)) = false →
  In64 ((↑x : Int) + (1 : Int)) ∧ ∃ (x' : Nat), (((↑x : Int) + (1 : Int) = (↑x' : Int) ∧ True) ∧ True) ∧ x' ≤ d.1.length ∧ d.1.length - x' < d.1.length - x)) ∧
  (decide ((↑x : Int) < (↑d.1.length : Int)) = false →
  (∃ (x : Nat), (((0 : Int) = (↑x : Int) ∧ True) ∧ True) ∧ x ≤ (U.fnd d.1 d.2.1).1.length) ∧
  ∀ (x : Nat),
  x ≤ (U.fnd d.1 d.2.1).1.length →
  (U.fnd d.1 d.2.1).1.length < (4611686018427387904 : Nat) →
  (decide ((↑x : Int) < (↑(U.fnd d.1 d.2.1).1.length : Int)) = true →
  (∃ (x_6 : Nat), (((0 : Int) = (↑x_6 : Int) ∧ false = (List.take x_6 d.1).any (U.hit d.2.1 (nth (U.fnd d.1 d.2.1).1 (↑x : Int).toNat)) ∧ True) ∧ True) ∧ x_6 ≤ d.1.length) ∧
  ∀ (x_6 : Nat),
  x_6 ≤ d.1.length →
  d.1.length < (4611686018427387904 : Nat) →
  (decide ((↑x_6 : Int) < (↑d.1.length : Int)) = true →
  ((!(List.take x_6 d.1).any (U.hit d.2.1 (nth (U.fnd d.1 d.2.1).1 (↑x : Int).toNat))) = true → (0 : Int) ≤ (↑x_6 : Int)) ∧
  ((!(List.take x_6 d.1).any (U.hit d.2.1 (nth (U.fnd d.1 d.2.1).1 (↑x : Int).toNat))) = true → (↑x_6 : Int) < (↑d.1.length : Int)) ∧
  ((!(List.take x_6 d.1).any (U.hit d.2.1 (nth (U.fnd d.1 d.2.1).1 (↑x : Int).toNat))) = true → (0 : Int) ≤ (↑x : Int)) ∧
  ((!(List.take x_6 d.1).any (U.hit d.2.1 (nth (U.fnd d.1 d.2.1).1 (↑x : Int).toNat))) = true → (↑x : Int) < (↑(U.fnd d.1 d.2.1).1.length : Int)) ∧
  ((!(List.take x_6 d.1).any (U.hit d.2.1 (nth (U.fnd d.1 d.2.1).1 (↑x : Int).toNat)) &&
  decide ((nth d.1 (↑x_6 : Int).toNat).2.1 = nth (U.fnd d.1 d.2.1).1 (↑x : Int).toNat)) =
  true →
  (0 : Int) ≤ (↑x_6 : Int)) ∧
  ((!(List.take x_6 d.1).any (U.hit d.2.1 (nth (U.fnd d.1 d.2.1).1 (↑x : Int).toNat)) &&
  decide ((nth d.1 (↑x_6 : Int).toNat).2.1 = nth (U.fnd d.1 d.2.1).1 (↑x : Int).toNat)) =
  true →
  (↑x_6 : Int) < (↑d.1.length : Int)) ∧
  ((!(List.take x_6 d.1).any (U.hit d.2.1 (nth (U.fnd d.1 d.2.1).1 (↑x : Int).toNat)) &&
  decide ((nth d.1 (↑x_6 : Int).toNat).2.1 = nth (U.fnd d.1 d.2.1).1 (↑x : Int).toNat)) =
  true →
  U.okForm (U.fm (nth d.1 (↑x_6 : Int).toNat)) = true) ∧
  ((!(List.take x_6 d.1).any (U.hit d.2.1 (nth (U.fnd d.1 d.2.1).1 (↑x : Int).toNat)) &&
  decide ((nth d.1 (↑x_6 : Int).toNat).2.1 = nth (U.fnd d.1 d.2.1).1 (↑x : Int).toNat)) =
  true →
  U.lost d.2.1 ≤ (1000 : Int)) ∧
  In64 ((↑x_6 : Int) + (1 : Int)) ∧
  ∃ (x' : Nat),
  (((↑x_6 : Int) + (1 : Int) = (↑x' : Int) ∧
  ((List.take x_6 d.1).any (U.hit d.2.1 (nth (U.fnd d.1 d.2.1).1 (↑x : Int).toNat)) ||
  decide ((nth d.1 (↑x_6 : Int).toNat).2.1 = nth (U.fnd d.1 d.2.1).1 (↑x : Int).toNat) &&
  U.agreesR (nth d.1 (↑x_6 : Int).toNat) d.2.1) =
  (List.take x' d.1).any (U.hit d.2.1 (nth (U.fnd d.1 d.2.1).1 (↑x : Int).toNat)) ∧
  True) ∧
  True) ∧
  x' ≤ d.1.length ∧ d.1.length - x' < d.1.length - x_6) ∧
  (decide ((↑x_6 : Int) < (↑d.1.length : Int)) = false →
  ((!!(List.take x_6 d.1).any (U.hit d.2.1 (nth (U.fnd d.1 d.2.1).1 (↑x : Int).toNat)) && decide ((0 : Int) < (↑x : Int))) = true → In64 ((↑x : Int) - (1 : Int))) ∧
  ((!!(List.take x_6 d.1).any (U.hit d.2.1 (nth (U.fnd d.1 d.2.1).1 (↑x : Int).toNat)) && decide ((0 : Int) < (↑x : Int))) = true → (0 : Int) ≤ (↑x : Int) - (1 : Int)) ∧
  ((!!(List.take x_6 d.1).any (U.hit d.2.1 (nth (U.fnd d.1 d.2.1).1 (↑x : Int).toNat)) && decide ((0 : Int) < (↑x : Int))) = true →
  (↑x : Int) - (1 : Int) < (↑(U.fnd d.1 d.2.1).1.length : Int)) ∧
  ((!!(List.take x_6 d.1).any (U.hit d.2.1 (nth (U.fnd d.1 d.2.1).1 (↑x : Int).toNat)) && decide ((0 : Int) < (↑x : Int))) = true → (0 : Int) ≤ (↑x : Int)) ∧
  ((!!(List.take x_6 d.1).any (U.hit d.2.1 (nth (U.fnd d.1 d.2.1).1 (↑x : Int).toNat)) && decide ((0 : Int) < (↑x : Int))) = true →
  (↑x : Int) < (↑(U.fnd d.1 d.2.1).1.length : Int)) ∧
  ((!(List.take x_6 d.1).any (U.hit d.2.1 (nth (U.fnd d.1 d.2.1).1 (↑x : Int).toNat)) ||
  decide ((0 : Int) < (↑x : Int)) && decide (nth (U.fnd d.1 d.2.1).1 (↑x : Int).toNat ≤ nth (U.fnd d.1 d.2.1).1 ((↑x : Int) - (1 : Int)).toNat)) =
  true →
  (false, ()) = (true, ())) ∧
  ((!(List.take x_6 d.1).any (U.hit d.2.1 (nth (U.fnd d.1 d.2.1).1 (↑x : Int).toNat)) ||
  decide ((0 : Int) < (↑x : Int)) && decide (nth (U.fnd d.1 d.2.1).1 (↑x : Int).toNat ≤ nth (U.fnd d.1 d.2.1).1 ((↑x : Int) - (1 : Int)).toNat)) =
  false →
  In64 ((↑x : Int) + (1 : Int)) ∧
  ∃ (x' : Nat),
  (((↑x : Int) + (1 : Int) = (↑x' : Int) ∧ True) ∧ True) ∧
  x' ≤ (U.fnd d.1 d.2.1).1.length ∧ (U.fnd d.1 d.2.1).1.length - x' < (U.fnd d.1 d.2.1).1.length - x))) ∧
  (decide ((↑x : Int) < (↑(U.fnd d.1 d.2.1).1.length : Int)) = false → (true, ()) = (true, ())))))

theorem vc4_eq : fnVC (ctx 115 ((15, sp15) :: FS) []) (an4) Tryz.f4 (bodyOf Tryz.f4) sp4 = vc4 := by kernel_rfl


end Go.X
/-
  Signs: each sign that agrees is found.
-/
namespace Go.X
open Go.Proofs

theorem ready_iff {l : List ED} : U.ready l = true ↔ U.far l = false ∧ U.chk l = 0 := by
  unfold U.ready
  rw [Bool.and_eq_true, Bool.not_eq_true', decide_eq_true_iff]
theorem ready_book {l : List ED} (h : U.ready l = true) : Book l := chk_iff.1 (ready_iff.1 h).2
theorem lookR_ok {l : List ED} (hb : Book l) {s : SnD} (hs : U.okS s = true) : U.lookR l s = 0 := by
  unfold U.lookR
  rw [if_neg (show ¬ U.chk l ≠ 0 by simp [chk_iff.2 hb]), if_neg (by rw [hs]; simp)]
theorem fnd_ok {l : List ED} (hb : Book l) {s : SnD} (hs : U.okS s = true) : U.fnd l s = (U.findR l s, 0, ()) := by
  rw [fnd_eq]; unfold U.fndR; rw [lookR_ok hb hs, if_neg (by simp)]
theorem findR_mem {l : List ED} (hb : Book l) {s : SnD} {n : Int} : n ∈ U.findR l s ↔ ∃ x, x ∈ l ∧ U.sg x = n ∧ U.agreesR x s = true := by
  unfold U.findR
  rw [findTo_mem]
  constructor
  · exact fun h => h.2
  · rintro ⟨x, hx, rfl, h⟩
    have := okE_sg (hb.ok x hx)
    exact ⟨⟨this.1, by omega⟩, x, hx, rfl, h⟩
theorem findR_asc (l : List ED) (s : SnD) : (U.findR l s).Pairwise (fun a b => a < b) := findTo_asc l s 1000
theorem findR_len {l : List ED} (hb : Book l) {s : SnD} (hs : U.okS s = true) : (U.findR l s).length ≤ l.length := by
  rw [← find_eq hb hb.reps (okS_seen hs)]
  refine Nat.le_trans (find_len _ _) ?_
  unfold U.vals
  rw [List.length_map, hb.opn]
  have := addTo_len [] l
  simpa using this
theorem h4 : vc4 := by
  intro d _ _
  refine ⟨fun _ => rfl, fun hc => ?_⟩
  simp only [Bool.or_eq_false_iff, Bool.not_eq_false', decide_eq_false_iff_not] at hc
  obtain ⟨⟨hr, hm⟩, hs⟩ := hc
  have hb := ready_book hr
  have hlost : U.lost d.2.1 ≤ 1000 := okS_lost hs
  have h40 := hb.len
  rw [fnd_ok hb hs]
  have hFl := findR_len hb hs
  have hmem := fun n => findR_mem hb (s := d.2.1) (n := n)
  have hasc := findR_asc d.1 d.2.1
  revert hFl hmem hasc
  generalize U.findR d.1 d.2.1 = F
  intro hFl hmem hasc
  intro _ _
  have form : ∀ x : Nat, x < d.1.length → U.okForm (U.fm (nth d.1 x)) = true := fun x h => okE_form (hb.ok _ (L.mem_nth h))
  have nt : ∀ x : Nat, (x : Int).toNat = x := fun x => rfl
  refine ⟨fun h => ?_, fun _ => ⟨⟨0, ⟨⟨rfl, trivial⟩, trivial⟩, by omega⟩, fun x hx _ => ⟨fun h1 => ?_, fun _ => ⟨⟨0, ⟨⟨rfl, trivial⟩, trivial⟩, by omega⟩, fun x hx _ => ⟨fun h1 => ⟨⟨0, ⟨⟨rfl, rfl, trivial⟩, trivial⟩, by omega⟩, fun y hy _ => ⟨fun h2 => ?_, fun h2 => ?_⟩⟩, fun _ => rfl⟩⟩⟩⟩⟩
  · exfalso
    rw [Bool.or_eq_true, decide_eq_true_iff, decide_eq_true_iff] at h
    rcases h with h | h
    · exact h rfl
    · have h : (d.1.length : Int) < (F.length : Int) := h
      omega
  · have h1 : (x : Int) < (d.1.length : Int) := of_decide_eq_true h1
    have hlt : x < d.1.length := by omega
    refine ⟨by omega, h1, form x hlt, hlost, fun _ => by omega, fun _ => h1, fun h => ?_, fun _ => ⟨by unfold In64; omega, x + 1, ⟨⟨by omega, trivial⟩, trivial⟩, by omega, by omega⟩⟩
    rw [Bool.and_eq_true, Bool.not_eq_true', decide_eq_false_iff_not] at h
    exact absurd ((hmem _).2 ⟨_, L.mem_nth hlt, rfl, h.1⟩) h.2
  · have h1 : (x : Int) < (F.length : Int) := of_decide_eq_true h1
    have h2 : (y : Int) < (d.1.length : Int) := of_decide_eq_true h2
    have a1 : (0 : Int) ≤ (x : Int) := by omega
    have a2 : (0 : Int) ≤ (y : Int) := by omega
    refine ⟨fun _ => a2, fun _ => h2, fun _ => a1, fun _ => h1, fun _ => a2, fun _ => h2, fun _ => form y (by omega), fun _ => hlost, by unfold In64; omega, y + 1, ⟨⟨by omega, ?_, trivial⟩, trivial⟩, by omega, by omega⟩
    rw [L.take_succ (by omega : y < d.1.length), List.any_append]
    simp only [List.any_cons, List.any_nil, Bool.or_false]
    rfl
  · have h1 : (x : Int) < (F.length : Int) := of_decide_eq_true h1
    have h2 : ¬ (y : Int) < (d.1.length : Int) := of_decide_eq_false h2
    have hlt : x < F.length := by omega
    refine ⟨fun _ => by unfold In64; omega, fun h => ?_, fun _ => by show (x : Int) - 1 < (F.length : Int); omega, fun _ => by omega, fun _ => h1, fun h => ?_, fun _ => ⟨by unfold In64; omega, x + 1, ⟨⟨by omega, trivial⟩, trivial⟩, by show x + 1 ≤ F.length; omega, by show F.length - (x + 1) < F.length - x; omega⟩⟩
    · rw [Bool.and_eq_true, decide_eq_true_iff] at h
      omega
    · exfalso
      rw [Bool.or_eq_true, Bool.not_eq_true', Bool.and_eq_true, decide_eq_true_iff, decide_eq_true_iff] at h
      rcases h with h | ⟨h3, h4⟩
      · rw [List.take_of_length_le (by omega)] at h
        obtain ⟨z, hz, e, ha⟩ := (hmem _).1 (L.mem_nth hlt)
        have : d.1.any (U.hit d.2.1 (nth F x)) = true := List.any_eq_true.2 ⟨z, hz, by unfold U.hit; rw [decide_eq_true e, ha]; rfl⟩
        rw [show (nth F (x : Int).toNat) = nth F x from rfl, this] at h
        cases h
      · have h5 : ((x : Int) - 1).toNat = x - 1 := by omega
        have h4 : nth F x ≤ nth F ((x : Int) - 1).toNat := h4
        rw [h5] at h4
        have := asc_nth hasc (show x - 1 < x by omega) hlt
        omega
theorem ok4 : FnOK PR 4 sp4 := mkFn (vc4_eq.mpr h4) Tryz.func4 (by kernel_rfl) (by kernel_rfl) (by kernel_rfl) (by kernel_rfl) ⟨fun _ => ok15, fun _ => ok14, fun _ => ok16, fun _ => ok17, fun _ => ok18, fun _ => ok19, fun _ => ok20, fun _ => ok21, fun _ => ok22, fun _ => ok23, fun _ => ok24, fun _ => ok25, fun _ => ok26, fun _ => ok27, fun _ => ok28, fun _ => ok29, fun _ => ok30, fun _ => ok31, fun _ => ok32, fun _ => ok33, fun _ => ok34, fun _ => ok35, fun _ => ok36, fun _ => ok37, fun _ => ok38, fun _ => ok39, fun _ => ok40, fun _ => ok41, fun _ => ok42, fun _ => ok43, fun _ => ok44, fun _ => ok45a, fun _ => ok46, fun _ => ok47, fun _ => ok48, fun _ => ok49, trivial⟩ trivial

end Go.X
