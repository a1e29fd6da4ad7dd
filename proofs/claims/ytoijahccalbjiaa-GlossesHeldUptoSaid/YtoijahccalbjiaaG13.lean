/-
  Two lists of glosses are the same: what is asked.
-/
import Derived.Test.YtoijahccalbjiaaG4
import Derived.Shelf.SlSortCmp.NoneTotal
import Derived.Shelf.SlSortCmp.WholeK
import Derived.Handy
import Derived.Test.YtoijahccalbjiaaG3
import Derived.Test.YtoijahccalbjiaaG6
import Derived.Test.YtoijahccalbjiaaK7
namespace Go.X
open Go.Proofs

abbrev tL : Ty := .slice tG
abbrev LG : Type := List GD

namespace U
def sameL : LG → LG → Bool
  | [], [] => true
  | a :: x, b :: y => decide (a = b) && sameL x y
  | _, _ => false
end U

def sp33 : Spec := ⟨[.val tL, .val tL], [.bool], false, fun d => [d.1.length ≤ 100000], fun d => (U.sameL d.1 d.2.1, ())⟩
def an33 : Ann := fun r => match r with
  | 4 => some fun σ => { X := Nat, sl := fun i => [(5, .dat .int (i : Int))], ob := fun _ => [], inv := fun i => i ≤ (gd tL σ 0).length ∧ (gd tL σ 0).take i = (gd tL σ 1).take i, mu := fun i => (gd tL σ 0).length - i }
  | _ => none
def vc33 : Prop :=
  ∀ (d : List (Int × Int × Int × Int × Int × Int × Unit) × List (Int × Int × Int × Int × Int × Int × Unit) × Unit),
  d.fst.length ≤ (100000 : Nat) →
  d.fst.length < (4611686018427387904 : Nat) →
  d.snd.fst.length < (4611686018427387904 : Nat) →
  (decide ((↑d.fst.length : Int) ≠ (↑d.snd.fst.length : Int)) = true → (false, ()) = (U.sameL d.fst d.snd.fst, ())) ∧
  (decide ((↑d.fst.length : Int) ≠ (↑d.snd.fst.length : Int)) = false →
  (∃ (x : Nat), (((0 : Int) = (↑x : Int) ∧ True) ∧ True) ∧ x ≤ d.fst.length ∧ List.take x d.fst = List.take x d.snd.fst) ∧
  ∀ (x : Nat),
  x ≤ d.fst.length ∧ List.take x d.fst = List.take x d.snd.fst →
  d.fst.length < (4611686018427387904 : Nat) →
  (decide ((↑x : Int) < (↑d.fst.length : Int)) = true →
  (0 : Int) ≤ (↑x : Int) ∧
  (↑x : Int) < (↑d.fst.length : Int) ∧
  (0 : Int) ≤ (↑x : Int) ∧
  (↑x : Int) < (↑d.snd.fst.length : Int) ∧
  ((!decide (nth d.fst (↑x : Int).toNat = nth d.snd.fst (↑x : Int).toNat)) = true → (false, ()) = (U.sameL d.fst d.snd.fst, ())) ∧
  ((!decide (nth d.fst (↑x : Int).toNat = nth d.snd.fst (↑x : Int).toNat)) = false →
  In64 ((↑x : Int) + (1 : Int)) ∧
  ∃ (x' : Nat), (((↑x : Int) + (1 : Int) = (↑x' : Int) ∧ True) ∧ True) ∧ (x' ≤ d.fst.length ∧ List.take x' d.fst = List.take x' d.snd.fst) ∧ d.fst.length - x' < d.fst.length - x)) ∧
  (decide ((↑x : Int) < (↑d.fst.length : Int)) = false → (true, ()) = (U.sameL d.fst d.snd.fst, ())))

theorem vc33_eq : fnVC (ctx 26 [] []) (an33) Try.f33 (bodyOf Try.f33) sp33 = vc33 := by kernel_rfl


end Go.X
/-
  Two lists of glosses are the same.
-/
namespace Go.X
open Go.Proofs

theorem sameL_iff : ∀ {a b : LG}, U.sameL a b = true ↔ a = b
  | [], [] => by simp [U.sameL]
  | [], _ :: _ => by simp [U.sameL]
  | _ :: _, [] => by simp [U.sameL]
  | a :: x, b :: y => by
    unfold U.sameL
    rw [Bool.and_eq_true, decide_eq_true_iff, sameL_iff, List.cons.injEq]

theorem h33 : vc33 := by
  rintro ⟨a, b, ⟨⟩⟩ hlen _ _
  simp only at hlen ⊢
  refine ⟨fun h => ?_, fun h => ?_⟩
  · have h : (a.length : Int) ≠ (b.length : Int) := of_decide_eq_true h
    have : U.sameL a b = false := by
      rw [Bool.eq_false_iff]
      intro e
      rw [sameL_iff] at e
      subst e; exact h rfl
    rw [this]
  · have h : (a.length : Int) = (b.length : Int) := Classical.byContradiction (of_decide_eq_false h)
    refine ⟨⟨0, ⟨⟨rfl, trivial⟩, trivial⟩, Nat.zero_le _, rfl⟩, fun x hx _ => ⟨fun hc => ?_, fun hc => ?_⟩⟩
    · have hc : x < a.length := by have := of_decide_eq_true hc; omega
      simp only [Int.toNat_natCast]
      refine ⟨by omega, by omega, by omega, by omega, fun hb => ?_, fun hb => ?_⟩
      · have hb : ¬ nth a x = nth b x := by simpa using hb
        have : U.sameL a b = false := by
          rw [Bool.eq_false_iff]
          intro e
          rw [sameL_iff] at e
          exact hb (by rw [e])
        rw [this]
      · have hb : nth a x = nth b x := by simpa using hb
        exact ⟨L.in64 (by omega) (by omega), x + 1, ⟨⟨by simp, trivial⟩, trivial⟩, ⟨by omega, by rw [L.take_succ (by omega), L.take_succ (by omega), hx.2, hb]⟩, by omega⟩
    · have hc : a.length ≤ x := by have := of_decide_eq_false hc; omega
      have h2 := hx.2
      rw [List.take_of_length_le (by omega), List.take_of_length_le (by omega)] at h2
      rw [sameL_iff.2 h2]

theorem ok33 : FnOK PR 33 sp33 := mkFn (vc33_eq.mpr h33) Try.func33 (by kernel_rfl) (by kernel_rfl) (by kernel_rfl) (by kernel_rfl) trivial trivial

end Go.X
/-
  slices.SortFunc by the order of glosses, at whatever length: by the kit's contract of it.
-/
namespace Go.Proofs
open Go.Shelf Go.RowKit Go.Lib Go.Sort

def Try.sortG_ren : Go.Shelf.Ren := ⟨fun | 6 => 79 | 15 => 90 | 14 => 89 | 28 => 100 | 29 => 101 | 20 => 92 | 21 => 93 | 22 => 94 | 23 => 95 | 24 => 96 | 25 => 97 | 26 => 98 | 27 => 99 | 46 => 102 | 47 => 103 | 48 => 104 | 49 => 105 | 50 => 106 | 57 => 107 | n => n, fun | 22 => 25 | 24 => 27 | 25 => 102 | 3 => 3 | 39 => 50 | 0 => 0 | 53 => 106 | 55 => 108 | 4 => 4 | 46 => 114 | 45 => 113 | 50 => 39 | 5 => 5 | 9 => 9 | 66 => 119 | 70 => 123 | 76 => 125 | 77 => 126 | n => n, fun | n => n⟩
theorem Try.sortG : Go.Proofs.SlLaysF0.n6 Try.prog Try.sortG_ren := {
  mixed := by kernel_rfl
  f6 := ⟨Try.f79.name, by decide, Try.func79.trans (congrArg some (by kernel_rfl))⟩
  f14 := ⟨Try.f89.name, by decide, Try.func89.trans (congrArg some (by kernel_rfl))⟩
  f15 := Try.func90.trans (congrArg some (by kernel_rfl))
  f20 := ⟨Try.f92.name, by decide, Try.func92.trans (congrArg some (by kernel_rfl))⟩
  f21 := ⟨Try.f93.name, by decide, Try.func93.trans (congrArg some (by kernel_rfl))⟩
  f22 := ⟨Try.f94.name, by decide, Try.func94.trans (congrArg some (by kernel_rfl))⟩
  f23 := ⟨Try.f95.name, by decide, Try.func95.trans (congrArg some (by kernel_rfl))⟩
  f24 := ⟨Try.f96.name, by decide, Try.func96.trans (congrArg some (by kernel_rfl))⟩
  f25 := ⟨Try.f97.name, by decide, Try.func97.trans (congrArg some (by kernel_rfl))⟩
  f26 := ⟨Try.f98.name, by decide, Try.func98.trans (congrArg some (by kernel_rfl))⟩
  f27 := ⟨Try.f99.name, by decide, Try.func99.trans (congrArg some (by kernel_rfl))⟩
  f28 := Try.func100.trans (congrArg some (by kernel_rfl))
  f29 := Try.func101.trans (congrArg some (by kernel_rfl))
  f46 := ⟨Try.f102.name, by decide, Try.func102.trans (congrArg some (by kernel_rfl))⟩
  f47 := Try.func103.trans (congrArg some (by kernel_rfl))
  f48 := Try.func104.trans (congrArg some (by kernel_rfl))
  f49 := ⟨Try.f105.name, by decide, Try.func105.trans (congrArg some (by kernel_rfl))⟩
  f50 := ⟨Try.f106.name, by decide, Try.func106.trans (congrArg some (by kernel_rfl))⟩
  f57 := ⟨Try.f107.name, by decide, Try.func107.trans (congrArg some (by kernel_rfl))⟩
  t0 := Try.underlying0
  a0 := Try.isAgg0
  z0 := Try.sizeOf0
  v0 := Try.zeroValue0
  t3 := Try.underlying3
  a3 := Try.isAgg3
  z3 := Try.sizeOf3
  v3 := Try.zeroValue3
  t4 := Try.underlying4
  a4 := Try.isAgg4
  z4 := Try.sizeOf4
  v4 := Try.zeroValue4
  t5 := Try.underlying5
  a5 := Try.isAgg5
  z5 := Try.sizeOf5
  v5 := Try.zeroValue5
  t9 := Try.underlying9
  a9 := Try.isAgg9
  z9 := Try.sizeOf9
  v9 := Try.zeroValue9
  t22 := Try.underlying25
  a22 := Try.isAgg25
  z22 := Try.sizeOf25
  v22 := Try.zeroValue25
  t25 := Try.underlying102
  a25 := Try.isAgg102
  z25 := Try.sizeOf102
  v25 := Try.zeroValue102
  t39 := Try.underlying50
  a39 := Try.isAgg50
  z39 := Try.sizeOf50
  v39 := Try.zeroValue50
  t45 := Try.underlying113
  a45 := Try.isAgg113
  z45 := Try.sizeOf113
  v45 := Try.zeroValue113
  t46 := Try.underlying114
  a46 := Try.isAgg114
  z46 := Try.sizeOf114
  v46 := Try.zeroValue114
  t50 := Try.underlying39
  a50 := Try.isAgg39
  z50 := Try.sizeOf39
  v50 := Try.zeroValue39
  t53 := Try.underlying106
  a53 := Try.isAgg106
  z53 := Try.sizeOf106
  v53 := Try.zeroValue106
  t55 := Try.underlying108
  a55 := Try.isAgg108
  z55 := Try.sizeOf108
  v55 := Try.zeroValue108
  t66 := Try.underlying119
  a66 := Try.isAgg119
  z66 := Try.sizeOf119
  v66 := Try.zeroValue119
  t70 := Try.underlying123
  a70 := Try.isAgg123
  z70 := Try.sizeOf123
  v70 := Try.zeroValue123
  t76 := Try.underlying125
  a76 := Try.isAgg125
  z76 := Try.sizeOf125
  v76 := Try.zeroValue125
  t77 := Try.underlying126
  a77 := Try.isAgg126
  z77 := Try.sizeOf126
  v77 := Try.zeroValue126 }

theorem heap_top (w : World) (y : Obj) (n : Nat) (h : n = w.heap.size) : (w.alloc y).heap[n]? = some y := by
  subst h; exact Go.X.heap_alloc_here w y

theorem or91 (W : World) (b : Nat) (x y : Int) (hw : W.heap[b]? = some (.cells #[.int .i64 x, .int .i64 y] 3 (0, 0))) :
    Calls Try.prog 91 #[.slice (some ⟨b, 0, none⟩) 2 2] W fun e w' => e = .returned (.int .i64 (if x ≠ 0 then x else y)) ∧ w' = W := by
  have c0 : W.cell? ⟨b, 0, none⟩ = some (.int .i64 x) := by simp [World.cell?, hw]
  have c1 : W.cell? ⟨b, 1, none⟩ = some (.int .i64 y) := by simp [World.cell?, hw]
  go_enter Try.func91, Try.ntmps91
  go_wp2
  go_rounds 3
  all_goals (go_ret; simp_all)

theorem order80 (a1 a2 a3 a4 a5 a6 b1 b2 b3 b4 b5 b6 : Int) (ha : 0 ≤ a1 ∧ a1 ≤ 100000 ∧ 0 ≤ a2 ∧ a2 ≤ 100000) (hb : 0 ≤ b1 ∧ b1 ≤ 100000 ∧ 0 ≤ b2 ∧ b2 ≤ 100000) (W : World) :
    Calls Try.prog 80 #[.agg #[.int .i64 a1, .int .i64 a2, .int .i64 a3, .int .i64 a4, .int .i64 a5, .int .i64 a6], .agg #[.int .i64 b1, .int .i64 b2, .int .i64 b3, .int .i64 b4, .int .i64 b5, .int .i64 b6]] W
      fun e w' => e = .returned (.int .i64 (if a1 - b1 ≠ 0 then a1 - b1 else a2 - b2)) ∧ ∃ q os', w' = grow (W.drewN q) os' := by
  have h1 : wrap64 (a1 - b1) = a1 - b1 := by unfold wrap64; omega
  have h2 : wrap64 (a2 - b2) = a2 - b2 := by unfold wrap64; omega
  have hcon := fun W' b hw => or91 W' b (a1 - b1) (a2 - b2) hw
  generalize (if a1 - b1 ≠ 0 then a1 - b1 else a2 - b2) = r at hcon ⊢
  go_enter Try.func80, Try.ntmps80
  go_wp2_with (go_at_call 91; refine (hcon _ _ ?_).mono ?_)
  · exact heap_top _ _ _ (by simp)
  · rintro e w' ⟨rfl, rfl⟩
    go_wp2
    go_ret
    exact ⟨rfl, 0, _, by rw [alloc_eq_grow, alloc_eq_grow, alloc_eq_grow, grow_grow, grow_grow]; rfl⟩

end Go.Proofs

namespace Go.X
open Go.Proofs
open Go.Sort (HoldsK putRowK flatK SWO PermIn SortedIn)

/-- glosses whose keys are small -/
abbrev SG : Type := { g : GD // U.small g }
instance : Inhabited SG := ⟨⟨(0, 0, 0, 0, 0, 0, ()), by unfold U.small U.au U.st; decide⟩⟩
def encS (x : SG) : List Value := [.int .i64 x.1.1, .int .i64 x.1.2.1, .int .i64 x.1.2.2.1, .int .i64 x.1.2.2.2.1, .int .i64 x.1.2.2.2.2.1, .int .i64 x.1.2.2.2.2.2.1]
def cfS (x y : SG) : Int := U.cmp x.1 y.1

theorem ltS (x y : SG) : Go.Proofs.ltOf cfS x y = U.ltk x.1 y.1 := by
  unfold Go.Proofs.ltOf cfS
  rw [Bool.eq_iff_iff, decide_eq_true_iff, cmp_lt]

theorem swoS : SWO (Go.Proofs.ltOf cfS) where
  irrefl x := by rw [ltS]; exact ltk_irrefl _
  trans x y z h1 h2 := by rw [ltS] at *; exact ltk_trans h1 h2
  ntrans x y z h1 h2 := by
    rw [ltS] at *
    unfold U.ltk at *
    rw [decide_eq_false_iff_not] at *
    omega

theorem cmpS (blk off size : Nat) (w : World) : CmpLays PR 80 #[] encS 6 cfS blk off size w := fun _ _ _ _ x y => by
  obtain ⟨⟨a1, a2, a3, a4, a5, a6, ⟨⟩⟩, ha⟩ := x
  obtain ⟨⟨b1, b2, b3, b4, b5, b6, ⟨⟩⟩, hb⟩ := y
  unfold U.small U.au U.st at ha hb
  simp only at ha hb
  exact order80 a1 a2 a3 a4 a5 a6 b1 b2 b3 b4 b5 b6 (by omega) (by omega) _

/-- the cells of a gloss -/
theorem rdG {H : Imm} {f : Nat → Option Value} {y : GD} : tG.rd H f y ↔ f 0 = some (.int .i64 y.1) ∧ f 1 = some (.int .i64 y.2.1) ∧ f 2 = some (.int .i64 y.2.2.1) ∧ f 3 = some (.int .i64 y.2.2.2.1) ∧ f 4 = some (.int .i64 y.2.2.2.2.1) ∧ f 5 = some (.int .i64 y.2.2.2.2.2.1) := by
  simp only [Ty.st, Ty.rd, Ty.size]
  constructor
  · rintro ⟨h0, h1, h2, h3, h4, h5, _⟩
    exact ⟨h0, h1, h2, h3, h4, h5⟩
  · rintro ⟨h0, h1, h2, h3, h4, h5⟩
    exact ⟨h0, h1, h2, h3, h4, h5, trivial⟩

theorem rdS {H : Imm} {f : Nat → Option Value} {y : SG} : tG.rd H f y.1 ↔ ∀ j, j < 6 → f j = some ((encS y)[j]!) := by
  rw [rdG]
  constructor
  · rintro ⟨h0, h1, h2, h3, h4, h5⟩ j hj
    match j, hj with
    | 0, _ => exact h0
    | 1, _ => exact h1
    | 2, _ => exact h2
    | 3, _ => exact h3
    | 4, _ => exact h4
    | 5, _ => exact h5
  · intro h
    exact ⟨h 0 (by omega), h 1 (by omega), h 2 (by omega), h 3 (by omega), h 4 (by omega), h 5 (by omega)⟩

theorem holdsS {H : Imm} {w : World} {b : Nat} {vs : Array Value} {d : Array SG} (hw : w.heap[b]? = some (.cells vs 27 (0, 0))) (hr : ∀ (i : Nat) (y : SG), d[i]? = some y → tG.rd H (fun j => vs[i * 6 + j]?) y.1) : HoldsK encS 6 w b 0 d := by
  intro t ht
  have ht' : t < d.size * 6 := by simpa using ht
  have hi : t / 6 < d.size := by omega
  have h1 := rdS.1 (hr (t / 6) d[t / 6]! (by rw [getElem!_pos d _ hi]; exact Array.getElem?_eq_getElem hi)) (t % 6) (by omega)
  rw [show t / 6 * 6 + t % 6 = t from by omega] at h1
  rw [Go.Sort.get_flatK _ _ _ t ht', Nat.zero_add, cell_at hw, h1]
  exact ⟨rfl, by simp [World.frozen?, hw]⟩

/-- the row behind the sort -/
theorem sorted_row {w : World} {b n : Nat} {vs : Array Value} {d : Array SG} {os : Array Obj} (hw : w.heap[b]? = some (.cells vs 27 (0, 0))) (hle : d.size * 6 ≤ vs.size) :
    ∃ vs' : Array Value, (Go.Proofs.sortWorldK encS 6 w b 0 n d os).heap[b]? = some (.cells vs' 27 (0, 0)) ∧ vs'.size = vs.size ∧ ∀ (i : Nat) (y : SG), d[i]? = some y → ∀ j, j < 6 → vs'[i * 6 + j]? = some ((encS y)[j]!) := by
  have hlt : b < w.heap.size := (Array.getElem?_eq_some_iff.1 hw).1
  refine ⟨Go.Sort.putCells id 0 (flatK encS 6 d) vs, ?_, by simp [Go.Sort.putCells], fun i y hy j hj => ?_⟩
  · unfold Go.Proofs.sortWorldK Go.Sort.grow Go.Sort.putRowK Go.Sort.putRow Go.Sort.mapBlock Go.Sort.ahead
    simp only
    rw [Array.getElem?_append_left (by simpa using hlt), Array.getElem?_modify, if_pos rfl, hw]
    rfl
  · have hi : i < d.size := (Array.getElem?_eq_some_iff.1 hy).1
    have hm : i * 6 + j < d.size * 6 := by omega
    have hv : i * 6 + j < vs.size := by omega
    unfold Go.Sort.putCells
    rw [Array.getElem?_mapIdx, Array.getElem?_eq_getElem hv]
    simp only [Option.map_some, Nat.zero_le, Nat.zero_add, true_and, Go.Sort.size_flatK, hm, if_true, Nat.sub_zero, id]
    rw [Go.Sort.get_flatK _ _ _ _ hm, show (i * 6 + j) / 6 = i from by omega, show (i * 6 + j) % 6 = j from by omega]
    have : d[i]! = y := by
      rw [getElem!_pos d i hi]
      rw [Array.getElem?_eq_getElem hi] at hy
      simpa using hy
    rw [this]

theorem sort_world {w : World} {b n : Nat} {d : Array SG} {os : Array Obj} : w.grownBy (Go.Proofs.sortWorldK encS 6 w b 0 n d os) (some b) := by
  refine ⟨rfl, rfl, rfl, ?_, fun k hk hb => ?_⟩
  · unfold Go.Proofs.sortWorldK Go.Sort.grow Go.Sort.putRowK Go.Sort.putRow Go.Sort.mapBlock Go.Sort.ahead
    simp
  · have hne : b ≠ k := fun e => hb (by rw [e])
    unfold Go.Proofs.sortWorldK Go.Sort.grow Go.Sort.putRowK Go.Sort.putRow Go.Sort.mapBlock Go.Sort.ahead
    simp only
    rw [Array.getElem?_append_left (by simpa using hk), Array.getElem?_modify, if_neg hne]

/-- one sorted list -/
theorem sorted_one {l : List GD} {d d' : Array SG} (hl : d.toList.map (·.1) = l) (hk : (l.map U.key).Nodup) (hp : PermIn 0 d.size d d') (hs : SortedIn (Go.Proofs.ltOf cfS) 0 d.size d') : d'.toList.map (·.1) = U.isort U.cmpF l := by
  obtain ⟨p1, _, p3⟩ := hp
  have hperm : d'.toList.Perm d.toList := by
    have e1 : d.extract 0 d.size = d := by simp
    have e2 : d'.extract 0 d.size = d' := by rw [← p1]; simp
    rwa [e1, e2] at p3
  have hpl : (d'.toList.map (·.1)).Perm l := by rw [← hl]; exact hperm.map _
  have hk' : ((d'.toList.map (·.1)).map U.key).Nodup := (hpl.map U.key).nodup_iff.2 hk
  refine asc_unique ?_ (isort_asc hk) (hpl.trans (isort_perm _ _).symm)
  unfold Asc
  rw [List.pairwise_iff_getElem]
  intro i j hi hj hij
  simp only [List.length_map, Array.length_toList] at hi hj
  have h1 := hs i j (Nat.zero_le _) hij (by omega)
  rw [ltS, getElem!_pos d' j hj, getElem!_pos d' i hi] at h1
  have hne : U.key (d'[i]).1 ≠ U.key (d'[j]).1 := by
    intro e
    have hk2 : ((d'.toList.map (·.1)).map U.key).Pairwise (fun a b => a ≠ b) := hk'
    rw [List.pairwise_iff_getElem] at hk2
    have := hk2 i j (by simpa using hi) (by simpa using hj) hij
    exact this (by simpa using e)
  rcases ltk_total hne with h | h
  · simpa using h
  · rw [h1] at h; cases h

def so79w : OSpec := ⟨[.own shL true, .clo 80], [], fun d => [d.1.length ≤ 100000, ∀ g ∈ d.1, U.small g, (d.1.map U.key).Nodup], fun d => ((), (U.isort U.cmpF d.1, ()))⟩

theorem ok79w : OFnOK PR 79 so79w := by
  refine ⟨enters_of Try.func79 (c := bodyOf Try.f79) (by kernel_rfl) (by kernel_rfl), fun H w vals d bs hg ha hnd hpre => ?_⟩
  obtain ⟨l, u, ⟨⟩⟩ := d
  obtain ⟨h1, h2, h3, _⟩ := hpre
  have h1 : l.length ≤ 100000 := h1
  have h2 : ∀ g ∈ l, U.small g := h2
  have h3 : (l.map U.key).Nodup := h3
  match vals, ha with
  | [], ha => exact ha.elim
  | [_], ha => obtain ⟨_, _, _, _, ha⟩ := ha; exact ha.elim
  | v :: fv :: _ :: _, ha =>
    obtain ⟨_, _, _, _, _, _, _, _, ha⟩ := ha
    have := ha.1
    cases this
  | [v, fv], ha =>
    obtain ⟨b1, b2, rfl, ha1, c1, c2, rfl, ⟨rfl, rfl⟩, _, rfl⟩ := ha
    simp only [List.append_nil] at hnd ⊢
    have ha0 : ClV H w (.row 27 tG .unk) v l b1 := ha1
    obtain ⟨hlen, hrow⟩ := ha1
    by_cases hl0 : l = []
    · subst hl0
      obtain ⟨p, cap, rfl⟩ : ∃ p cap, v = .slice p 0 cap := by
        rcases hrow with ⟨rfl, _⟩ | ⟨b, C, vs, rfl, _⟩
        · exact ⟨_, _, rfl⟩
        · exact ⟨_, _, rfl⟩
      refine (AnyF.slices_SortFunc_none { Try.sortG with } p cap (.func (.func 80) #[] #[]) w).mono fun e w' he => ?_
      obtain ⟨rfl, rfl⟩ := he
      exact ⟨[], H, [], b1, rfl, ⟨rfl, rfl, rfl, Nat.le_refl _, fun _ _ _ => rfl, fun _ _ _ => rfl, hg⟩, ⟨rfl, rfl⟩, ⟨b1, [], by simp, ha0, rfl⟩, by simpa using hnd, fun b hb => .inl (by simpa using hb)⟩
    · rcases hrow with ⟨_, e, _⟩ | ⟨b, C, vs, rfl, rfl, hH, _, hw, hvs, hlC, hCm, hr⟩
      · exact absurd e hl0
      obtain ⟨d, hd⟩ : ∃ d : Array SG, d.toList.map (·.1) = l := by
        refine ⟨(l.attach.map fun x => (⟨x.1, h2 x.1 x.2⟩ : SG)).toArray, ?_⟩
        show (l.attach.map fun x => (⟨x.1, h2 x.1 x.2⟩ : SG)).map (·.1) = l
        rw [List.map_map]
        exact List.attach_map_subtype_val l
      have hds : d.size = l.length := by rw [← hd]; simp
      have hdi : ∀ (i : Nat) (y : SG), d[i]? = some y → l[i]? = some y.1 := by
        intro i y hy
        rw [← hd, List.getElem?_map, Array.getElem?_toList, hy]; rfl
      have hvs' : vs.size = C * 6 := hvs
      have key := AnyQ.slices_SortFunc (P := PR) Try.sortG 6 Try.isAgg27 Try.sizeOf27 encS (fun _ => rfl) (fun x v hv => by simp [encS] at hv; rcases hv with rfl | rfl | rfl | rfl | rfl | rfl <;> rfl) cfS swoS 80 #[] b 0 C d w
        (enters_of Try.func80 (c := bodyOf Try.f80) (by kernel_rfl) (by kernel_rfl)) (cmpS b 0 d.size w) (holdsS hw (fun i y hy => hr i y.1 (hdi i y hy))) (Array.getElem?_eq_some_iff.1 hw).1 (by omega)
      rw [hds] at key
      refine Calls.mono (R := _) key fun e w' he => ?_
      obtain ⟨rfl, d', n, os, hp, hs, rfl⟩ := he
      rw [← hds] at hp hs
      have hone := sorted_one hd h3 hp hs
      have hd's : d'.size = d.size := hp.1
      obtain ⟨vs2, k1, k2, k3⟩ := sorted_row (n := n) (os := os) (d := d') hw (by
        have : l.length ≤ C := hlC
        omega)
      have hgr := sort_world (w := w) (b := b) (n := n) (d := d') (os := os)
      have hlen' : (U.isort U.cmpF l).length = l.length := (isort_perm _ _).length_eq
      refine ⟨[], H, [], [b], rfl, ⟨hgr.os, hgr.tape, hgr.output, hgr.size, fun k hk hb => hgr.block k hk (fun e => by simp at e; subst e; simp at hb), fun _ _ _ => rfl, fun k c hkc => ?_⟩, ⟨rfl, rfl⟩, ⟨[b], [], rfl, ?_, rfl⟩, by simp, fun b' hb' => .inl (by simpa using hb')⟩
      · have hne : b ≠ k := fun e => by subst e; rw [hH] at hkc; cases hkc
        rw [hgr.block k (hg.lt hkc) (fun e => hne (by simp at e; exact e.symm))]
        exact hg k c hkc
      · show ClV H _ (.row 27 tG .unk) _ (U.isort U.cmpF l) [b]
        refine ⟨by rw [hlen']; exact hlen, .inr ⟨b, C, vs2, by rw [hlen'], rfl, hH, (fun e => by cases e), k1, by rw [k2]; exact hvs, by rw [hlen']; exact hlC, hCm, fun i y hy => ?_⟩⟩
        rw [← hone, List.getElem?_map, Array.getElem?_toList] at hy
        cases hx : d'[i]? with
        | none => rw [hx] at hy; cases hy
        | some x =>
          rw [hx] at hy
          simp at hy
          subst hy
          exact rdS.2 (fun j hj => k3 i x hx j hj)

end Go.X
/-
  The messages of a box, sorted, however many: what is asked.
-/
namespace Go.X
open Go.Proofs

def U.okMapW (m : List (KD' × GD)) : Prop := m.length ≤ 1000 ∧ (∀ e ∈ m, e.1 = U.key e.2 ∧ U.small e.2) ∧ (m.map (·.1)).Nodup
def so60w : OSpec := ⟨[.own shB false], [.cl (.dat (.slice tG))], fun d => [U.okMapW d.1.1], fun d => ((U.isort U.cmpF (U.vals d.1.1), ()), ())⟩
def vc60w : Prop :=
  ∀ (d : (List ((Int × Int × Unit) × Int × Int × Int × Int × Int × Int × Unit) × Int × Unit) × Unit),
    U.okMapW d.fst.fst →
      (∃ (x : List ((Int × Int × Unit) × Int × Int × Int × Int × Int × Int × Unit) × List (Int × Int × Int × Int × Int × Int × Unit)),
          ((True ∧ True) ∧ x.snd = [] ∧ d.fst.fst = x.fst ∧ True) ∧ (U.vals x.fst ++ x.snd).Perm (U.vals d.fst.1)) ∧
        ∀ (x : List ((Int × Int × Unit) × Int × Int × Int × Int × Int × Int × Unit) × List (Int × Int × Int × Int × Int × Int × Unit)),
          (U.vals x.fst ++ x.snd).Perm (U.vals d.fst.1) →
            (x.fst = [] →
                (false = true → False) ∧
                  (false = false →
                    x.snd.length ≤ (100000 : Nat) ∧ (∀ (g : Int × Int × Int × Int × Int × Int × Unit), g ∈ x.snd → U.small g) ∧ (List.map U.key x.snd).Nodup ∧ (U.isort U.cmpF x.snd, ()) = (U.isort U.cmpF (U.vals d.fst.fst), ()) ∧ () = ())) ∧
              ∀ (pre : List ((Int × Int × Unit) × Int × Int × Int × Int × Int × Int × Unit)) (x_2 : (Int × Int × Unit) × Int × Int × Int × Int × Int × Int × Unit)
                (post : List ((Int × Int × Unit) × Int × Int × Int × Int × Int × Int × Unit)),
                x.fst = pre ++ x_2 :: post →
                  (true = true →
                      (x.snd.length + [(x_2.snd.fst, x_2.snd.snd.fst, x_2.snd.snd.snd.fst, x_2.snd.snd.snd.snd.fst, x_2.snd.snd.snd.snd.snd.fst, x_2.snd.snd.snd.snd.snd.snd.fst, ())].length) * (48 : Nat) ≤ (140737488355328 : Nat) ∧
                        ∃ (x' : List ((Int × Int × Unit) × Int × Int × Int × Int × Int × Int × Unit) × List (Int × Int × Int × Int × Int × Int × Unit)),
                          ((True ∧ True) ∧ x.snd ++ [(x_2.snd.fst, x_2.snd.snd.fst, x_2.snd.snd.snd.fst, x_2.snd.snd.snd.snd.fst, x_2.snd.snd.snd.snd.snd.fst, x_2.snd.snd.snd.snd.snd.snd.fst, ())] = x'.snd ∧ pre ++ post = x'.fst ∧ True) ∧
                            (U.vals x'.fst ++ x'.snd).Perm (U.vals d.fst.1) ∧ x'.fst.length < x.fst.length) ∧
                    (true = false →
                      x.snd.length ≤ (100000 : Nat) ∧ (∀ (g : Int × Int × Int × Int × Int × Int × Unit), g ∈ x.snd → U.small g) ∧ (List.map U.key x.snd).Nodup ∧ (U.isort U.cmpF x.snd, ()) = (U.isort U.cmpF (U.vals d.fst.fst), ()) ∧ () = ())

theorem vc60w_eq : ofnVC (ctx 22 [] [(79, so79w)]) (an60) Try.f60 (bodyOf Try.f60) so60w = vc60w := by kernel_rfl


end Go.X
/-
  The messages of a box, sorted, however many.
-/
namespace Go.X
open Go.Proofs

theorem h60w : vc60w := by
  rintro ⟨⟨m, wr, ⟨⟩⟩, ⟨⟩⟩ hm
  have hm : U.okMapW m := hm
  unfold U.okMapW at hm
  obtain ⟨hm1, hm2, hm3⟩ := hm
  have hk : ((U.vals m).map U.key).Nodup := by rw [vals_key hm2]; exact hm3
  have hvl : (U.vals m).length = m.length := by simp [U.vals]
  simp only
  refine ⟨⟨(m, []), ⟨⟨trivial, trivial⟩, rfl, rfl, trivial⟩, by simp⟩, ?_⟩
  rintro ⟨left, acc⟩ hp
  have hp : (U.vals left ++ acc).Perm (U.vals m) := hp
  refine ⟨fun h0 => ⟨fun e => (by cases e), fun _ => ?_⟩, ?_⟩
  · have h0 : left = [] := h0
    subst h0
    have hp : acc.Perm (U.vals m) := hp
    refine ⟨?_, ?_, ?_, ?_, trivial⟩
    · show acc.length ≤ 100000
      rw [hp.length_eq, hvl]; omega
    · intro z hz
      have := hp.mem_iff.1 hz
      unfold U.vals at this
      obtain ⟨e, he, rfl⟩ := List.mem_map.1 this
      exact (hm2 e he).2
    · exact (hp.map U.key).nodup_iff.2 hk
    · exact congrArg (·, ()) (isort_congr hp hk)
  · rintro pre x post hl
    have hl : left = pre ++ x :: post := hl
    subst hl
    refine ⟨fun _ => ⟨?_, ⟨(pre ++ post, acc ++ [x.2]), ⟨⟨trivial, trivial⟩, rfl, rfl, trivial⟩, ?_, ?_⟩⟩, fun e => (by cases e)⟩
    · have := hp.length_eq
      rw [hvl] at this
      simp only [List.length_append, List.length_cons, List.length_nil] at this ⊢
      omega
    · refine List.Perm.trans ?_ hp
      simp only [U.vals, List.map_append, List.map_cons]
      have e1 : (pre.map (·.2) ++ post.map (·.2) ++ (acc ++ [x.2])) = pre.map (·.2) ++ ((post.map (·.2) ++ acc) ++ [x.2]) := by simp
      have e2 : (pre.map (·.2) ++ x.2 :: post.map (·.2)) ++ acc = pre.map (·.2) ++ (x.2 :: (post.map (·.2) ++ acc)) := by simp
      rw [e1, e2]
      refine List.Perm.append_left _ ?_
      exact List.perm_append_singleton x.2 _
    · simp only [List.length_append, List.length_cons]; omega

theorem ok60w : OFnOK PR 60 so60w := mkFnO (vc60w_eq.mpr h60w) Try.func60 (by kernel_rfl) (by kernel_rfl) (by kernel_rfl) (by kernel_rfl) (by kernel_rfl) trivial ⟨ok79w, trivial⟩

end Go.X
/-
  Held and Merge: what is asked of them.
-/
namespace Go.X
open Go.Proofs

abbrev tMix : Ty := .st [.int, .int, .bool]
abbrev XD : Type := Int × Int × Bool × Unit

namespace U
/-- at most 12 different messages -/
def few (l : LG) : Prop := (fillAll [l]).1.length ≤ 12
def turnedTo (l : LG) (a : Int) (i : Nat) : LG := (List.range i).map (fun (k : Nat) => nth l (((k : Int) + a).tmod (l.length : Int)).toNat)
def turned (l : LG) (x : XD) : LG := turnedTo l x.1 l.length ++ (if x.2.2.1 = true then l else [])
def heldP (f : FD) (l : LG) : LG := if check f l = 0 then heldG l else []
def flatTo (l : List LG) (i : Nat) : LG := (l.take i).flatten
def flat (l : List LG) : LG := l.flatten
def noG : LG := []
def count1 (m : List (GD × Int)) (g : GD) : List (GD × Int) := mput tG g (mvalD 0 (mfind tG g m) + 1) m
def countTo (l : LG) (i : Nat) : List (GD × Int) := (l.take i).foldl count1 []
def mergeErr (f : FD) (a b : LG) : Int := if check f a ≠ 0 then check f a else if check f b ≠ 0 then check f b else if 40 < (countTo (flat [a, b]) (flat [a, b]).length).length then 2 else if 0 < (fillAll [a, b]).2.1 then 22 else 0
def merged (f : FD) (a b : LG) : LG := if mergeErr f a b = 0 then isort cmpF (vals (fillAll [a, b]).1) else []
end U

def sp45w : Spec := ⟨[.val tL], [tL], false, fun d => [U.few d.1, ∀ g ∈ d.1, U.small g, d.1.length ≤ 1000], fun d => (U.heldG d.1, ())⟩
def vc45w : Prop :=
  ∀ (d : List (Int × Int × Int × Int × Int × Int × Unit) × Unit),
    U.few d.fst →
      (∀ (g : Int × Int × Int × Int × Int × Int × Unit), g ∈ d.fst → U.small g) →
        d.fst.length ≤ (1000 : Nat) →
          [d.fst].length ≤ (2 : Nat) ∧
            (∀ (l : List (Int × Int × Int × Int × Int × Int × Unit)), l ∈ [d.fst] → l.length ≤ (40000 : Nat)) ∧
              U.okMap (U.fillAll [d.fst]).fst ∧
                (U.isort U.cmpF (U.vals (U.fillAll [d.fst]).fst)).length ≤ (100000 : Nat) ∧
                  (U.isort U.cmpF (U.vals (U.fillAll [d.fst]).fst)).length ≤ (100000 : Nat) ∧
                    (∀ (g : Int × Int × Int × Int × Int × Int × Unit), g ∈ U.isort U.cmpF (U.vals (U.fillAll [d.fst]).fst) → U.allP []) ∧
                      (List.filter (U.keeps fun (x : (Int × Int × Int × Int × Int × Int × Unit) × Unit) => (U.drops (U.isort U.cmpF (U.vals (U.fillAll [d.fst]).fst)) x.fst, ())) (U.isort U.cmpF (U.vals (U.fillAll [d.fst]).fst)), ()) =
                        (U.heldG d.fst, ())

theorem vc45w_eq : fnVC (ctx 12 [(70, sp70)] [(59, so59), (60, so60), (69, so69), (68, so68)]) (fun _ => none) Try.f45 (bodyOf Try.f45) sp45w = vc45w := by kernel_rfl


def sp35 : Spec := ⟨[.val tF, .val tL], [tL, .int], false, fun d => [U.check d.1 d.2.1 = 0 → U.few d.2.1], fun d => (U.heldP d.1 d.2.1, U.check d.1 d.2.1, ())⟩
def vc35 : Prop :=
  ∀ (d : (List Int × Int × Unit) × List (Int × Int × Int × Int × Int × Int × Unit) × Unit),
  (U.check d.fst d.snd.fst = (0 : Int) → U.few d.snd.fst) →
  (decide (U.check (d.fst.fst, d.fst.snd.fst, ()) d.snd.fst ≠ (0 : Int)) = true → ([], U.check (d.fst.fst, d.fst.snd.fst, ()) d.snd.fst, ()) = (U.heldP d.fst d.snd.fst, U.check d.fst d.snd.fst, ())) ∧
  (decide (U.check (d.fst.fst, d.fst.snd.fst, ()) d.snd.fst ≠ (0 : Int)) = false →
  U.few d.snd.fst ∧ (∀ (g : Int × Int × Int × Int × Int × Int × Unit), g ∈ d.snd.fst → U.small g) ∧ d.snd.fst.length ≤ (1000 : Nat) ∧ (U.heldG d.snd.fst, (0 : Int), ()) = (U.heldP d.fst d.snd.fst, U.check d.fst d.snd.fst, ()))

theorem vc35_eq : fnVC (ctx 15 [(37, sp37), (45, sp45w)] []) (fun _ => none) Try.f35 (bodyOf Try.f35) sp35 = vc35 := by kernel_rfl


def so77 : OSpec := ⟨[.nil, .val .int], [.cl (.row 27 tG .unk)], fun d => [0 ≤ d.2.1 ∧ d.2.1 ≤ 100000], fun _ => ((U.noG, ()), ())⟩
def vc77 : Prop :=
  ∀ (d : Unit × Int × Unit),
  (0 : Int) ≤ d.snd.fst ∧ d.snd.fst ≤ (100000 : Int) →
  (decide (d.snd.fst < (0 : Int)) = true → False) ∧
  (decide (d.snd.fst < (0 : Int)) = false →
  In64 ((0 : Int) - (↑(0 : Nat) : Int)) ∧
  In64 (d.snd.fst - ((0 : Int) - (↑(0 : Nat) : Int))) ∧
  (decide ((0 : Int) < d.snd.fst - ((0 : Int) - (↑(0 : Nat) : Int))) = true →
  (0 : Int) ≤ (0 : Int) ∧
  (0 : Int) ≤ (0 : Int) ∧
  (0 : Int) ≤ (0 : Int) ∧
  (0 : Int) < d.snd.fst - ((0 : Int) - (↑(0 : Nat) : Int)) ∧
  (d.snd.fst - ((0 : Int) - (↑(0 : Nat) : Int))).toNat * (48 : Nat) ≤ (140737488355328 : Nat) ∧
  (0 : Int) ≤ (0 : Int) ∧
  (0 : Int) ≤ (↑(0 : Nat) : Int) ∧
  (↑(0 : Nat) : Int) ≤ (↑(List.replicate (d.snd.fst - ((0 : Int) - (↑(0 : Nat) : Int))).toNat ((0 : Int), (0 : Int), (0 : Int), (0 : Int), (0 : Int), (0 : Int), ())).length : Int) ∧
  (List.take ((↑(0 : Nat) : Int).toNat - Int.toNat (0 : Int)) (List.replicate (d.snd.fst - ((0 : Int) - (↑(0 : Nat) : Int))).toNat ((0 : Int), (0 : Int), (0 : Int), (0 : Int), (0 : Int), (0 : Int), ())), ()) =
  (U.noG, ()) ∧
  () = ()) ∧
  (decide ((0 : Int) < d.snd.fst - ((0 : Int) - (↑(0 : Nat) : Int))) = false → ([], ()) = (U.noG, ()) ∧ () = ()))

theorem vc77_eq : ofnVC (ctx 27 [] []) (fun _ => none) Try.f77 (bodyOf Try.f77) so77 = vc77 := by kernel_rfl


def sp58 : Spec := ⟨[.val (.slice tL)], [tL], false, fun d => [d.1.length ≤ 100, ∀ x ∈ d.1, x.length ≤ 1000], fun d => (U.flat d.1, ())⟩
def an58 : Ann := fun r => match r with
  | 3 => some fun σ => { X := Nat, sl := fun i => [(11, .dat .int (i : Int)), (3, .dat .int (((U.flatTo (gd (.slice tL) σ 0) i).length : Nat) : Int))], ob := fun _ => [], inv := fun i => i ≤ (gd (.slice tL) σ 0).length, mu := fun i => (gd (.slice tL) σ 0).length - i }
  | 11 => some fun σ => { X := Nat, sl := fun i => [(27, .dat .int (i : Int)), (6, .own 6 tG)], ob := fun i => [(6, some (.row 27 tG false .unk (U.flatTo (gd (.slice tL) σ 0) i)))], inv := fun i => i ≤ (gd (.slice tL) σ 0).length, mu := fun i => (gd (.slice tL) σ 0).length - i }
  | _ => none
def vc58 : Prop :=
  ∀ (d : List (List (Int × Int × Int × Int × Int × Int × Unit)) × Unit),
  d.fst.length ≤ (100 : Nat) →
  (∀ (x : List (Int × Int × Int × Int × Int × Int × Unit)), x ∈ d.fst → x.length ≤ (1000 : Nat)) →
  d.fst.length < (4611686018427387904 : Nat) →
  (∃ (x : Nat), (((0 : Int) = (↑x : Int) ∧ (0 : Int) = (↑(List.length (U.flatTo d.fst x)) : Int) ∧ True) ∧ True) ∧ x ≤ d.fst.length) ∧
  ∀ (x : Nat),
  x ≤ d.fst.length →
  (decide ((↑x : Int) < (↑d.fst.length : Int)) = true →
  (0 : Int) ≤ (↑x : Int) ∧
  (↑x : Int) < (↑d.fst.length : Int) ∧
  ((nth d.fst (↑x : Int).toNat).length < (4611686018427387904 : Nat) →
  In64 ((↑(List.length (U.flatTo d.fst x)) : Int) + (↑(nth d.fst (↑x : Int).toNat).length : Int)) ∧
  (decide ((↑(List.length (U.flatTo d.fst x)) : Int) + (↑(nth d.fst (↑x : Int).toNat).length : Int) < (0 : Int)) = true → False) ∧
  (decide ((↑(List.length (U.flatTo d.fst x)) : Int) + (↑(nth d.fst (↑x : Int).toNat).length : Int) < (0 : Int)) = false →
  In64 ((↑x : Int) + (1 : Int)) ∧
  ∃ (x' : Nat),
  (((↑x : Int) + (1 : Int) = (↑x' : Int) ∧ (↑(List.length (U.flatTo d.fst x)) : Int) + (↑(nth d.fst (↑x : Int).toNat).length : Int) = (↑(List.length (U.flatTo d.fst x')) : Int) ∧ True) ∧ True) ∧
  x' ≤ d.fst.length ∧ d.fst.length - x' < d.fst.length - x))) ∧
  (decide ((↑x : Int) < (↑d.fst.length : Int)) = false →
  ((0 : Int) ≤ (↑(List.length (U.flatTo d.fst x)) : Int) ∧ (↑(List.length (U.flatTo d.fst x)) : Int) ≤ (100000 : Int)) ∧
  (d.fst.length < (4611686018427387904 : Nat) →
  (∃ (x : Nat), (((0 : Int) = (↑x : Int) ∧ True ∧ True) ∧ U.noG = U.flatTo d.fst x ∧ True) ∧ x ≤ d.fst.length) ∧
  ∀ (x : Nat),
  x ≤ d.fst.length →
  (decide ((↑x : Int) < (↑d.fst.length : Int)) = true →
  (0 : Int) ≤ (↑x : Int) ∧
  (↑x : Int) < (↑d.fst.length : Int) ∧
  (List.length (U.flatTo d.fst x) + (nth d.fst (↑x : Int).toNat).length) * (48 : Nat) ≤ (140737488355328 : Nat) ∧
  In64 ((↑x : Int) + (1 : Int)) ∧
  ∃ (x' : Nat),
  (((↑x : Int) + (1 : Int) = (↑x' : Int) ∧ True ∧ True) ∧ U.flatTo d.fst x ++ nth d.fst (↑x : Int).toNat = U.flatTo d.fst x' ∧ True) ∧ x' ≤ d.fst.length ∧ d.fst.length - x' < d.fst.length - x) ∧
  (decide ((↑x : Int) < (↑d.fst.length : Int)) = false → (U.flatTo d.fst x, ()) = (U.flat d.fst, ()))))

theorem vc58_eq : fnVC (ctx 36 [] [(77, so77)]) (an58) Try.f58 (bodyOf Try.f58) sp58 = vc58 := by kernel_rfl


def sp36 : Spec := ⟨[.val tF, .val tL, .val tL], [tL, .int], false, fun _ => [], fun d => (U.merged d.1 d.2.1 d.2.2.1, U.mergeErr d.1 d.2.1 d.2.2.1, ())⟩
def an36 : Ann := fun r => match r with
  | 2 => some fun σ => { X := Nat, sl := fun i => [(19, .dat .int (i : Int))], ob := fun _ => [], inv := fun i => i ≤ 2 ∧ (0 < i → U.check (gd tF σ 0) (gd tL σ 1) = 0) ∧ (1 < i → U.check (gd tF σ 0) (gd tL σ 2) = 0), mu := fun i => 2 - i }
  | 10 => some fun σ => { X := Nat, sl := fun i => [(36, .dat .int (i : Int))], ob := fun i => [(30, some (.map false tG .int (U.countTo (gd tL σ 34) i)))], inv := fun i => i ≤ (gd tL σ 34).length, mu := fun i => (gd tL σ 34).length - i }
  | _ => none
def vc36 : Prop :=
  ∀ (d : (List Int × Int × Unit) × List (Int × Int × Int × Int × Int × Int × Unit) × List (Int × Int × Int × Int × Int × Int × Unit) × Unit),
  [d.snd.fst, d.snd.snd.fst].length < (4611686018427387904 : Nat) →
  (∃ (x : Nat), (((0 : Int) = (↑x : Int) ∧ True) ∧ True) ∧ x ≤ (2 : Nat) ∧ ((0 : Nat) < x → U.check d.fst d.snd.fst = (0 : Int)) ∧ ((1 : Nat) < x → U.check d.fst d.snd.snd.fst = (0 : Int))) ∧
  ∀ (x : Nat),
  x ≤ (2 : Nat) ∧ ((0 : Nat) < x → U.check d.fst d.snd.fst = (0 : Int)) ∧ ((1 : Nat) < x → U.check d.fst d.snd.snd.fst = (0 : Int)) →
  (decide ((↑x : Int) < (↑[d.snd.fst, d.snd.snd.fst].length : Int)) = true →
  (0 : Int) ≤ (↑x : Int) ∧
  (↑x : Int) < (↑[d.snd.fst, d.snd.snd.fst].length : Int) ∧
  (decide (U.check (d.fst.fst, d.fst.snd.fst, ()) (nth [d.snd.fst, d.snd.snd.fst] (↑x : Int).toNat) ≠ (0 : Int)) = true →
  ([], U.check (d.fst.fst, d.fst.snd.fst, ()) (nth [d.snd.fst, d.snd.snd.fst] (↑x : Int).toNat), ()) = (U.merged d.fst d.snd.fst d.snd.snd.fst, U.mergeErr d.fst d.snd.fst d.snd.snd.fst, ())) ∧
  (decide (U.check (d.fst.fst, d.fst.snd.fst, ()) (nth [d.snd.fst, d.snd.snd.fst] (↑x : Int).toNat) ≠ (0 : Int)) = false →
  In64 ((↑x : Int) + (1 : Int)) ∧
  ∃ (x' : Nat),
  (((↑x : Int) + (1 : Int) = (↑x' : Int) ∧ True) ∧ True) ∧
  (x' ≤ (2 : Nat) ∧ ((0 : Nat) < x' → U.check d.fst d.snd.fst = (0 : Int)) ∧ ((1 : Nat) < x' → U.check d.fst d.snd.snd.fst = (0 : Int))) ∧ (2 : Nat) - x' < (2 : Nat) - x)) ∧
  (decide ((↑x : Int) < (↑[d.snd.fst, d.snd.snd.fst].length : Int)) = false →
  [d.snd.fst, d.snd.snd.fst].length ≤ (100 : Nat) ∧
  (∀ (x : List (Int × Int × Int × Int × Int × Int × Unit)), x ∈ [d.snd.fst, d.snd.snd.fst] → x.length ≤ (1000 : Nat)) ∧
  (List.length (U.flat [d.snd.fst, d.snd.snd.fst]) < (4611686018427387904 : Nat) →
  (∃ (x : Nat), (((0 : Int) = (↑x : Int) ∧ True) ∧ [] = U.countTo (U.flat [d.snd.fst, d.snd.snd.fst]) x ∧ True) ∧ x ≤ List.length (U.flat [d.snd.fst, d.snd.snd.fst])) ∧
  ∀ (x : Nat),
  x ≤ List.length (U.flat [d.snd.fst, d.snd.snd.fst]) →
  (decide ((↑x : Int) < (↑(List.length (U.flat [d.snd.fst, d.snd.snd.fst])) : Int)) = true →
  (0 : Int) ≤ (↑x : Int) ∧
  (↑x : Int) < (↑(List.length (U.flat [d.snd.fst, d.snd.snd.fst])) : Int) ∧
  ((((In64
  (mvalD (0 : Int)
  (mfind (Ty.int.pair (Ty.int.pair (Ty.int.pair (Ty.int.pair (Ty.int.pair (Ty.int.pair Ty.unit))))))
  ((nth (U.flat [d.snd.fst, d.snd.snd.fst]) (↑x : Int).toNat).fst, (nth (U.flat [d.snd.fst, d.snd.snd.fst]) (↑x : Int).toNat).snd.fst,
  (nth (U.flat [d.snd.fst, d.snd.snd.fst]) (↑x : Int).toNat).snd.snd.fst, (nth (U.flat [d.snd.fst, d.snd.snd.fst]) (↑x : Int).toNat).snd.snd.snd.fst,
  (nth (U.flat [d.snd.fst, d.snd.snd.fst]) (↑x : Int).toNat).snd.snd.snd.snd.fst, (nth (U.flat [d.snd.fst, d.snd.snd.fst]) (↑x : Int).toNat).snd.snd.snd.snd.snd.fst, ())
  (U.countTo (U.flat [d.snd.fst, d.snd.snd.fst]) x)) +
  (1 : Int)) ∧
  (∀ (s : Int),
  ((s = s ∧
  In64 ((↑x : Int) + (1 : Int)) ∧
  ∃ (x' : Nat),
  (((↑x : Int) + (1 : Int) = (↑x' : Int) ∧ True) ∧
  mput (Ty.int.pair (Ty.int.pair (Ty.int.pair (Ty.int.pair (Ty.int.pair (Ty.int.pair Ty.unit))))))
  ((nth (U.flat [d.snd.fst, d.snd.snd.fst]) (↑x : Int).toNat).fst, (nth (U.flat [d.snd.fst, d.snd.snd.fst]) (↑x : Int).toNat).snd.fst,
  (nth (U.flat [d.snd.fst, d.snd.snd.fst]) (↑x : Int).toNat).snd.snd.fst, (nth (U.flat [d.snd.fst, d.snd.snd.fst]) (↑x : Int).toNat).snd.snd.snd.fst,
  (nth (U.flat [d.snd.fst, d.snd.snd.fst]) (↑x : Int).toNat).snd.snd.snd.snd.fst, (nth (U.flat [d.snd.fst, d.snd.snd.fst]) (↑x : Int).toNat).snd.snd.snd.snd.snd.fst, ())
  (mvalD (0 : Int)
  (mfind (Ty.int.pair (Ty.int.pair (Ty.int.pair (Ty.int.pair (Ty.int.pair (Ty.int.pair Ty.unit))))))
  ((nth (U.flat [d.snd.fst, d.snd.snd.fst]) (↑x : Int).toNat).fst, (nth (U.flat [d.snd.fst, d.snd.snd.fst]) (↑x : Int).toNat).snd.fst,
  (nth (U.flat [d.snd.fst, d.snd.snd.fst]) (↑x : Int).toNat).snd.snd.fst, (nth (U.flat [d.snd.fst, d.snd.snd.fst]) (↑x : Int).toNat).snd.snd.snd.fst,
  (nth (U.flat [d.snd.fst, d.snd.snd.fst]) (↑x : Int).toNat).snd.snd.snd.snd.fst, (nth (U.flat [d.snd.fst, d.snd.snd.fst]) (↑x : Int).toNat).snd.snd.snd.snd.snd.fst,
  ())
  (U.countTo (U.flat [d.snd.fst, d.snd.snd.fst]) x)) +
  (1 : Int))
  (U.countTo (U.flat [d.snd.fst, d.snd.snd.fst]) x) =
  U.countTo (U.flat [d.snd.fst, d.snd.snd.fst]) x' ∧
  True) ∧
  x' ≤ List.length (U.flat [d.snd.fst, d.snd.snd.fst]) ∧ List.length (U.flat [d.snd.fst, d.snd.snd.fst]) - x' < List.length (U.flat [d.snd.fst, d.snd.snd.fst]) - x) ∧
  True) ∧
  True) ∧
  True) ∧
  (∀ (s : Int),
  (In64
  (mvalD (0 : Int)
  (mfind (Ty.int.pair (Ty.int.pair (Ty.int.pair (Ty.int.pair (Ty.int.pair (Ty.int.pair Ty.unit))))))
  ((nth (U.flat [d.snd.fst, d.snd.snd.fst]) (↑x : Int).toNat).fst, (nth (U.flat [d.snd.fst, d.snd.snd.fst]) (↑x : Int).toNat).snd.fst,
  (nth (U.flat [d.snd.fst, d.snd.snd.fst]) (↑x : Int).toNat).snd.snd.fst, (nth (U.flat [d.snd.fst, d.snd.snd.fst]) (↑x : Int).toNat).snd.snd.snd.fst,
  (nth (U.flat [d.snd.fst, d.snd.snd.fst]) (↑x : Int).toNat).snd.snd.snd.snd.fst, (nth (U.flat [d.snd.fst, d.snd.snd.fst]) (↑x : Int).toNat).snd.snd.snd.snd.snd.fst, ())
  (U.countTo (U.flat [d.snd.fst, d.snd.snd.fst]) x)) +
  (1 : Int)) ∧
  ((s = s ∧
  In64 ((↑x : Int) + (1 : Int)) ∧
  ∃ (x' : Nat),
  (((↑x : Int) + (1 : Int) = (↑x' : Int) ∧ True) ∧
  mput (Ty.int.pair (Ty.int.pair (Ty.int.pair (Ty.int.pair (Ty.int.pair (Ty.int.pair Ty.unit))))))
  ((nth (U.flat [d.snd.fst, d.snd.snd.fst]) (↑x : Int).toNat).fst, (nth (U.flat [d.snd.fst, d.snd.snd.fst]) (↑x : Int).toNat).snd.fst,
  (nth (U.flat [d.snd.fst, d.snd.snd.fst]) (↑x : Int).toNat).snd.snd.fst, (nth (U.flat [d.snd.fst, d.snd.snd.fst]) (↑x : Int).toNat).snd.snd.snd.fst,
  (nth (U.flat [d.snd.fst, d.snd.snd.fst]) (↑x : Int).toNat).snd.snd.snd.snd.fst, (nth (U.flat [d.snd.fst, d.snd.snd.fst]) (↑x : Int).toNat).snd.snd.snd.snd.snd.fst, ())
  (mvalD (0 : Int)
  (mfind (Ty.int.pair (Ty.int.pair (Ty.int.pair (Ty.int.pair (Ty.int.pair (Ty.int.pair Ty.unit))))))
  ((nth (U.flat [d.snd.fst, d.snd.snd.fst]) (↑x : Int).toNat).fst, (nth (U.flat [d.snd.fst, d.snd.snd.fst]) (↑x : Int).toNat).snd.fst,
  (nth (U.flat [d.snd.fst, d.snd.snd.fst]) (↑x : Int).toNat).snd.snd.fst, (nth (U.flat [d.snd.fst, d.snd.snd.fst]) (↑x : Int).toNat).snd.snd.snd.fst,
  (nth (U.flat [d.snd.fst, d.snd.snd.fst]) (↑x : Int).toNat).snd.snd.snd.snd.fst,
  (nth (U.flat [d.snd.fst, d.snd.snd.fst]) (↑x : Int).toNat).snd.snd.snd.snd.snd.fst, ())
  (U.countTo (U.flat [d.snd.fst, d.snd.snd.fst]) x)) +
  (1 : Int))
  (U.countTo (U.flat [d.snd.fst, d.snd.snd.fst]) x) =
  U.countTo (U.flat [d.snd.fst, d.snd.snd.fst]) x' ∧
  True) ∧
  x' ≤ List.length (U.flat [d.snd.fst, d.snd.snd.fst]) ∧ List.length (U.flat [d.snd.fst, d.snd.snd.fst]) - x' < List.length (U.flat [d.snd.fst, d.snd.snd.fst]) - x) ∧
  True) ∧
  True) ∧
  ((In64
  (mvalD (0 : Int)
  (mfind (Ty.int.pair (Ty.int.pair (Ty.int.pair (Ty.int.pair (Ty.int.pair (Ty.int.pair Ty.unit))))))
  ((nth (U.flat [d.snd.fst, d.snd.snd.fst]) (↑x : Int).toNat).fst, (nth (U.flat [d.snd.fst, d.snd.snd.fst]) (↑x : Int).toNat).snd.fst,
  (nth (U.flat [d.snd.fst, d.snd.snd.fst]) (↑x : Int).toNat).snd.snd.fst, (nth (U.flat [d.snd.fst, d.snd.snd.fst]) (↑x : Int).toNat).snd.snd.snd.fst,
  (nth (U.flat [d.snd.fst, d.snd.snd.fst]) (↑x : Int).toNat).snd.snd.snd.snd.fst, (nth (U.flat [d.snd.fst, d.snd.snd.fst]) (↑x : Int).toNat).snd.snd.snd.snd.snd.fst, ())
  (U.countTo (U.flat [d.snd.fst, d.snd.snd.fst]) x)) +
  (1 : Int)) ∧
  (s = s ∧
  In64 ((↑x : Int) + (1 : Int)) ∧
  ∃ (x' : Nat),
  (((↑x : Int) + (1 : Int) = (↑x' : Int) ∧ True) ∧
  mput (Ty.int.pair (Ty.int.pair (Ty.int.pair (Ty.int.pair (Ty.int.pair (Ty.int.pair Ty.unit))))))
  ((nth (U.flat [d.snd.fst, d.snd.snd.fst]) (↑x : Int).toNat).fst, (nth (U.flat [d.snd.fst, d.snd.snd.fst]) (↑x : Int).toNat).snd.fst,
  (nth (U.flat [d.snd.fst, d.snd.snd.fst]) (↑x : Int).toNat).snd.snd.fst, (nth (U.flat [d.snd.fst, d.snd.snd.fst]) (↑x : Int).toNat).snd.snd.snd.fst,
  (nth (U.flat [d.snd.fst, d.snd.snd.fst]) (↑x : Int).toNat).snd.snd.snd.snd.fst, (nth (U.flat [d.snd.fst, d.snd.snd.fst]) (↑x : Int).toNat).snd.snd.snd.snd.snd.fst,
  ())
  (mvalD (0 : Int)
  (mfind (Ty.int.pair (Ty.int.pair (Ty.int.pair (Ty.int.pair (Ty.int.pair (Ty.int.pair Ty.unit))))))
  ((nth (U.flat [d.snd.fst, d.snd.snd.fst]) (↑x : Int).toNat).fst, (nth (U.flat [d.snd.fst, d.snd.snd.fst]) (↑x : Int).toNat).snd.fst,
  (nth (U.flat [d.snd.fst, d.snd.snd.fst]) (↑x : Int).toNat).snd.snd.fst, (nth (U.flat [d.snd.fst, d.snd.snd.fst]) (↑x : Int).toNat).snd.snd.snd.fst,
  (nth (U.flat [d.snd.fst, d.snd.snd.fst]) (↑x : Int).toNat).snd.snd.snd.snd.fst,
  (nth (U.flat [d.snd.fst, d.snd.snd.fst]) (↑x : Int).toNat).snd.snd.snd.snd.snd.fst, ())
  (U.countTo (U.flat [d.snd.fst, d.snd.snd.fst]) x)) +
  (1 : Int))
  (U.countTo (U.flat [d.snd.fst, d.snd.snd.fst]) x) =
  U.countTo (U.flat [d.snd.fst, d.snd.snd.fst]) x' ∧
  True) ∧
  x' ≤ List.length (U.flat [d.snd.fst, d.snd.snd.fst]) ∧ List.length (U.flat [d.snd.fst, d.snd.snd.fst]) - x' < List.length (U.flat [d.snd.fst, d.snd.snd.fst]) - x) ∧
  True) ∧
  True) ∧
  True) ∧
  True) ∧
  (∀ (s : Int),
  ((In64
  (mvalD (0 : Int)
  (mfind (Ty.int.pair (Ty.int.pair (Ty.int.pair (Ty.int.pair (Ty.int.pair (Ty.int.pair Ty.unit))))))
  ((nth (U.flat [d.snd.fst, d.snd.snd.fst]) (↑x : Int).toNat).fst, (nth (U.flat [d.snd.fst, d.snd.snd.fst]) (↑x : Int).toNat).snd.fst,
  (nth (U.flat [d.snd.fst, d.snd.snd.fst]) (↑x : Int).toNat).snd.snd.fst, (nth (U.flat [d.snd.fst, d.snd.snd.fst]) (↑x : Int).toNat).snd.snd.snd.fst,
  (nth (U.flat [d.snd.fst, d.snd.snd.fst]) (↑x : Int).toNat).snd.snd.snd.snd.fst, (nth (U.flat [d.snd.fst, d.snd.snd.fst]) (↑x : Int).toNat).snd.snd.snd.snd.snd.fst, ())
  (mput (Ty.int.pair (Ty.int.pair (Ty.int.pair (Ty.int.pair (Ty.int.pair (Ty.int.pair Ty.unit))))))
  ((nth (U.flat [d.snd.fst, d.snd.snd.fst]) (↑x : Int).toNat).fst, (nth (U.flat [d.snd.fst, d.snd.snd.fst]) (↑x : Int).toNat).snd.fst,
  (nth (U.flat [d.snd.fst, d.snd.snd.fst]) (↑x : Int).toNat).snd.snd.fst, (nth (U.flat [d.snd.fst, d.snd.snd.fst]) (↑x : Int).toNat).snd.snd.snd.fst,
  (nth (U.flat [d.snd.fst, d.snd.snd.fst]) (↑x : Int).toNat).snd.snd.snd.snd.fst, (nth (U.flat [d.snd.fst, d.snd.snd.fst]) (↑x : Int).toNat).snd.snd.snd.snd.snd.fst, ())
  (mvalD (0 : Int)
  (mfind (Ty.int.pair (Ty.int.pair (Ty.int.pair (Ty.int.pair (Ty.int.pair (Ty.int.pair Ty.unit))))))
  ((nth (U.flat [d.snd.fst, d.snd.snd.fst]) (↑x : Int).toNat).fst, (nth (U.flat [d.snd.fst, d.snd.snd.fst]) (↑x : Int).toNat).snd.fst,
  (nth (U.flat [d.snd.fst, d.snd.snd.fst]) (↑x : Int).toNat).snd.snd.fst, (nth (U.flat [d.snd.fst, d.snd.snd.fst]) (↑x : Int).toNat).snd.snd.snd.fst,
  (nth (U.flat [d.snd.fst, d.snd.snd.fst]) (↑x : Int).toNat).snd.snd.snd.snd.fst, (nth (U.flat [d.snd.fst, d.snd.snd.fst]) (↑x : Int).toNat).snd.snd.snd.snd.snd.fst, ())
  (U.countTo (U.flat [d.snd.fst, d.snd.snd.fst]) x)))
  (U.countTo (U.flat [d.snd.fst, d.snd.snd.fst]) x))) +
  (1 : Int)) ∧
  ((s = s ∧
  In64 ((↑x : Int) + (1 : Int)) ∧
  ∃ (x' : Nat),
  (((↑x : Int) + (1 : Int) = (↑x' : Int) ∧ True) ∧
  mput (Ty.int.pair (Ty.int.pair (Ty.int.pair (Ty.int.pair (Ty.int.pair (Ty.int.pair Ty.unit))))))
  ((nth (U.flat [d.snd.fst, d.snd.snd.fst]) (↑x : Int).toNat).fst, (nth (U.flat [d.snd.fst, d.snd.snd.fst]) (↑x : Int).toNat).snd.fst,
  (nth (U.flat [d.snd.fst, d.snd.snd.fst]) (↑x : Int).toNat).snd.snd.fst, (nth (U.flat [d.snd.fst, d.snd.snd.fst]) (↑x : Int).toNat).snd.snd.snd.fst,
  (nth (U.flat [d.snd.fst, d.snd.snd.fst]) (↑x : Int).toNat).snd.snd.snd.snd.fst, (nth (U.flat [d.snd.fst, d.snd.snd.fst]) (↑x : Int).toNat).snd.snd.snd.snd.snd.fst, ())
  (mvalD (0 : Int)
  (mfind (Ty.int.pair (Ty.int.pair (Ty.int.pair (Ty.int.pair (Ty.int.pair (Ty.int.pair Ty.unit))))))
  ((nth (U.flat [d.snd.fst, d.snd.snd.fst]) (↑x : Int).toNat).fst, (nth (U.flat [d.snd.fst, d.snd.snd.fst]) (↑x : Int).toNat).snd.fst,
  (nth (U.flat [d.snd.fst, d.snd.snd.fst]) (↑x : Int).toNat).snd.snd.fst, (nth (U.flat [d.snd.fst, d.snd.snd.fst]) (↑x : Int).toNat).snd.snd.snd.fst,
  (nth (U.flat [d.snd.fst, d.snd.snd.fst]) (↑x : Int).toNat).snd.snd.snd.snd.fst,
  (nth (U.flat [d.snd.fst, d.snd.snd.fst]) (↑x : Int).toNat).snd.snd.snd.snd.snd.fst, ())
  (mput (Ty.int.pair (Ty.int.pair (Ty.int.pair (Ty.int.pair (Ty.int.pair (Ty.int.pair Ty.unit))))))
  ((nth (U.flat [d.snd.fst, d.snd.snd.fst]) (↑x : Int).toNat).fst, (nth (U.flat [d.snd.fst, d.snd.snd.fst]) (↑x : Int).toNat).snd.fst,
  (nth (U.flat [d.snd.fst, d.snd.snd.fst]) (↑x : Int).toNat).snd.snd.fst, (nth (U.flat [d.snd.fst, d.snd.snd.fst]) (↑x : Int).toNat).snd.snd.snd.fst,
  (nth (U.flat [d.snd.fst, d.snd.snd.fst]) (↑x : Int).toNat).snd.snd.snd.snd.fst,
  (nth (U.flat [d.snd.fst, d.snd.snd.fst]) (↑x : Int).toNat).snd.snd.snd.snd.snd.fst, ())
  (mvalD (0 : Int)
  (mfind (Ty.int.pair (Ty.int.pair (Ty.int.pair (Ty.int.pair (Ty.int.pair (Ty.int.pair Ty.unit))))))
  ((nth (U.flat [d.snd.fst, d.snd.snd.fst]) (↑x : Int).toNat).fst, (nth (U.flat [d.snd.fst, d.snd.snd.fst]) (↑x : Int).toNat).snd.fst,
  (nth (U.flat [d.snd.fst, d.snd.snd.fst]) (↑x : Int).toNat).snd.snd.fst, (nth (U.flat [d.snd.fst, d.snd.snd.fst]) (↑x : Int).toNat).snd.snd.snd.fst,
  (nth (U.flat [d.snd.fst, d.snd.snd.fst]) (↑x : Int).toNat).snd.snd.snd.snd.fst,
  (nth (U.flat [d.snd.fst, d.snd.snd.fst]) (↑x : Int).toNat).snd.snd.snd.snd.snd.fst, ())
  (U.countTo (U.flat [d.snd.fst, d.snd.snd.fst]) x)))
  (U.countTo (U.flat [d.snd.fst, d.snd.snd.fst]) x))) +
  (1 : Int))
  (U.countTo (U.flat [d.snd.fst, d.snd.snd.fst]) x) =
  U.countTo (U.flat [d.snd.fst, d.snd.snd.fst]) x' ∧
  True) ∧
  x' ≤ List.length (U.flat [d.snd.fst, d.snd.snd.fst]) ∧ List.length (U.flat [d.snd.fst, d.snd.snd.fst]) - x' < List.length (U.flat [d.snd.fst, d.snd.snd.fst]) - x) ∧
  True) ∧
  True) ∧
  ((In64
  (mvalD (0 : Int)
  (mfind (Ty.int.pair (Ty.int.pair (Ty.int.pair (Ty.int.pair (Ty.int.pair (Ty.int.pair Ty.unit))))))
  ((nth (U.flat [d.snd.fst, d.snd.snd.fst]) (↑x : Int).toNat).fst, (nth (U.flat [d.snd.fst, d.snd.snd.fst]) (↑x : Int).toNat).snd.fst,
  (nth (U.flat [d.snd.fst, d.snd.snd.fst]) (↑x : Int).toNat).snd.snd.fst, (nth (U.flat [d.snd.fst, d.snd.snd.fst]) (↑x : Int).toNat).snd.snd.snd.fst,
  (nth (U.flat [d.snd.fst, d.snd.snd.fst]) (↑x : Int).toNat).snd.snd.snd.snd.fst, (nth (U.flat [d.snd.fst, d.snd.snd.fst]) (↑x : Int).toNat).snd.snd.snd.snd.snd.fst, ())
  (mput (Ty.int.pair (Ty.int.pair (Ty.int.pair (Ty.int.pair (Ty.int.pair (Ty.int.pair Ty.unit))))))
  ((nth (U.flat [d.snd.fst, d.snd.snd.fst]) (↑x : Int).toNat).fst, (nth (U.flat [d.snd.fst, d.snd.snd.fst]) (↑x : Int).toNat).snd.fst,
  (nth (U.flat [d.snd.fst, d.snd.snd.fst]) (↑x : Int).toNat).snd.snd.fst, (nth (U.flat [d.snd.fst, d.snd.snd.fst]) (↑x : Int).toNat).snd.snd.snd.fst,
  (nth (U.flat [d.snd.fst, d.snd.snd.fst]) (↑x : Int).toNat).snd.snd.snd.snd.fst, (nth (U.flat [d.snd.fst, d.snd.snd.fst]) (↑x : Int).toNat).snd.snd.snd.snd.snd.fst, ())
  (mvalD (0 : Int)
  (mfind (Ty.int.pair (Ty.int.pair (Ty.int.pair (Ty.int.pair (Ty.int.pair (Ty.int.pair Ty.unit))))))
  ((nth (U.flat [d.snd.fst, d.snd.snd.fst]) (↑x : Int).toNat).fst, (nth (U.flat [d.snd.fst, d.snd.snd.fst]) (↑x : Int).toNat).snd.fst,
  (nth (U.flat [d.snd.fst, d.snd.snd.fst]) (↑x : Int).toNat).snd.snd.fst, (nth (U.flat [d.snd.fst, d.snd.snd.fst]) (↑x : Int).toNat).snd.snd.snd.fst,
  (nth (U.flat [d.snd.fst, d.snd.snd.fst]) (↑x : Int).toNat).snd.snd.snd.snd.fst, (nth (U.flat [d.snd.fst, d.snd.snd.fst]) (↑x : Int).toNat).snd.snd.snd.snd.snd.fst, ())
  (U.countTo (U.flat [d.snd.fst, d.snd.snd.fst]) x)))
  (U.countTo (U.flat [d.snd.fst, d.snd.snd.fst]) x))) +
  (1 : Int)) ∧
  (s = s ∧
  In64 ((↑x : Int) + (1 : Int)) ∧
  ∃ (x' : Nat),
  (((↑x : Int) + (1 : Int) = (↑x' : Int) ∧ True) ∧
  mput (Ty.int.pair (Ty.int.pair (Ty.int.pair (Ty.int.pair (Ty.int.pair (Ty.int.pair Ty.unit))))))
  ((nth (U.flat [d.snd.fst, d.snd.snd.fst]) (↑x : Int).toNat).fst, (nth (U.flat [d.snd.fst, d.snd.snd.fst]) (↑x : Int).toNat).snd.fst,
  (nth (U.flat [d.snd.fst, d.snd.snd.fst]) (↑x : Int).toNat).snd.snd.fst, (nth (U.flat [d.snd.fst, d.snd.snd.fst]) (↑x : Int).toNat).snd.snd.snd.fst,
  (nth (U.flat [d.snd.fst, d.snd.snd.fst]) (↑x : Int).toNat).snd.snd.snd.snd.fst, (nth (U.flat [d.snd.fst, d.snd.snd.fst]) (↑x : Int).toNat).snd.snd.snd.snd.snd.fst,
  ())
  (mvalD (0 : Int)
  (mfind (Ty.int.pair (Ty.int.pair (Ty.int.pair (Ty.int.pair (Ty.int.pair (Ty.int.pair Ty.unit))))))
  ((nth (U.flat [d.snd.fst, d.snd.snd.fst]) (↑x : Int).toNat).fst, (nth (U.flat [d.snd.fst, d.snd.snd.fst]) (↑x : Int).toNat).snd.fst,
  (nth (U.flat [d.snd.fst, d.snd.snd.fst]) (↑x : Int).toNat).snd.snd.fst, (nth (U.flat [d.snd.fst, d.snd.snd.fst]) (↑x : Int).toNat).snd.snd.snd.fst,
  (nth (U.flat [d.snd.fst, d.snd.snd.fst]) (↑x : Int).toNat).snd.snd.snd.snd.fst,
  (nth (U.flat [d.snd.fst, d.snd.snd.fst]) (↑x : Int).toNat).snd.snd.snd.snd.snd.fst, ())
  (mput (Ty.int.pair (Ty.int.pair (Ty.int.pair (Ty.int.pair (Ty.int.pair (Ty.int.pair Ty.unit))))))
  ((nth (U.flat [d.snd.fst, d.snd.snd.fst]) (↑x : Int).toNat).fst, (nth (U.flat [d.snd.fst, d.snd.snd.fst]) (↑x : Int).toNat).snd.fst,
  (nth (U.flat [d.snd.fst, d.snd.snd.fst]) (↑x : Int).toNat).snd.snd.fst, (nth (U.flat [d.snd.fst, d.snd.snd.fst]) (↑x : Int).toNat).snd.snd.snd.fst,
  (nth (U.flat [d.snd.fst, d.snd.snd.fst]) (↑x : Int).toNat).snd.snd.snd.snd.fst,
  (nth (U.flat [d.snd.fst, d.snd.snd.fst]) (↑x : Int).toNat).snd.snd.snd.snd.snd.fst, ())
  (mvalD (0 : Int)
  (mfind (Ty.int.pair (Ty.int.pair (Ty.int.pair (Ty.int.pair (Ty.int.pair (Ty.int.pair Ty.unit))))))
  ((nth (U.flat [d.snd.fst, d.snd.snd.fst]) (↑x : Int).toNat).fst, (nth (U.flat [d.snd.fst, d.snd.snd.fst]) (↑x : Int).toNat).snd.fst,
  (nth (U.flat [d.snd.fst, d.snd.snd.fst]) (↑x : Int).toNat).snd.snd.fst, (nth (U.flat [d.snd.fst, d.snd.snd.fst]) (↑x : Int).toNat).snd.snd.snd.fst,
  (nth (U.flat [d.snd.fst, d.snd.snd.fst]) (↑x : Int).toNat).snd.snd.snd.snd.fst,
  (nth (U.flat [d.snd.fst, d.snd.snd.fst]) (↑x : Int).toNat).snd.snd.snd.snd.snd.fst, ())
  (U.countTo (U.flat [d.snd.fst, d.snd.snd.fst]) x)))
  (U.countTo (U.flat [d.snd.fst, d.snd.snd.fst]) x))) +
  (1 : Int))
  (U.countTo (U.flat [d.snd.fst, d.snd.snd.fst]) x) =
  U.countTo (U.flat [d.snd.fst, d.snd.snd.fst]) x' ∧
  True) ∧
  x' ≤ List.length (U.flat [d.snd.fst, d.snd.snd.fst]) ∧ List.length (U.flat [d.snd.fst, d.snd.snd.fst]) - x' < List.length (U.flat [d.snd.fst, d.snd.snd.fst]) - x) ∧
  True) ∧
  True) ∧
  True) ∧
  (((In64
  (mvalD (0 : Int)
  (mfind (Ty.int.pair (Ty.int.pair (Ty.int.pair (Ty.int.pair (Ty.int.pair (Ty.int.pair Ty.unit))))))
  ((nth (U.flat [d.snd.fst, d.snd.snd.fst]) (↑x : Int).toNat).fst, (nth (U.flat [d.snd.fst, d.snd.snd.fst]) (↑x : Int).toNat).snd.fst,
  (nth (U.flat [d.snd.fst, d.snd.snd.fst]) (↑x : Int).toNat).snd.snd.fst, (nth (U.flat [d.snd.fst, d.snd.snd.fst]) (↑x : Int).toNat).snd.snd.snd.fst,
  (nth (U.flat [d.snd.fst, d.snd.snd.fst]) (↑x : Int).toNat).snd.snd.snd.snd.fst, (nth (U.flat [d.snd.fst, d.snd.snd.fst]) (↑x : Int).toNat).snd.snd.snd.snd.snd.fst, ())
  (mput (Ty.int.pair (Ty.int.pair (Ty.int.pair (Ty.int.pair (Ty.int.pair (Ty.int.pair Ty.unit))))))
  ((nth (U.flat [d.snd.fst, d.snd.snd.fst]) (↑x : Int).toNat).fst, (nth (U.flat [d.snd.fst, d.snd.snd.fst]) (↑x : Int).toNat).snd.fst,
  (nth (U.flat [d.snd.fst, d.snd.snd.fst]) (↑x : Int).toNat).snd.snd.fst, (nth (U.flat [d.snd.fst, d.snd.snd.fst]) (↑x : Int).toNat).snd.snd.snd.fst,
  (nth (U.flat [d.snd.fst, d.snd.snd.fst]) (↑x : Int).toNat).snd.snd.snd.snd.fst, (nth (U.flat [d.snd.fst, d.snd.snd.fst]) (↑x : Int).toNat).snd.snd.snd.snd.snd.fst, ())
  (mvalD (0 : Int)
  (mfind (Ty.int.pair (Ty.int.pair (Ty.int.pair (Ty.int.pair (Ty.int.pair (Ty.int.pair Ty.unit))))))
  ((nth (U.flat [d.snd.fst, d.snd.snd.fst]) (↑x : Int).toNat).fst, (nth (U.flat [d.snd.fst, d.snd.snd.fst]) (↑x : Int).toNat).snd.fst,
  (nth (U.flat [d.snd.fst, d.snd.snd.fst]) (↑x : Int).toNat).snd.snd.fst, (nth (U.flat [d.snd.fst, d.snd.snd.fst]) (↑x : Int).toNat).snd.snd.snd.fst,
  (nth (U.flat [d.snd.fst, d.snd.snd.fst]) (↑x : Int).toNat).snd.snd.snd.snd.fst, (nth (U.flat [d.snd.fst, d.snd.snd.fst]) (↑x : Int).toNat).snd.snd.snd.snd.snd.fst, ())
  (U.countTo (U.flat [d.snd.fst, d.snd.snd.fst]) x)))
  (U.countTo (U.flat [d.snd.fst, d.snd.snd.fst]) x))) +
  (1 : Int)) ∧
  (s = s ∧
  In64 ((↑x : Int) + (1 : Int)) ∧
  ∃ (x' : Nat),
  (((↑x : Int) + (1 : Int) = (↑x' : Int) ∧ True) ∧
  mput (Ty.int.pair (Ty.int.pair (Ty.int.pair (Ty.int.pair (Ty.int.pair (Ty.int.pair Ty.unit))))))
  ((nth (U.flat [d.snd.fst, d.snd.snd.fst]) (↑x : Int).toNat).fst, (nth (U.flat [d.snd.fst, d.snd.snd.fst]) (↑x : Int).toNat).snd.fst,
  (nth (U.flat [d.snd.fst, d.snd.snd.fst]) (↑x : Int).toNat).snd.snd.fst, (nth (U.flat [d.snd.fst, d.snd.snd.fst]) (↑x : Int).toNat).snd.snd.snd.fst,
  (nth (U.flat [d.snd.fst, d.snd.snd.fst]) (↑x : Int).toNat).snd.snd.snd.snd.fst, (nth (U.flat [d.snd.fst, d.snd.snd.fst]) (↑x : Int).toNat).snd.snd.snd.snd.snd.fst,
  ())
  (mvalD (0 : Int)
  (mfind (Ty.int.pair (Ty.int.pair (Ty.int.pair (Ty.int.pair (Ty.int.pair (Ty.int.pair Ty.unit))))))
  ((nth (U.flat [d.snd.fst, d.snd.snd.fst]) (↑x : Int).toNat).fst, (nth (U.flat [d.snd.fst, d.snd.snd.fst]) (↑x : Int).toNat).snd.fst,
  (nth (U.flat [d.snd.fst, d.snd.snd.fst]) (↑x : Int).toNat).snd.snd.fst, (nth (U.flat [d.snd.fst, d.snd.snd.fst]) (↑x : Int).toNat).snd.snd.snd.fst,
  (nth (U.flat [d.snd.fst, d.snd.snd.fst]) (↑x : Int).toNat).snd.snd.snd.snd.fst,
  (nth (U.flat [d.snd.fst, d.snd.snd.fst]) (↑x : Int).toNat).snd.snd.snd.snd.snd.fst, ())
  (mput (Ty.int.pair (Ty.int.pair (Ty.int.pair (Ty.int.pair (Ty.int.pair (Ty.int.pair Ty.unit))))))
  ((nth (U.flat [d.snd.fst, d.snd.snd.fst]) (↑x : Int).toNat).fst, (nth (U.flat [d.snd.fst, d.snd.snd.fst]) (↑x : Int).toNat).snd.fst,
  (nth (U.flat [d.snd.fst, d.snd.snd.fst]) (↑x : Int).toNat).snd.snd.fst, (nth (U.flat [d.snd.fst, d.snd.snd.fst]) (↑x : Int).toNat).snd.snd.snd.fst,
  (nth (U.flat [d.snd.fst, d.snd.snd.fst]) (↑x : Int).toNat).snd.snd.snd.snd.fst,
  (nth (U.flat [d.snd.fst, d.snd.snd.fst]) (↑x : Int).toNat).snd.snd.snd.snd.snd.fst, ())
  (mvalD (0 : Int)
  (mfind (Ty.int.pair (Ty.int.pair (Ty.int.pair (Ty.int.pair (Ty.int.pair (Ty.int.pair Ty.unit))))))
  ((nth (U.flat [d.snd.fst, d.snd.snd.fst]) (↑x : Int).toNat).fst, (nth (U.flat [d.snd.fst, d.snd.snd.fst]) (↑x : Int).toNat).snd.fst,
  (nth (U.flat [d.snd.fst, d.snd.snd.fst]) (↑x : Int).toNat).snd.snd.fst, (nth (U.flat [d.snd.fst, d.snd.snd.fst]) (↑x : Int).toNat).snd.snd.snd.fst,
  (nth (U.flat [d.snd.fst, d.snd.snd.fst]) (↑x : Int).toNat).snd.snd.snd.snd.fst,
  (nth (U.flat [d.snd.fst, d.snd.snd.fst]) (↑x : Int).toNat).snd.snd.snd.snd.snd.fst, ())
  (U.countTo (U.flat [d.snd.fst, d.snd.snd.fst]) x)))
  (U.countTo (U.flat [d.snd.fst, d.snd.snd.fst]) x))) +
  (1 : Int))
  (U.countTo (U.flat [d.snd.fst, d.snd.snd.fst]) x) =
  U.countTo (U.flat [d.snd.fst, d.snd.snd.fst]) x' ∧
  True) ∧
  x' ≤ List.length (U.flat [d.snd.fst, d.snd.snd.fst]) ∧ List.length (U.flat [d.snd.fst, d.snd.snd.fst]) - x' < List.length (U.flat [d.snd.fst, d.snd.snd.fst]) - x) ∧
  True) ∧
  True) ∧
  True) ∧
  True) ∧
  True) ∧
  True) ∧
  ((((In64
  (mvalD (0 : Int)
  (mfind (Ty.int.pair (Ty.int.pair (Ty.int.pair (Ty.int.pair (Ty.int.pair (Ty.int.pair Ty.unit))))))
  ((nth (U.flat [d.snd.fst, d.snd.snd.fst]) (↑x : Int).toNat).fst, (nth (U.flat [d.snd.fst, d.snd.snd.fst]) (↑x : Int).toNat).snd.fst,
  (nth (U.flat [d.snd.fst, d.snd.snd.fst]) (↑x : Int).toNat).snd.snd.fst, (nth (U.flat [d.snd.fst, d.snd.snd.fst]) (↑x : Int).toNat).snd.snd.snd.fst,
  (nth (U.flat [d.snd.fst, d.snd.snd.fst]) (↑x : Int).toNat).snd.snd.snd.snd.fst, (nth (U.flat [d.snd.fst, d.snd.snd.fst]) (↑x : Int).toNat).snd.snd.snd.snd.snd.fst, ())
  (U.countTo (U.flat [d.snd.fst, d.snd.snd.fst]) x)) +
  (1 : Int)) ∧
  (∀ (s : Int),
  ((s = s ∧
  In64 ((↑x : Int) + (1 : Int)) ∧
  ∃ (x' : Nat),
  (((↑x : Int) + (1 : Int) = (↑x' : Int) ∧ True) ∧
  mput (Ty.int.pair (Ty.int.pair (Ty.int.pair (Ty.int.pair (Ty.int.pair (Ty.int.pair Ty.unit))))))
  ((nth (U.flat [d.snd.fst, d.snd.snd.fst]) (↑x : Int).toNat).fst, (nth (U.flat [d.snd.fst, d.snd.snd.fst]) (↑x : Int).toNat).snd.fst,
  (nth (U.flat [d.snd.fst, d.snd.snd.fst]) (↑x : Int).toNat).snd.snd.fst, (nth (U.flat [d.snd.fst, d.snd.snd.fst]) (↑x : Int).toNat).snd.snd.snd.fst,
  (nth (U.flat [d.snd.fst, d.snd.snd.fst]) (↑x : Int).toNat).snd.snd.snd.snd.fst, (nth (U.flat [d.snd.fst, d.snd.snd.fst]) (↑x : Int).toNat).snd.snd.snd.snd.snd.fst, ())
  (mvalD (0 : Int)
  (mfind (Ty.int.pair (Ty.int.pair (Ty.int.pair (Ty.int.pair (Ty.int.pair (Ty.int.pair Ty.unit))))))
  ((nth (U.flat [d.snd.fst, d.snd.snd.fst]) (↑x : Int).toNat).fst, (nth (U.flat [d.snd.fst, d.snd.snd.fst]) (↑x : Int).toNat).snd.fst,
  (nth (U.flat [d.snd.fst, d.snd.snd.fst]) (↑x : Int).toNat).snd.snd.fst, (nth (U.flat [d.snd.fst, d.snd.snd.fst]) (↑x : Int).toNat).snd.snd.snd.fst,
  (nth (U.flat [d.snd.fst, d.snd.snd.fst]) (↑x : Int).toNat).snd.snd.snd.snd.fst,
  (nth (U.flat [d.snd.fst, d.snd.snd.fst]) (↑x : Int).toNat).snd.snd.snd.snd.snd.fst, ())
  (U.countTo (U.flat [d.snd.fst, d.snd.snd.fst]) x)) +
  (1 : Int))
  (U.countTo (U.flat [d.snd.fst, d.snd.snd.fst]) x) =
  U.countTo (U.flat [d.snd.fst, d.snd.snd.fst]) x' ∧
  True) ∧
  x' ≤ List.length (U.flat [d.snd.fst, d.snd.snd.fst]) ∧ List.length (U.flat [d.snd.fst, d.snd.snd.fst]) - x' < List.length (U.flat [d.snd.fst, d.snd.snd.fst]) - x) ∧
  True) ∧
  True) ∧
  True) ∧
  (∀ (s : Int),
  (In64
  (mvalD (0 : Int)
  (mfind (Ty.int.pair (Ty.int.pair (Ty.int.pair (Ty.int.pair (Ty.int.pair (Ty.int.pair Ty.unit))))))
  ((nth (U.flat [d.snd.fst, d.snd.snd.fst]) (↑x : Int).toNat).fst, (nth (U.flat [d.snd.fst, d.snd.snd.fst]) (↑x : Int).toNat).snd.fst,
  (nth (U.flat [d.snd.fst, d.snd.snd.fst]) (↑x : Int).toNat).snd.snd.fst, (nth (U.flat [d.snd.fst, d.snd.snd.fst]) (↑x : Int).toNat).snd.snd.snd.fst,
  (nth (U.flat [d.snd.fst, d.snd.snd.fst]) (↑x : Int).toNat).snd.snd.snd.snd.fst, (nth (U.flat [d.snd.fst, d.snd.snd.fst]) (↑x : Int).toNat).snd.snd.snd.snd.snd.fst, ())
  (U.countTo (U.flat [d.snd.fst, d.snd.snd.fst]) x)) +
  (1 : Int)) ∧
  ((s = s ∧
  In64 ((↑x : Int) + (1 : Int)) ∧
  ∃ (x' : Nat),
  (((↑x : Int) + (1 : Int) = (↑x' : Int) ∧ True) ∧
  mput (Ty.int.pair (Ty.int.pair (Ty.int.pair (Ty.int.pair (Ty.int.pair (Ty.int.pair Ty.unit))))))
  ((nth (U.flat [d.snd.fst, d.snd.snd.fst]) (↑x : Int).toNat).fst, (nth (U.flat [d.snd.fst, d.snd.snd.fst]) (↑x : Int).toNat).snd.fst,
  (nth (U.flat [d.snd.fst, d.snd.snd.fst]) (↑x : Int).toNat).snd.snd.fst, (nth (U.flat [d.snd.fst, d.snd.snd.fst]) (↑x : Int).toNat).snd.snd.snd.fst,
  (nth (U.flat [d.snd.fst, d.snd.snd.fst]) (↑x : Int).toNat).snd.snd.snd.snd.fst, (nth (U.flat [d.snd.fst, d.snd.snd.fst]) (↑x : Int).toNat).snd.snd.snd.snd.snd.fst,
  ())
  (mvalD (0 : Int)
  (mfind (Ty.int.pair (Ty.int.pair (Ty.int.pair (Ty.int.pair (Ty.int.pair (Ty.int.pair Ty.unit))))))
  ((nth (U.flat [d.snd.fst, d.snd.snd.fst]) (↑x : Int).toNat).fst, (nth (U.flat [d.snd.fst, d.snd.snd.fst]) (↑x : Int).toNat).snd.fst,
  (nth (U.flat [d.snd.fst, d.snd.snd.fst]) (↑x : Int).toNat).snd.snd.fst, (nth (U.flat [d.snd.fst, d.snd.snd.fst]) (↑x : Int).toNat).snd.snd.snd.fst,
  (nth (U.flat [d.snd.fst, d.snd.snd.fst]) (↑x : Int).toNat).snd.snd.snd.snd.fst,
  (nth (U.flat [d.snd.fst, d.snd.snd.fst]) (↑x : Int).toNat).snd.snd.snd.snd.snd.fst, ())
  (U.countTo (U.flat [d.snd.fst, d.snd.snd.fst]) x)) +
  (1 : Int))
  (U.countTo (U.flat [d.snd.fst, d.snd.snd.fst]) x) =
  U.countTo (U.flat [d.snd.fst, d.snd.snd.fst]) x' ∧
  True) ∧
  x' ≤ List.length (U.flat [d.snd.fst, d.snd.snd.fst]) ∧ List.length (U.flat [d.snd.fst, d.snd.snd.fst]) - x' < List.length (U.flat [d.snd.fst, d.snd.snd.fst]) - x) ∧
  True) ∧
  True) ∧
  ((In64
  (mvalD (0 : Int)
  (mfind (Ty.int.pair (Ty.int.pair (Ty.int.pair (Ty.int.pair (Ty.int.pair (Ty.int.pair Ty.unit))))))
  ((nth (U.flat [d.snd.fst, d.snd.snd.fst]) (↑x : Int).toNat).fst, (nth (U.flat [d.snd.fst, d.snd.snd.fst]) (↑x : Int).toNat).snd.fst,
  (nth (U.flat [d.snd.fst, d.snd.snd.fst]) (↑x : Int).toNat).snd.snd.fst, (nth (U.flat [d.snd.fst, d.snd.snd.fst]) (↑x : Int).toNat).snd.snd.snd.fst,
  (nth (U.flat [d.snd.fst, d.snd.snd.fst]) (↑x : Int).toNat).snd.snd.snd.snd.fst, (nth (U.flat [d.snd.fst, d.snd.snd.fst]) (↑x : Int).toNat).snd.snd.snd.snd.snd.fst, ())
  (U.countTo (U.flat [d.snd.fst, d.snd.snd.fst]) x)) +
  (1 : Int)) ∧
  (s = s ∧
  In64 ((↑x : Int) + (1 : Int)) ∧
  ∃ (x' : Nat),
  (((↑x : Int) + (1 : Int) = (↑x' : Int) ∧ True) ∧
  mput (Ty.int.pair (Ty.int.pair (Ty.int.pair (Ty.int.pair (Ty.int.pair (Ty.int.pair Ty.unit))))))
  ((nth (U.flat [d.snd.fst, d.snd.snd.fst]) (↑x : Int).toNat).fst, (nth (U.flat [d.snd.fst, d.snd.snd.fst]) (↑x : Int).toNat).snd.fst,
  (nth (U.flat [d.snd.fst, d.snd.snd.fst]) (↑x : Int).toNat).snd.snd.fst, (nth (U.flat [d.snd.fst, d.snd.snd.fst]) (↑x : Int).toNat).snd.snd.snd.fst,
  (nth (U.flat [d.snd.fst, d.snd.snd.fst]) (↑x : Int).toNat).snd.snd.snd.snd.fst, (nth (U.flat [d.snd.fst, d.snd.snd.fst]) (↑x : Int).toNat).snd.snd.snd.snd.snd.fst,
  ())
  (mvalD (0 : Int)
  (mfind (Ty.int.pair (Ty.int.pair (Ty.int.pair (Ty.int.pair (Ty.int.pair (Ty.int.pair Ty.unit))))))
  ((nth (U.flat [d.snd.fst, d.snd.snd.fst]) (↑x : Int).toNat).fst, (nth (U.flat [d.snd.fst, d.snd.snd.fst]) (↑x : Int).toNat).snd.fst,
  (nth (U.flat [d.snd.fst, d.snd.snd.fst]) (↑x : Int).toNat).snd.snd.fst, (nth (U.flat [d.snd.fst, d.snd.snd.fst]) (↑x : Int).toNat).snd.snd.snd.fst,
  (nth (U.flat [d.snd.fst, d.snd.snd.fst]) (↑x : Int).toNat).snd.snd.snd.snd.fst,
  (nth (U.flat [d.snd.fst, d.snd.snd.fst]) (↑x : Int).toNat).snd.snd.snd.snd.snd.fst, ())
  (U.countTo (U.flat [d.snd.fst, d.snd.snd.fst]) x)) +
  (1 : Int))
  (U.countTo (U.flat [d.snd.fst, d.snd.snd.fst]) x) =
  U.countTo (U.flat [d.snd.fst, d.snd.snd.fst]) x' ∧
  True) ∧
  x' ≤ List.length (U.flat [d.snd.fst, d.snd.snd.fst]) ∧ List.length (U.flat [d.snd.fst, d.snd.snd.fst]) - x' < List.length (U.flat [d.snd.fst, d.snd.snd.fst]) - x) ∧
  True) ∧
  True) ∧
  True) ∧
  True) ∧
  (∀ (s : Int),
  ((In64
  (mvalD (0 : Int)
  (mfind (Ty.int.pair (Ty.int.pair (Ty.int.pair (Ty.int.pair (Ty.int.pair (Ty.int.pair Ty.unit))))))
  ((nth (U.flat [d.snd.fst, d.snd.snd.fst]) (↑x : Int).toNat).fst, (nth (U.flat [d.snd.fst, d.snd.snd.fst]) (↑x : Int).toNat).snd.fst,
  (nth (U.flat [d.snd.fst, d.snd.snd.fst]) (↑x : Int).toNat).snd.snd.fst, (nth (U.flat [d.snd.fst, d.snd.snd.fst]) (↑x : Int).toNat).snd.snd.snd.fst,
  (nth (U.flat [d.snd.fst, d.snd.snd.fst]) (↑x : Int).toNat).snd.snd.snd.snd.fst, (nth (U.flat [d.snd.fst, d.snd.snd.fst]) (↑x : Int).toNat).snd.snd.snd.snd.snd.fst, ())
  (mput (Ty.int.pair (Ty.int.pair (Ty.int.pair (Ty.int.pair (Ty.int.pair (Ty.int.pair Ty.unit))))))
  ((nth (U.flat [d.snd.fst, d.snd.snd.fst]) (↑x : Int).toNat).fst, (nth (U.flat [d.snd.fst, d.snd.snd.fst]) (↑x : Int).toNat).snd.fst,
  (nth (U.flat [d.snd.fst, d.snd.snd.fst]) (↑x : Int).toNat).snd.snd.fst, (nth (U.flat [d.snd.fst, d.snd.snd.fst]) (↑x : Int).toNat).snd.snd.snd.fst,
  (nth (U.flat [d.snd.fst, d.snd.snd.fst]) (↑x : Int).toNat).snd.snd.snd.snd.fst, (nth (U.flat [d.snd.fst, d.snd.snd.fst]) (↑x : Int).toNat).snd.snd.snd.snd.snd.fst, ())
  (mvalD (0 : Int)
  (mfind (Ty.int.pair (Ty.int.pair (Ty.int.pair (Ty.int.pair (Ty.int.pair (Ty.int.pair Ty.unit))))))
  ((nth (U.flat [d.snd.fst, d.snd.snd.fst]) (↑x : Int).toNat).fst, (nth (U.flat [d.snd.fst, d.snd.snd.fst]) (↑x : Int).toNat).snd.fst,
  (nth (U.flat [d.snd.fst, d.snd.snd.fst]) (↑x : Int).toNat).snd.snd.fst, (nth (U.flat [d.snd.fst, d.snd.snd.fst]) (↑x : Int).toNat).snd.snd.snd.fst,
  (nth (U.flat [d.snd.fst, d.snd.snd.fst]) (↑x : Int).toNat).snd.snd.snd.snd.fst, (nth (U.flat [d.snd.fst, d.snd.snd.fst]) (↑x : Int).toNat).snd.snd.snd.snd.snd.fst, ())
  (U.countTo (U.flat [d.snd.fst, d.snd.snd.fst]) x)))
  (U.countTo (U.flat [d.snd.fst, d.snd.snd.fst]) x))) +
  (1 : Int)) ∧
  ((s = s ∧
  In64 ((↑x : Int) + (1 : Int)) ∧
  ∃ (x' : Nat),
  (((↑x : Int) + (1 : Int) = (↑x' : Int) ∧ True) ∧
  mput (Ty.int.pair (Ty.int.pair (Ty.int.pair (Ty.int.pair (Ty.int.pair (Ty.int.pair Ty.unit))))))
  ((nth (U.flat [d.snd.fst, d.snd.snd.fst]) (↑x : Int).toNat).fst, (nth (U.flat [d.snd.fst, d.snd.snd.fst]) (↑x : Int).toNat).snd.fst,
  (nth (U.flat [d.snd.fst, d.snd.snd.fst]) (↑x : Int).toNat).snd.snd.fst, (nth (U.flat [d.snd.fst, d.snd.snd.fst]) (↑x : Int).toNat).snd.snd.snd.fst,
  (nth (U.flat [d.snd.fst, d.snd.snd.fst]) (↑x : Int).toNat).snd.snd.snd.snd.fst, (nth (U.flat [d.snd.fst, d.snd.snd.fst]) (↑x : Int).toNat).snd.snd.snd.snd.snd.fst,
  ())
  (mvalD (0 : Int)
  (mfind (Ty.int.pair (Ty.int.pair (Ty.int.pair (Ty.int.pair (Ty.int.pair (Ty.int.pair Ty.unit))))))
  ((nth (U.flat [d.snd.fst, d.snd.snd.fst]) (↑x : Int).toNat).fst, (nth (U.flat [d.snd.fst, d.snd.snd.fst]) (↑x : Int).toNat).snd.fst,
  (nth (U.flat [d.snd.fst, d.snd.snd.fst]) (↑x : Int).toNat).snd.snd.fst, (nth (U.flat [d.snd.fst, d.snd.snd.fst]) (↑x : Int).toNat).snd.snd.snd.fst,
  (nth (U.flat [d.snd.fst, d.snd.snd.fst]) (↑x : Int).toNat).snd.snd.snd.snd.fst,
  (nth (U.flat [d.snd.fst, d.snd.snd.fst]) (↑x : Int).toNat).snd.snd.snd.snd.snd.fst, ())
  (mput (Ty.int.pair (Ty.int.pair (Ty.int.pair (Ty.int.pair (Ty.int.pair (Ty.int.pair Ty.unit))))))
  ((nth (U.flat [d.snd.fst, d.snd.snd.fst]) (↑x : Int).toNat).fst, (nth (U.flat [d.snd.fst, d.snd.snd.fst]) (↑x : Int).toNat).snd.fst,
  (nth (U.flat [d.snd.fst, d.snd.snd.fst]) (↑x : Int).toNat).snd.snd.fst, (nth (U.flat [d.snd.fst, d.snd.snd.fst]) (↑x : Int).toNat).snd.snd.snd.fst,
  (nth (U.flat [d.snd.fst, d.snd.snd.fst]) (↑x : Int).toNat).snd.snd.snd.snd.fst,
  (nth (U.flat [d.snd.fst, d.snd.snd.fst]) (↑x : Int).toNat).snd.snd.snd.snd.snd.fst, ())
  (mvalD (0 : Int)
  (mfind (Ty.int.pair (Ty.int.pair (Ty.int.pair (Ty.int.pair (Ty.int.pair (Ty.int.pair Ty.unit))))))
  ((nth (U.flat [d.snd.fst, d.snd.snd.fst]) (↑x : Int).toNat).fst, (nth (U.flat [d.snd.fst, d.snd.snd.fst]) (↑x : Int).toNat).snd.fst,
  (nth (U.flat [d.snd.fst, d.snd.snd.fst]) (↑x : Int).toNat).snd.snd.fst, (nth (U.flat [d.snd.fst, d.snd.snd.fst]) (↑x : Int).toNat).snd.snd.snd.fst,
  (nth (U.flat [d.snd.fst, d.snd.snd.fst]) (↑x : Int).toNat).snd.snd.snd.snd.fst,
  (nth (U.flat [d.snd.fst, d.snd.snd.fst]) (↑x : Int).toNat).snd.snd.snd.snd.snd.fst, ())
  (U.countTo (U.flat [d.snd.fst, d.snd.snd.fst]) x)))
  (U.countTo (U.flat [d.snd.fst, d.snd.snd.fst]) x))) +
  (1 : Int))
  (U.countTo (U.flat [d.snd.fst, d.snd.snd.fst]) x) =
  U.countTo (U.flat [d.snd.fst, d.snd.snd.fst]) x' ∧
  True) ∧
  x' ≤ List.length (U.flat [d.snd.fst, d.snd.snd.fst]) ∧ List.length (U.flat [d.snd.fst, d.snd.snd.fst]) - x' < List.length (U.flat [d.snd.fst, d.snd.snd.fst]) - x) ∧
  True) ∧
  True) ∧
  ((In64
  (mvalD (0 : Int)
  (mfind (Ty.int.pair (Ty.int.pair (Ty.int.pair (Ty.int.pair (Ty.int.pair (Ty.int.pair Ty.unit))))))
  ((nth (U.flat [d.snd.fst, d.snd.snd.fst]) (↑x : Int).toNat).fst, (nth (U.flat [d.snd.fst, d.snd.snd.fst]) (↑x : Int).toNat).snd.fst,
  (nth (U.flat [d.snd.fst, d.snd.snd.fst]) (↑x : Int).toNat).snd.snd.fst, (nth (U.flat [d.snd.fst, d.snd.snd.fst]) (↑x : Int).toNat).snd.snd.snd.fst,
  (nth (U.flat [d.snd.fst, d.snd.snd.fst]) (↑x : Int).toNat).snd.snd.snd.snd.fst, (nth (U.flat [d.snd.fst, d.snd.snd.fst]) (↑x : Int).toNat).snd.snd.snd.snd.snd.fst, ())
  (mput (Ty.int.pair (Ty.int.pair (Ty.int.pair (Ty.int.pair (Ty.int.pair (Ty.int.pair Ty.unit))))))
  ((nth (U.flat [d.snd.fst, d.snd.snd.fst]) (↑x : Int).toNat).fst, (nth (U.flat [d.snd.fst, d.snd.snd.fst]) (↑x : Int).toNat).snd.fst,
  (nth (U.flat [d.snd.fst, d.snd.snd.fst]) (↑x : Int).toNat).snd.snd.fst, (nth (U.flat [d.snd.fst, d.snd.snd.fst]) (↑x : Int).toNat).snd.snd.snd.fst,
  (nth (U.flat [d.snd.fst, d.snd.snd.fst]) (↑x : Int).toNat).snd.snd.snd.snd.fst, (nth (U.flat [d.snd.fst, d.snd.snd.fst]) (↑x : Int).toNat).snd.snd.snd.snd.snd.fst, ())
  (mvalD (0 : Int)
  (mfind (Ty.int.pair (Ty.int.pair (Ty.int.pair (Ty.int.pair (Ty.int.pair (Ty.int.pair Ty.unit))))))
  ((nth (U.flat [d.snd.fst, d.snd.snd.fst]) (↑x : Int).toNat).fst, (nth (U.flat [d.snd.fst, d.snd.snd.fst]) (↑x : Int).toNat).snd.fst,
  (nth (U.flat [d.snd.fst, d.snd.snd.fst]) (↑x : Int).toNat).snd.snd.fst, (nth (U.flat [d.snd.fst, d.snd.snd.fst]) (↑x : Int).toNat).snd.snd.snd.fst,
  (nth (U.flat [d.snd.fst, d.snd.snd.fst]) (↑x : Int).toNat).snd.snd.snd.snd.fst, (nth (U.flat [d.snd.fst, d.snd.snd.fst]) (↑x : Int).toNat).snd.snd.snd.snd.snd.fst, ())
  (U.countTo (U.flat [d.snd.fst, d.snd.snd.fst]) x)))
  (U.countTo (U.flat [d.snd.fst, d.snd.snd.fst]) x))) +
  (1 : Int)) ∧
  (s = s ∧
  In64 ((↑x : Int) + (1 : Int)) ∧
  ∃ (x' : Nat),
  (((↑x : Int) + (1 : Int) = (↑x' : Int) ∧ True) ∧
  mput (Ty.int.pair (Ty.int.pair (Ty.int.pair (Ty.int.pair (Ty.int.pair (Ty.int.pair Ty.unit))))))
  ((nth (U.flat [d.snd.fst, d.snd.snd.fst]) (↑x : Int).toNat).fst, (nth (U.flat [d.snd.fst, d.snd.snd.fst]) (↑x : Int).toNat).snd.fst,
  (nth (U.flat [d.snd.fst, d.snd.snd.fst]) (↑x : Int).toNat).snd.snd.fst, (nth (U.flat [d.snd.fst, d.snd.snd.fst]) (↑x : Int).toNat).snd.snd.snd.fst,
  (nth (U.flat [d.snd.fst, d.snd.snd.fst]) (↑x : Int).toNat).snd.snd.snd.snd.fst, (nth (U.flat [d.snd.fst, d.snd.snd.fst]) (↑x : Int).toNat).snd.snd.snd.snd.snd.fst,
  ())
  (mvalD (0 : Int)
  (mfind (Ty.int.pair (Ty.int.pair (Ty.int.pair (Ty.int.pair (Ty.int.pair (Ty.int.pair Ty.unit))))))
  ((nth (U.flat [d.snd.fst, d.snd.snd.fst]) (↑x : Int).toNat).fst, (nth (U.flat [d.snd.fst, d.snd.snd.fst]) (↑x : Int).toNat).snd.fst,
  (nth (U.flat [d.snd.fst, d.snd.snd.fst]) (↑x : Int).toNat).snd.snd.fst, (nth (U.flat [d.snd.fst, d.snd.snd.fst]) (↑x : Int).toNat).snd.snd.snd.fst,
  (nth (U.flat [d.snd.fst, d.snd.snd.fst]) (↑x : Int).toNat).snd.snd.snd.snd.fst,
  (nth (U.flat [d.snd.fst, d.snd.snd.fst]) (↑x : Int).toNat).snd.snd.snd.snd.snd.fst, ())
  (mput (Ty.int.pair (Ty.int.pair (Ty.int.pair (Ty.int.pair (Ty.int.pair (Ty.int.pair Ty.unit))))))
  ((nth (U.flat [d.snd.fst, d.snd.snd.fst]) (↑x : Int).toNat).fst, (nth (U.flat [d.snd.fst, d.snd.snd.fst]) (↑x : Int).toNat).snd.fst,
  (nth (U.flat [d.snd.fst, d.snd.snd.fst]) (↑x : Int).toNat).snd.snd.fst, (nth (U.flat [d.snd.fst, d.snd.snd.fst]) (↑x : Int).toNat).snd.snd.snd.fst,
  (nth (U.flat [d.snd.fst, d.snd.snd.fst]) (↑x : Int).toNat).snd.snd.snd.snd.fst,
  (nth (U.flat [d.snd.fst, d.snd.snd.fst]) (↑x : Int).toNat).snd.snd.snd.snd.snd.fst, ())
  (mvalD (0 : Int)
  (mfind (Ty.int.pair (Ty.int.pair (Ty.int.pair (Ty.int.pair (Ty.int.pair (Ty.int.pair Ty.unit))))))
  ((nth (U.flat [d.snd.fst, d.snd.snd.fst]) (↑x : Int).toNat).fst, (nth (U.flat [d.snd.fst, d.snd.snd.fst]) (↑x : Int).toNat).snd.fst,
  (nth (U.flat [d.snd.fst, d.snd.snd.fst]) (↑x : Int).toNat).snd.snd.fst, (nth (U.flat [d.snd.fst, d.snd.snd.fst]) (↑x : Int).toNat).snd.snd.snd.fst,
  (nth (U.flat [d.snd.fst, d.snd.snd.fst]) (↑x : Int).toNat).snd.snd.snd.snd.fst,
  (nth (U.flat [d.snd.fst, d.snd.snd.fst]) (↑x : Int).toNat).snd.snd.snd.snd.snd.fst, ())
  (U.countTo (U.flat [d.snd.fst, d.snd.snd.fst]) x)))
  (U.countTo (U.flat [d.snd.fst, d.snd.snd.fst]) x))) +
  (1 : Int))
  (U.countTo (U.flat [d.snd.fst, d.snd.snd.fst]) x) =
  U.countTo (U.flat [d.snd.fst, d.snd.snd.fst]) x' ∧
  True) ∧
  x' ≤ List.length (U.flat [d.snd.fst, d.snd.snd.fst]) ∧ List.length (U.flat [d.snd.fst, d.snd.snd.fst]) - x' < List.length (U.flat [d.snd.fst, d.snd.snd.fst]) - x) ∧
  True) ∧
  True) ∧
  True) ∧
  (((In64
  (mvalD (0 : Int)
  (mfind (Ty.int.pair (Ty.int.pair (Ty.int.pair (Ty.int.pair (Ty.int.pair (Ty.int.pair Ty.unit))))))
  ((nth (U.flat [d.snd.fst, d.snd.snd.fst]) (↑x : Int).toNat).fst, (nth (U.flat [d.snd.fst, d.snd.snd.fst]) (↑x : Int).toNat).snd.fst,
  (nth (U.flat [d.snd.fst, d.snd.snd.fst]) (↑x : Int).toNat).snd.snd.fst, (nth (U.flat [d.snd.fst, d.snd.snd.fst]) (↑x : Int).toNat).snd.snd.snd.fst,
  (nth (U.flat [d.snd.fst, d.snd.snd.fst]) (↑x : Int).toNat).snd.snd.snd.snd.fst, (nth (U.flat [d.snd.fst, d.snd.snd.fst]) (↑x : Int).toNat).snd.snd.snd.snd.snd.fst, ())
  (mput (Ty.int.pair (Ty.int.pair (Ty.int.pair (Ty.int.pair (Ty.int.pair (Ty.int.pair Ty.unit))))))
  ((nth (U.flat [d.snd.fst, d.snd.snd.fst]) (↑x : Int).toNat).fst, (nth (U.flat [d.snd.fst, d.snd.snd.fst]) (↑x : Int).toNat).snd.fst,
  (nth (U.flat [d.snd.fst, d.snd.snd.fst]) (↑x : Int).toNat).snd.snd.fst, (nth (U.flat [d.snd.fst, d.snd.snd.fst]) (↑x : Int).toNat).snd.snd.snd.fst,
  (nth (U.flat [d.snd.fst, d.snd.snd.fst]) (↑x : Int).toNat).snd.snd.snd.snd.fst, (nth (U.flat [d.snd.fst, d.snd.snd.fst]) (↑x : Int).toNat).snd.snd.snd.snd.snd.fst, ())
  (mvalD (0 : Int)
  (mfind (Ty.int.pair (Ty.int.pair (Ty.int.pair (Ty.int.pair (Ty.int.pair (Ty.int.pair Ty.unit))))))
  ((nth (U.flat [d.snd.fst, d.snd.snd.fst]) (↑x : Int).toNat).fst, (nth (U.flat [d.snd.fst, d.snd.snd.fst]) (↑x : Int).toNat).snd.fst,
  (nth (U.flat [d.snd.fst, d.snd.snd.fst]) (↑x : Int).toNat).snd.snd.fst, (nth (U.flat [d.snd.fst, d.snd.snd.fst]) (↑x : Int).toNat).snd.snd.snd.fst,
  (nth (U.flat [d.snd.fst, d.snd.snd.fst]) (↑x : Int).toNat).snd.snd.snd.snd.fst, (nth (U.flat [d.snd.fst, d.snd.snd.fst]) (↑x : Int).toNat).snd.snd.snd.snd.snd.fst, ())
  (U.countTo (U.flat [d.snd.fst, d.snd.snd.fst]) x)))
  (U.countTo (U.flat [d.snd.fst, d.snd.snd.fst]) x))) +
  (1 : Int)) ∧
  (s = s ∧
  In64 ((↑x : Int) + (1 : Int)) ∧
  ∃ (x' : Nat),
  (((↑x : Int) + (1 : Int) = (↑x' : Int) ∧ True) ∧
  mput (Ty.int.pair (Ty.int.pair (Ty.int.pair (Ty.int.pair (Ty.int.pair (Ty.int.pair Ty.unit))))))
  ((nth (U.flat [d.snd.fst, d.snd.snd.fst]) (↑x : Int).toNat).fst, (nth (U.flat [d.snd.fst, d.snd.snd.fst]) (↑x : Int).toNat).snd.fst,
  (nth (U.flat [d.snd.fst, d.snd.snd.fst]) (↑x : Int).toNat).snd.snd.fst, (nth (U.flat [d.snd.fst, d.snd.snd.fst]) (↑x : Int).toNat).snd.snd.snd.fst,
  (nth (U.flat [d.snd.fst, d.snd.snd.fst]) (↑x : Int).toNat).snd.snd.snd.snd.fst, (nth (U.flat [d.snd.fst, d.snd.snd.fst]) (↑x : Int).toNat).snd.snd.snd.snd.snd.fst,
  ())
  (mvalD (0 : Int)
  (mfind (Ty.int.pair (Ty.int.pair (Ty.int.pair (Ty.int.pair (Ty.int.pair (Ty.int.pair Ty.unit))))))
  ((nth (U.flat [d.snd.fst, d.snd.snd.fst]) (↑x : Int).toNat).fst, (nth (U.flat [d.snd.fst, d.snd.snd.fst]) (↑x : Int).toNat).snd.fst,
  (nth (U.flat [d.snd.fst, d.snd.snd.fst]) (↑x : Int).toNat).snd.snd.fst, (nth (U.flat [d.snd.fst, d.snd.snd.fst]) (↑x : Int).toNat).snd.snd.snd.fst,
  (nth (U.flat [d.snd.fst, d.snd.snd.fst]) (↑x : Int).toNat).snd.snd.snd.snd.fst,
  (nth (U.flat [d.snd.fst, d.snd.snd.fst]) (↑x : Int).toNat).snd.snd.snd.snd.snd.fst, ())
  (mput (Ty.int.pair (Ty.int.pair (Ty.int.pair (Ty.int.pair (Ty.int.pair (Ty.int.pair Ty.unit))))))
  ((nth (U.flat [d.snd.fst, d.snd.snd.fst]) (↑x : Int).toNat).fst, (nth (U.flat [d.snd.fst, d.snd.snd.fst]) (↑x : Int).toNat).snd.fst,
  (nth (U.flat [d.snd.fst, d.snd.snd.fst]) (↑x : Int).toNat).snd.snd.fst, (nth (U.flat [d.snd.fst, d.snd.snd.fst]) (↑x : Int).toNat).snd.snd.snd.fst,
  (nth (U.flat [d.snd.fst, d.snd.snd.fst]) (↑x : Int).toNat).snd.snd.snd.snd.fst,
  (nth (U.flat [d.snd.fst, d.snd.snd.fst]) (↑x : Int).toNat).snd.snd.snd.snd.snd.fst, ())
  (mvalD (0 : Int)
  (mfind (Ty.int.pair (Ty.int.pair (Ty.int.pair (Ty.int.pair (Ty.int.pair (Ty.int.pair Ty.unit))))))
  ((nth (U.flat [d.snd.fst, d.snd.snd.fst]) (↑x : Int).toNat).fst, (nth (U.flat [d.snd.fst, d.snd.snd.fst]) (↑x : Int).toNat).snd.fst,
  (nth (U.flat [d.snd.fst, d.snd.snd.fst]) (↑x : Int).toNat).snd.snd.fst, (nth (U.flat [d.snd.fst, d.snd.snd.fst]) (↑x : Int).toNat).snd.snd.snd.fst,
  (nth (U.flat [d.snd.fst, d.snd.snd.fst]) (↑x : Int).toNat).snd.snd.snd.snd.fst,
  (nth (U.flat [d.snd.fst, d.snd.snd.fst]) (↑x : Int).toNat).snd.snd.snd.snd.snd.fst, ())
  (U.countTo (U.flat [d.snd.fst, d.snd.snd.fst]) x)))
  (U.countTo (U.flat [d.snd.fst, d.snd.snd.fst]) x))) +
  (1 : Int))
  (U.countTo (U.flat [d.snd.fst, d.snd.snd.fst]) x) =
  U.countTo (U.flat [d.snd.fst, d.snd.snd.fst]) x' ∧
  True) ∧
  x' ≤ List.length (U.flat [d.snd.fst, d.snd.snd.fst]) ∧ List.length (U.flat [d.snd.fst, d.snd.snd.fst]) - x' < List.length (U.flat [d.snd.fst, d.snd.snd.fst]) - x) ∧
  True) ∧
  True) ∧
  True) ∧
  True) ∧
  True) ∧
  True) ∧
  True) ∧
  (decide ((↑x : Int) < (↑(List.length (U.flat [d.snd.fst, d.snd.snd.fst])) : Int)) = false →
  [d.snd.fst, d.snd.snd.fst].length ≤ (2 : Nat) ∧
  (∀ (l : List (Int × Int × Int × Int × Int × Int × Unit)), l ∈ [d.snd.fst, d.snd.snd.fst] → l.length ≤ (40000 : Nat)) ∧
  (decide ((40 : Int) < (↑(U.countTo (U.flat [d.snd.fst, d.snd.snd.fst]) x).length : Int)) = true →
  ([], (2 : Int), ()) = (U.merged d.fst d.snd.fst d.snd.snd.fst, U.mergeErr d.fst d.snd.fst d.snd.snd.fst, ())) ∧
  (decide ((40 : Int) < (↑(U.countTo (U.flat [d.snd.fst, d.snd.snd.fst]) x).length : Int)) = false →
  (decide ((0 : Int) < (U.fillAll [d.snd.fst, d.snd.snd.fst]).snd.fst) = true → ([], (22 : Int), ()) = (U.merged d.fst d.snd.fst d.snd.snd.fst, U.mergeErr d.fst d.snd.fst d.snd.snd.fst, ())) ∧
  (decide ((0 : Int) < (U.fillAll [d.snd.fst, d.snd.snd.fst]).snd.fst) = false →
  U.okMapW (U.fillAll [d.snd.fst, d.snd.snd.fst]).fst ∧
  (U.isort U.cmpF (U.vals (U.fillAll [d.snd.fst, d.snd.snd.fst]).fst), (0 : Int), ()) = (U.merged d.fst d.snd.fst d.snd.snd.fst, U.mergeErr d.fst d.snd.fst d.snd.snd.fst, ()))))))

theorem vc36_eq : fnVC (ctx 63 [(37, sp37), (58, sp58)] [(59, so59), (60, so60w)]) (an36) Try.f36 (bodyOf Try.f36) sp36 = vc36 := by kernel_rfl


end Go.X
/-
  Messages in another order: what holds, what is read and what is merged is the same.
-/
namespace Go.X
open Go.Proofs

namespace M

theorem nodup_len {α : Type} : ∀ (a b : List α), a.Nodup → (∀ x ∈ a, x ∈ b) → a.length ≤ b.length
  | [], _, _, _ => by simp
  | x :: a, b, hn, h => by
    obtain ⟨b1, b2, rfl⟩ := List.append_of_mem (h x (by simp))
    rw [List.nodup_cons] at hn
    have := nodup_len a (b1 ++ b2) hn.2 (fun y hy => by
      have := h y (by simp [hy])
      rw [List.mem_append, List.mem_cons] at this
      rw [List.mem_append]
      rcases this with h1 | h1 | h1
      · exact .inl h1
      · subst h1; exact absurd hy hn.1
      · exact .inr h1)
    simp at this ⊢
    omega

theorem fill_two (a b : LG) : U.fillAll [a, b] = U.fillAll [a ++ b] := by
  unfold U.fillAll U.putAll
  simp [List.foldl_append]

theorem flat_two (a b : LG) : U.flat [a, b] = a ++ b := by
  unfold U.flat
  simp

theorem few_of {l m : LG} (h : ∀ g ∈ m, g ∈ l) {n : Nat} (hl : l.length ≤ n) : (U.fillAll [m]).1.length ≤ n := by
  have hm := mapOf_fill m
  have := nodup_len ((U.fillAll [m]).1.map (·.1)) (l.map U.key) hm.nod (fun k hk => by
    obtain ⟨e, he, rfl⟩ := List.mem_map.1 hk
    obtain ⟨h1, h2⟩ := hm.mem e he
    exact List.mem_map.2 ⟨e.2, h e.2 h2, h1.symm⟩)
  rw [List.length_map, List.length_map] at this
  omega

theorem mput_cons {kt : Ty} {β : Type} (k : kt.Data) (v : β) (e : kt.Data × β) (r : List (kt.Data × β)) : mput kt k v (e :: r) = if @decide (k = e.1) (kt.decEq k e.1) = true then (k, v) :: r else e :: mput kt k v r := rfl
theorem mfind_cons {kt : Ty} {β : Type} (k : kt.Data) (e : kt.Data × β) (r : List (kt.Data × β)) : mfind kt k (e :: r) = if @decide (k = e.1) (kt.decEq k e.1) = true then some e.2 else mfind kt k r := rfl
theorem dec_self {kt : Ty} (k : kt.Data) : @decide (k = k) (kt.decEq k k) = true := @decide_eq_true _ (kt.decEq k k) rfl

theorem mput_fst {kt : Ty} {β : Type} (k : kt.Data) (v : β) : ∀ m : List (kt.Data × β), (mput kt k v m).map (·.1) = m.map (·.1) ∨ (k ∉ m.map (·.1) ∧ (mput kt k v m).map (·.1) = m.map (·.1) ++ [k])
  | [] => .inr ⟨by simp, rfl⟩
  | e :: r => by
    rw [mput_cons]
    by_cases h : @decide (k = e.1) (kt.decEq k e.1) = true
    · rw [if_pos h]
      have h : k = e.1 := @of_decide_eq_true _ (kt.decEq k e.1) h
      left
      simp [h]
    · rw [if_neg h]
      have h : ¬ k = e.1 := fun e' => h (@decide_eq_true _ (kt.decEq k e.1) e')
      rcases mput_fst k v r with ih | ⟨i1, i2⟩
      · left; simp only [List.map_cons, ih]
      · right
        refine ⟨?_, by simp only [List.map_cons, i2, List.cons_append]⟩
        rw [List.map_cons, List.mem_cons]
        rintro (e' | e')
        · exact h e'
        · exact i1 e'

theorem mfind_mput {kt : Ty} {β : Type} (k : kt.Data) (v : β) : ∀ l : List (kt.Data × β), mfind kt k (mput kt k v l) = some v
  | [] => by
    rw [show mput kt k v [] = [(k, v)] from rfl, mfind_cons, if_pos (dec_self k)]
  | e :: r => by
    rw [mput_cons]
    by_cases h : @decide (k = e.1) (kt.decEq k e.1) = true
    · rw [if_pos h, mfind_cons, if_pos (dec_self k)]
    · rw [if_neg h, mfind_cons, if_neg h]
      exact mfind_mput k v r

theorem mfind_mput_ne {kt : Ty} {β : Type} {k k' : kt.Data} (hne : k' ≠ k) (v : β) : ∀ l : List (kt.Data × β), mfind kt k' (mput kt k v l) = mfind kt k' l
  | [] => by
    rw [show mput kt k v [] = [(k, v)] from rfl, mfind_cons, if_neg (fun e => hne (@of_decide_eq_true _ (kt.decEq k' k) e))]
  | e :: r => by
    rw [mput_cons]
    by_cases h : @decide (k = e.1) (kt.decEq k e.1) = true
    · rw [if_pos h]
      have h : k = e.1 := @of_decide_eq_true _ (kt.decEq k e.1) h
      have hn : ¬ @decide (k' = e.1) (kt.decEq k' e.1) = true := fun e' => hne ((@of_decide_eq_true _ (kt.decEq k' e.1) e').trans h.symm)
      rw [mfind_cons, mfind_cons, if_neg hn, if_neg (fun e => hne (@of_decide_eq_true _ (kt.decEq k' k) e))]
    · rw [if_neg h, mfind_cons, mfind_cons, mfind_mput_ne hne v r]

theorem count_keys : ∀ (p : LG) (c : List (GD × Int)), (c.map (·.1)).Nodup → ((p.foldl U.count1 c).map (·.1)).Nodup ∧ ∀ k ∈ (p.foldl U.count1 c).map (·.1), k ∈ c.map (·.1) ∨ k ∈ p
  | [], c, h => ⟨h, fun k hk => .inl hk⟩
  | g :: p, c, h => by
    have h1 : ((U.count1 c g).map (·.1)).Nodup ∧ ∀ k ∈ (U.count1 c g).map (·.1), k ∈ c.map (·.1) ∨ k = g := by
      rcases mput_fst (kt := tG) g (mvalD 0 (mfind tG g c) + 1) c with e | ⟨e1, e2⟩
      · have e : (U.count1 c g).map (·.1) = c.map (·.1) := e
        rw [e]; exact ⟨h, fun k hk => .inl hk⟩
      · have e2 : (U.count1 c g).map (·.1) = c.map (·.1) ++ [g] := e2
        rw [e2]
        refine ⟨List.nodup_append.2 ⟨h, by simp, fun a ha b hb => ?_⟩, fun k hk => ?_⟩
        · simp at hb; subst hb
          exact fun e => e1 (e ▸ ha)
        · rcases List.mem_append.1 hk with hk | hk
          · exact .inl hk
          · exact .inr (by simpa using hk)
    obtain ⟨i1, i2⟩ := count_keys p (U.count1 c g) h1.1
    refine ⟨i1, fun k hk => ?_⟩
    rcases i2 k hk with h2 | h2
    · rcases h1.2 k h2 with h3 | h3
      · exact .inl h3
      · exact .inr (by simp [h3])
    · exact .inr (by simp [h2])

theorem count_len {l m : LG} (h : ∀ g ∈ m, g ∈ l) (i : Nat) : (U.countTo m i).length ≤ l.length := by
  obtain ⟨h1, h2⟩ := count_keys (m.take i) [] (by simp)
  have := nodup_len _ l h1 (fun k hk => by
    rcases h2 k hk with h3 | h3
    · simp at h3
    · exact h k (List.mem_of_mem_take h3))
  rw [List.length_map] at this
  exact this

/-! ### The same messages -/

theorem same_msgs {l m : LG} (hl : U.clash l = false) (hm : U.clash m = false) (h : ∀ g, g ∈ m ↔ g ∈ l) : U.msgs m = U.msgs l :=
  asc_ext (msgs_asc m) (msgs_asc l) (fun x => by rw [mem_msgs_iff hm, mem_msgs_iff hl, h])

theorem same_held {l m : LG} (hl : U.clash l = false) (hm : U.clash m = false) (h : ∀ g, g ∈ m ↔ g ∈ l) : U.heldG m = U.heldG l := by
  unfold U.heldG
  rw [same_msgs hl hm h]

theorem same_err {f : FD} {l m : LG} (c : U.check f l = 0) (c' : U.check f m = 0) (film : Int) : U.filmErr f m film = U.filmErr f l film := by
  unfold U.filmErr
  rw [c, c']

theorem same_readings {f : FD} {l m : LG} (c : U.check f l = 0) (c' : U.check f m = 0) (h : ∀ g, g ∈ m ↔ g ∈ l) (film : Int) : U.readings f m film = U.readings f l film := by
  unfold U.readings
  rw [same_err c c', same_held (ok_of c).cl (ok_of c').cl h]

theorem merged_of {f : FD} {a b l : LG} (c : U.check f l = 0) (h : ∀ g, g ∈ a ++ b ↔ g ∈ l) (hlen : (a ++ b).length ≤ 40) : U.mergeErr f a b = 0 ∧ U.merged f a b = U.msgs l := by
  have c1 : U.check f a = 0 := check_sub c (fun g hg => (h g).1 (List.mem_append_left _ hg)) (by simp at hlen; omega)
  have c2 : U.check f b = 0 := check_sub c (fun g hg => (h g).1 (List.mem_append_right _ hg)) (by simp at hlen; omega)
  have c3 : U.check f (a ++ b) = 0 := check_sub c (fun g hg => (h g).1 hg) hlen
  have hc := (ok_of c3).cl
  have hl := (ok_of c).len
  have hw : ¬ 0 < (U.fillAll [a ++ b]).2.1 := fun hw => by rw [(fill_clash (a ++ b)).1 hw] at hc; cases hc
  have hn := count_len (fun g hg => (h g).1 hg) (a ++ b).length
  have e : U.mergeErr f a b = 0 := by
    unfold U.mergeErr
    rw [c1, c2, fill_two, flat_two, if_neg (by simp), if_neg (by simp), if_neg (by omega), if_neg hw]
  refine ⟨e, ?_⟩
  unfold U.merged
  rw [if_pos e, fill_two]
  exact same_msgs (ok_of c).cl hc h

theorem turned_len (l : LG) (x : XD) : (U.turned l x).length ≤ l.length + l.length ∧ l.length ≤ (U.turned l x).length := by
  unfold U.turned U.turnedTo
  rw [List.length_append, List.length_map, List.length_range]
  split <;> simp

theorem turned_mem {l : LG} {x : XD} (hx : 0 ≤ x.1) (g : GD) : g ∈ U.turned l x ↔ g ∈ l := by
  have key : g ∈ U.turnedTo l x.1 l.length ↔ g ∈ l := by
    unfold U.turnedTo
    rw [List.mem_map]
    constructor
    · rintro ⟨k, hk, rfl⟩
      have hk := List.mem_range.1 hk
      have h1 := Int.tmod_lt_of_pos ((k : Int) + x.1) (b := (l.length : Int)) (by omega)
      have h2 := Int.tmod_nonneg (l.length : Int) (a := (k : Int) + x.1) (by omega)
      exact L.mem_nth (by omega)
    · intro hg
      obtain ⟨j, hj, rfl⟩ := L.mem_iff.1 hg
      have hn : (0 : Int) < l.length := by omega
      have h1 := Int.emod_nonneg ((j : Int) - x.1) (b := (l.length : Int)) (by omega)
      have h2 := Int.emod_lt_of_pos ((j : Int) - x.1) hn
      refine ⟨(((j : Int) - x.1) % (l.length : Int)).toNat, List.mem_range.2 (by omega), ?_⟩
      rw [Int.toNat_of_nonneg h1, Int.tmod_eq_emod_of_nonneg (by omega), Int.emod_add_emod, Int.sub_add_cancel, Int.emod_eq_of_lt (by omega) (by omega)]
      simp
  unfold U.turned
  rw [List.mem_append, key]
  constructor
  · rintro (h | h)
    · exact h
    · split at h
      · exact h
      · simp at h
  · exact .inl

end M
end Go.X
/-
  Held and Merge compute what is asked.
-/
namespace Go.X
open Go.Proofs

theorem h45w : vc45w := by
  rintro ⟨l, ⟨⟩⟩ hf hs hl
  have hf : (U.fillAll [l]).1.length ≤ 12 := hf
  have hs : ∀ g ∈ l, U.small g := hs
  have hl : l.length ≤ 1000 := hl
  have hm := mapOf_fill l
  have h1 : (U.isort U.cmpF (U.vals (U.fillAll [l]).1)).length ≤ 100000 := by
    rw [(isort_perm _ _).length_eq]
    simp only [U.vals, List.length_map]; omega
  refine ⟨by simp, fun x hx => ?_, ⟨hf, fun e he => ⟨(hm.mem e he).1, hs _ (hm.mem e he).2⟩, hm.nod⟩, h1, h1, fun _ _ => trivial, rfl⟩
  have : x = l := by simpa using hx
  subst this; omega

theorem ok45w : FnOK PR 45 sp45w := mkFn (vc45w_eq.mpr h45w) Try.func45 (by kernel_rfl) (by kernel_rfl) (by kernel_rfl) (by kernel_rfl) ⟨fun _ => ok70, trivial⟩ ⟨ok59, ok60, ok69, ok68, trivial⟩

theorem h35 : vc35 := by
  rintro ⟨⟨fr, s, ⟨⟩⟩, l, ⟨⟩⟩ hpre
  simp only at hpre ⊢
  refine ⟨fun h => ?_, fun h => ?_⟩
  · have h : U.check (fr, s, ()) l ≠ 0 := of_decide_eq_true h
    unfold U.heldP
    rw [if_neg h]
  · have h : U.check (fr, s, ()) l = 0 := Classical.byContradiction (of_decide_eq_false h)
    have hok := ok_of h
    have := hok.len
    refine ⟨hpre h, hok.small, by omega, ?_⟩
    unfold U.heldP
    rw [if_pos h, h]

theorem ok35 : FnOK PR 35 sp35 := mkFn (vc35_eq.mpr h35) Try.func35 (by kernel_rfl) (by kernel_rfl) (by kernel_rfl) (by kernel_rfl) ⟨fun _ => ok37, fun _ => ok45w, trivial⟩ trivial

theorem h77 : vc77 := by
  rintro ⟨⟨⟩, n, ⟨⟩⟩ hn
  simp only at hn ⊢
  refine ⟨fun h => ?_, fun _ => ⟨L.in64 (by omega) (by omega), L.in64 (by omega) (by omega), fun h => ?_, fun _ => ⟨rfl, trivial⟩⟩⟩
  · have := of_decide_eq_true h
    omega
  · have := of_decide_eq_true h
    exact ⟨by omega, by omega, by omega, this, by omega, by omega, by omega, by omega, rfl, trivial⟩

theorem ok77 : OFnOK PR 77 so77 := mkFnO (vc77_eq.mpr h77) Try.func77 (by kernel_rfl) (by kernel_rfl) (by kernel_rfl) (by kernel_rfl) (by kernel_rfl) trivial trivial

theorem flatTo_succ {l : List LG} {i : Nat} (h : i < l.length) : U.flatTo l (i + 1) = U.flatTo l i ++ nth l i := by
  unfold U.flatTo
  rw [L.take_succ h, List.flatten_append]
  simp

theorem flatTo_len {l : List LG} (h : ∀ x ∈ l, x.length ≤ 1000) : ∀ i, i ≤ l.length → (U.flatTo l i).length ≤ 1000 * i
  | 0, _ => by simp [U.flatTo]
  | i + 1, hi => by
    have ih := flatTo_len h i (by omega)
    have := h _ (L.mem_nth (l := l) (i := i) (by omega))
    rw [flatTo_succ (by omega), List.length_append]
    omega

theorem h58 : vc58 := by
  rintro ⟨l, ⟨⟩⟩ hl hx _
  simp only at hl hx ⊢
  have hlen := flatTo_len hx
  refine ⟨⟨0, ⟨⟨rfl, by simp [U.flatTo], trivial⟩, trivial⟩, Nat.zero_le _⟩, fun i hi => ⟨fun hc => ?_, fun hc => ?_⟩⟩
  · have hc : i < l.length := by have := of_decide_eq_true hc; omega
    have h1 := hlen i (by omega)
    have h2 := hx _ (L.mem_nth (l := l) (i := i) hc)
    simp only [Int.toNat_natCast]
    refine ⟨by omega, by omega, fun _ => ⟨L.in64 (by omega) (by omega), fun h => ?_, fun _ => ⟨L.in64 (by omega) (by omega), i + 1, ⟨⟨by simp, ?_, trivial⟩, trivial⟩, by omega, by omega⟩⟩⟩
    · have := of_decide_eq_true h
      omega
    · rw [flatTo_succ hc, List.length_append]; simp
  · have hc : l.length ≤ i := by have := of_decide_eq_false hc; omega
    have h1 := hlen i (by omega)
    refine ⟨⟨by omega, by omega⟩, fun _ => ⟨⟨0, ⟨⟨rfl, trivial, trivial⟩, rfl, trivial⟩, Nat.zero_le _⟩, fun j hj => ⟨fun hd => ?_, fun hd => ?_⟩⟩⟩
    · have hd : j < l.length := by have := of_decide_eq_true hd; omega
      have h1 := hlen j (by omega)
      have h2 := hx _ (L.mem_nth (l := l) (i := j) hd)
      simp only [Int.toNat_natCast]
      exact ⟨by omega, by omega, by omega, L.in64 (by omega) (by omega), j + 1, ⟨⟨by simp, trivial, trivial⟩, (flatTo_succ hd).symm, trivial⟩, by omega, by omega⟩
    · have hd : l.length ≤ j := by have := of_decide_eq_false hd; omega
      unfold U.flatTo U.flat
      rw [List.take_of_length_le hd]

theorem ok58 : FnOK PR 58 sp58 := mkFn (vc58_eq.mpr h58) Try.func58 (by kernel_rfl) (by kernel_rfl) (by kernel_rfl) (by kernel_rfl) trivial ⟨ok77, trivial⟩

/-! ### Merge -/

theorem countTo_succ {l : LG} {i : Nat} (h : i < l.length) : U.countTo l (i + 1) = U.count1 (U.countTo l i) (nth l i) := by
  unfold U.countTo
  rw [L.take_succ h, List.foldl_append]; rfl

theorem count_val (l : LG) : ∀ i, i ≤ l.length → ∀ g, 0 ≤ mvalD 0 (mfind tG g (U.countTo l i)) ∧ mvalD 0 (mfind tG g (U.countTo l i)) ≤ (i : Int)
  | 0, _, g => by
    have e : U.countTo l 0 = [] := rfl
    rw [e]
    exact ⟨Int.le_refl 0, Int.le_refl 0⟩
  | i + 1, hi, g => by
    have ih := count_val l i (by omega)
    rw [countTo_succ (by omega)]
    unfold U.count1
    by_cases e : g = nth l i
    · subst e
      rw [M.mfind_mput]
      have := ih (nth l i)
      have e : ∀ v : Int, mvalD 0 (some v) = v := fun _ => rfl
      rw [e]
      omega
    · rw [M.mfind_mput_ne e]
      have := ih g
      omega

theorem h36 : vc36 := by
  rintro ⟨⟨fr, s, ⟨⟩⟩, a, b, ⟨⟩⟩
  simp only
  intro _
  refine ⟨⟨0, ⟨⟨rfl, trivial⟩, trivial⟩, Nat.zero_le _, fun h => absurd h (by omega), fun h => absurd h (by omega)⟩, fun x hx => ⟨fun hc => ?_, fun hc => ?_⟩⟩
  · obtain ⟨h2, ha, hb⟩ := hx
    have hc : (x : Int) < 2 := of_decide_eq_true hc
    simp only [Int.toNat_natCast]
    refine ⟨by omega, hc, fun h => ?_, fun h => ⟨L.in64 (by omega) (by omega), x + 1, ⟨⟨by simp, trivial⟩, trivial⟩, ⟨by omega, fun _ => ?_, fun _ => ?_⟩, by omega⟩⟩
    · have h : U.check (fr, s, ()) (nth [a, b] x) ≠ 0 := of_decide_eq_true h
      match x, hc, ha, h with
      | 0, _, _, h =>
        have h : U.check (fr, s, ()) a ≠ 0 := h
        have e : U.mergeErr (fr, s, ()) a b = U.check (fr, s, ()) a := by unfold U.mergeErr; rw [if_pos h]
        unfold U.merged
        rw [e, if_neg h]; rfl
      | 1, _, ha, h =>
        have ha : U.check (fr, s, ()) a = 0 := ha (by omega)
        have h : U.check (fr, s, ()) b ≠ 0 := h
        have e : U.mergeErr (fr, s, ()) a b = U.check (fr, s, ()) b := by unfold U.mergeErr; rw [if_neg (by rw [ha]; simp), if_pos h]
        unfold U.merged
        rw [e, if_neg h]; rfl
      | x + 2, hc, _, _ => exfalso; omega
    · have h : U.check (fr, s, ()) (nth [a, b] x) = 0 := Classical.byContradiction (of_decide_eq_false h)
      by_cases e : x = 0
      · subst e; exact h
      · exact ha (by omega)
    · have h : U.check (fr, s, ()) (nth [a, b] x) = 0 := Classical.byContradiction (of_decide_eq_false h)
      have e : x = 1 := by omega
      subst e; exact h
  · obtain ⟨h2, ha, hb⟩ := hx
    have hc : ¬ (x : Int) < 2 := of_decide_eq_false hc
    have ha : U.check (fr, s, ()) a = 0 := ha (by omega)
    have hb : U.check (fr, s, ()) b = 0 := hb (by omega)
    have oa := ok_of ha
    have ob := ok_of hb
    have la := oa.len
    have lb := ob.len
    have two : ∀ (n : Nat), 40 ≤ n → ∀ x ∈ [a, b], x.length ≤ n := by
      intro n hn x hx
      rcases List.mem_cons.1 hx with rfl | hx
      · omega
      · have : x = b := by simpa using hx
        subst this; omega
    have hF : (U.flat [a, b]).length ≤ 80 := by rw [M.flat_two, List.length_append]; omega
    refine ⟨by simp, two 1000 (by omega), fun _ => ⟨⟨0, ⟨⟨rfl, trivial⟩, rfl, trivial⟩, Nat.zero_le _⟩, fun x hx => ⟨fun hc => ?_, fun hc => ?_⟩⟩⟩
    · have hc : x < (U.flat [a, b]).length := by have := of_decide_eq_true hc; omega
      have hS := countTo_succ hc
      have hV := count_val (U.flat [a, b]) x (by omega) (nth (U.flat [a, b]) x)
      simp only [Int.toNat_natCast]
      generalize U.flat [a, b] = F at hc hF hS hV ⊢
      have e5 : ((nth F x).fst, (nth F x).snd.fst, (nth F x).snd.snd.fst, (nth F x).snd.snd.snd.fst, (nth F x).snd.snd.snd.snd.fst, (nth F x).snd.snd.snd.snd.snd.fst, ()) = nth F x := rfl
      have hm : ∀ v : Int, mfind tG (nth F x) (mput tG (nth F x) v (U.countTo F x)) = some v := fun v => M.mfind_mput (kt := tG) (nth F x) v (U.countTo F x)
      simp only [e5, hm, mvalD]
      have hI : In64 (mvalD 0 (mfind tG (nth F x) (U.countTo F x)) + 1) := L.in64 (by omega) (by omega)
      have h64 : In64 ((x : Int) + 1) := L.in64 (by omega) (by omega)
      have E : ∃ x' : Nat, (((x : Int) + 1 = (x' : Int) ∧ True) ∧ mput tG (nth F x) (mvalD 0 (mfind tG (nth F x) (U.countTo F x)) + 1) (U.countTo F x) = U.countTo F x' ∧ True) ∧ x' ≤ F.length ∧ F.length - x' < F.length - x :=
        ⟨x + 1, ⟨⟨by simp, trivial⟩, hS.symm, trivial⟩, by omega, by omega⟩
      refine ⟨by omega, by omega, ?_⟩
      repeat (first | exact hI | exact h64 | exact E | exact trivial | exact rfl | intro _ | apply And.intro)
    · have hc : (U.flat [a, b]).length ≤ x := by have := of_decide_eq_false hc; omega
      have e : x = (U.flat [a, b]).length := by omega
      subst e
      have h0 : ¬ U.check (fr, s, ()) a ≠ 0 := by rw [ha]; simp
      have h0' : ¬ U.check (fr, s, ()) b ≠ 0 := by rw [hb]; simp
      refine ⟨by simp, two 40000 (by omega), fun h => ?_, fun h => ⟨fun h' => ?_, fun h' => ⟨⟨?_, ?_, ?_⟩, ?_⟩⟩⟩
      · have h := of_decide_eq_true h
        have e : U.mergeErr (fr, s, ()) a b = 2 := by unfold U.mergeErr; rw [if_neg h0, if_neg h0', if_pos (by omega)]
        unfold U.merged
        rw [e]; rfl
      · have h := of_decide_eq_false h
        have h' := of_decide_eq_true h'
        have e : U.mergeErr (fr, s, ()) a b = 22 := by unfold U.mergeErr; rw [if_neg h0, if_neg h0', if_neg (by omega), if_pos h']
        unfold U.merged
        rw [e]; rfl
      · rw [M.fill_two]
        have := (mapOf_fill (a ++ b)).len
        rw [List.length_append] at this
        omega
      · intro e he
        rw [M.fill_two] at he
        have hm := (mapOf_fill (a ++ b)).mem e he
        refine ⟨hm.1, ?_⟩
        rcases List.mem_append.1 hm.2 with hm | hm
        · exact oa.small _ hm
        · exact ob.small _ hm
      · rw [M.fill_two]
        exact (mapOf_fill (a ++ b)).nod
      · have h := of_decide_eq_false h
        have h' := of_decide_eq_false h'
        have e : U.mergeErr (fr, s, ()) a b = 0 := by unfold U.mergeErr; rw [if_neg h0, if_neg h0', if_neg (by omega), if_neg h']
        unfold U.merged
        rw [e, if_pos rfl]

theorem ok36 : FnOK PR 36 sp36 := mkFn (vc36_eq.mpr h36) Try.func36 (by kernel_rfl) (by kernel_rfl) (by kernel_rfl) (by kernel_rfl) ⟨fun _ => ok37, fun _ => ok58, trivial⟩ ⟨ok59, ok60w, trivial⟩

end Go.X
/-
  The statement 'GlossesHeld': what is asked of the functions that it alone reaches.
-/
namespace Go.X
open Go.Proofs

namespace U
def diffG (a b : GD) : Bool := !decide (a = b)
def firstTo (l : LG) (i k : Nat) : Bool := (l.take k).all (fun g => diffG g (nth l i))
def diffTo (l : LG) : Nat → Int
  | 0 => 0
  | i + 1 => if firstTo l i i = true then diffTo l i + 1 else diffTo l i
def mergeErrR (f : FD) (a b : LG) : Int := if check f a ≠ 0 then check f a else if check f b ≠ 0 then check f b else if 40 < diffTo (a ++ b) (a ++ b).length then 2 else if clash (a ++ b) = true then 22 else 0
def mergedR (f : FD) (a b : LG) : LG := if mergeErrR f a b = 0 then srt (a ++ b) else []
def heldR (f : FD) (l : LG) : LG := if check f l = 0 then held l else []
end U

def sp39 : Spec := ⟨[.val tF, .val tL, .val tL], [tL, .int], false, fun _ => [], fun d => (U.mergedR d.1 d.2.1 d.2.2.1, U.mergeErrR d.1 d.2.1 d.2.2.1, ())⟩
def an39 : Ann := fun r => match r with
  | 10 => some fun σ => { X := Nat, sl := fun i => [(12, .dat .int (i : Int)), (11, .dat .int (U.diffTo (gr tG σ 10) i))], ob := fun _ => [], inv := fun i => i ≤ (gr tG σ 10).length, mu := fun i => (gr tG σ 10).length - i }
  | 14 => some fun σ => { X := Nat, sl := fun k => [(14, .dat .int (k : Int)), (13, .dat .bool (U.firstTo (gr tG σ 10) (gd .int σ 12).toNat k))], ob := fun _ => [], inv := fun k => k ≤ (gd .int σ 12).toNat, mu := fun k => (gd .int σ 12).toNat - k }
  | _ => none
def vc39 : Prop :=
  ∀ (d : (List Int × Int × Unit) × List (Int × Int × Int × Int × Int × Int × Unit) × List (Int × Int × Int × Int × Int × Int × Unit) × Unit),
  (decide (U.check (d.fst.fst, d.fst.snd.fst, ()) d.snd.fst ≠ (0 : Int)) = true → ([], U.check (d.fst.fst, d.fst.snd.fst, ()) d.snd.fst, ()) = (U.mergedR d.fst d.snd.fst d.snd.snd.fst, U.mergeErrR d.fst d.snd.fst d.snd.snd.fst, ())) ∧
  (decide (U.check (d.fst.fst, d.fst.snd.fst, ()) d.snd.fst ≠ (0 : Int)) = false →
  (decide (U.check (d.fst.fst, d.fst.snd.fst, ()) d.snd.snd.fst ≠ (0 : Int)) = true →
  ([], U.check (d.fst.fst, d.fst.snd.fst, ()) d.snd.snd.fst, ()) = (U.mergedR d.fst d.snd.fst d.snd.snd.fst, U.mergeErrR d.fst d.snd.fst d.snd.snd.fst, ())) ∧
  (decide (U.check (d.fst.fst, d.fst.snd.fst, ()) d.snd.snd.fst ≠ (0 : Int)) = false →
  ((0 : Nat) + d.snd.fst.length) * (48 : Nat) ≤ (140737488355328 : Nat) ∧
  (([] ++ d.snd.fst).length + d.snd.snd.fst.length) * (48 : Nat) ≤ (140737488355328 : Nat) ∧
  (∃ (x : Nat), (((0 : Int) = (↑x : Int) ∧ (0 : Int) = U.diffTo ([] ++ d.snd.fst ++ d.snd.snd.fst) x ∧ True) ∧ True) ∧ x ≤ ([] ++ d.snd.fst ++ d.snd.snd.fst).length) ∧
  ∀ (x : Nat),
  x ≤ ([] ++ d.snd.fst ++ d.snd.snd.fst).length →
  ([] ++ d.snd.fst ++ d.snd.snd.fst).length < (4611686018427387904 : Nat) →
  (decide ((↑x : Int) < (↑([] ++ d.snd.fst ++ d.snd.snd.fst).length : Int)) = true →
  (∃ (x_4 : Nat), (((0 : Int) = (↑x_4 : Int) ∧ true = U.firstTo ([] ++ d.snd.fst ++ d.snd.snd.fst) (↑x : Int).toNat x_4 ∧ True) ∧ True) ∧ x_4 ≤ (↑x : Int).toNat) ∧
  ∀ (x_4 : Nat),
  x_4 ≤ (↑x : Int).toNat →
  (decide ((↑x_4 : Int) < (↑x : Int)) = true →
  (U.firstTo ([] ++ d.snd.fst ++ d.snd.snd.fst) (↑x : Int).toNat x_4 = true → (0 : Int) ≤ (↑x_4 : Int)) ∧
  (U.firstTo ([] ++ d.snd.fst ++ d.snd.snd.fst) (↑x : Int).toNat x_4 = true → (↑x_4 : Int) < (↑([] ++ d.snd.fst ++ d.snd.snd.fst).length : Int)) ∧
  (U.firstTo ([] ++ d.snd.fst ++ d.snd.snd.fst) (↑x : Int).toNat x_4 = true → (0 : Int) ≤ (↑x : Int)) ∧
  (U.firstTo ([] ++ d.snd.fst ++ d.snd.snd.fst) (↑x : Int).toNat x_4 = true → (↑x : Int) < (↑([] ++ d.snd.fst ++ d.snd.snd.fst).length : Int)) ∧
  In64 ((↑x_4 : Int) + (1 : Int)) ∧
  ∃ (x' : Nat),
  (((↑x_4 : Int) + (1 : Int) = (↑x' : Int) ∧
  (U.firstTo ([] ++ d.snd.fst ++ d.snd.snd.fst) (↑x : Int).toNat x_4 &&
  !decide (nth ([] ++ d.snd.fst ++ d.snd.snd.fst) (↑x_4 : Int).toNat = nth ([] ++ d.snd.fst ++ d.snd.snd.fst) (↑x : Int).toNat)) =
  U.firstTo ([] ++ d.snd.fst ++ d.snd.snd.fst) (↑x : Int).toNat x' ∧
  True) ∧
  True) ∧
  x' ≤ (↑x : Int).toNat ∧ (↑x : Int).toNat - x' < (↑x : Int).toNat - x_4) ∧
  (decide ((↑x_4 : Int) < (↑x : Int)) = false →
  (U.firstTo ([] ++ d.snd.fst ++ d.snd.snd.fst) (↑x : Int).toNat x_4 = true →
  In64 (U.diffTo ([] ++ d.snd.fst ++ d.snd.snd.fst) x + (1 : Int)) ∧
  In64 ((↑x : Int) + (1 : Int)) ∧
  ∃ (x' : Nat),
  (((↑x : Int) + (1 : Int) = (↑x' : Int) ∧ U.diffTo ([] ++ d.snd.fst ++ d.snd.snd.fst) x + (1 : Int) = U.diffTo ([] ++ d.snd.fst ++ d.snd.snd.fst) x' ∧ True) ∧ True) ∧
  x' ≤ ([] ++ d.snd.fst ++ d.snd.snd.fst).length ∧ ([] ++ d.snd.fst ++ d.snd.snd.fst).length - x' < ([] ++ d.snd.fst ++ d.snd.snd.fst).length - x) ∧
  (U.firstTo ([] ++ d.snd.fst ++ d.snd.snd.fst) (↑x : Int).toNat x_4 = false →
  In64 ((↑x : Int) + (1 : Int)) ∧
  ∃ (x' : Nat),
  ((U.diffTo ([] ++ d.snd.fst ++ d.snd.snd.fst) x = U.diffTo ([] ++ d.snd.fst ++ d.snd.snd.fst) x' ∧ (↑x : Int) + (1 : Int) = (↑x' : Int) ∧ True) ∧ True) ∧
  x' ≤ ([] ++ d.snd.fst ++ d.snd.snd.fst).length ∧ ([] ++ d.snd.fst ++ d.snd.snd.fst).length - x' < ([] ++ d.snd.fst ++ d.snd.snd.fst).length - x))) ∧
  (decide ((↑x : Int) < (↑([] ++ d.snd.fst ++ d.snd.snd.fst).length : Int)) = false →
  (decide ((40 : Int) < U.diffTo ([] ++ d.snd.fst ++ d.snd.snd.fst) x) = true → ([], (2 : Int), ()) = (U.mergedR d.fst d.snd.fst d.snd.snd.fst, U.mergeErrR d.fst d.snd.fst d.snd.snd.fst, ())) ∧
  (decide ((40 : Int) < U.diffTo ([] ++ d.snd.fst ++ d.snd.snd.fst) x) = false →
  (U.clash ([] ++ d.snd.fst ++ d.snd.snd.fst) = true → ([], (22 : Int), ()) = (U.mergedR d.fst d.snd.fst d.snd.snd.fst, U.mergeErrR d.fst d.snd.fst d.snd.snd.fst, ())) ∧
  (U.clash ([] ++ d.snd.fst ++ d.snd.snd.fst) = false →
  ([] ++ d.snd.fst ++ d.snd.snd.fst).length ≤ (100000 : Nat) ∧
  (U.srt ([] ++ d.snd.fst ++ d.snd.snd.fst), (0 : Int), ()) = (U.mergedR d.fst d.snd.fst d.snd.snd.fst, U.mergeErrR d.fst d.snd.fst d.snd.snd.fst, ()))))))

theorem vc39_eq : fnVC (ctx 64 [(38, sp38), (65, sp65), (66, sp66)] []) (an39) Try.f39 (bodyOf Try.f39) sp39 = vc39 := by kernel_rfl


def sp40 : Spec := ⟨[.val tF, .val tL], [tL, .int], false, fun d => [d.2.1.length ≤ 100000], fun d => (U.heldR d.1 d.2.1, U.check d.1 d.2.1, ())⟩
def vc40 : Prop :=
  ∀ (d : (List Int × Int × Unit) × List (Int × Int × Int × Int × Int × Int × Unit) × Unit),
  d.snd.fst.length ≤ (100000 : Nat) →
  (decide (U.check (d.fst.fst, d.fst.snd.fst, ()) d.snd.fst ≠ (0 : Int)) = true → ([], U.check (d.fst.fst, d.fst.snd.fst, ()) d.snd.fst, ()) = (U.heldR d.fst d.snd.fst, U.check d.fst d.snd.fst, ())) ∧
  (decide (U.check (d.fst.fst, d.fst.snd.fst, ()) d.snd.fst ≠ (0 : Int)) = false → d.snd.fst.length ≤ (100000 : Nat) ∧ (U.held d.snd.fst, (0 : Int), ()) = (U.heldR d.fst d.snd.fst, U.check d.fst d.snd.fst, ()))

theorem vc40_eq : fnVC (ctx 15 [(38, sp38), (43, sp43)] []) (fun _ => none) Try.f40 (bodyOf Try.f40) sp40 = vc40 := by kernel_rfl


def sp11 : Spec := lawSpec [tF, .slice tG, .slice tG]
def vc11 : Prop :=
  ∀ (d : (List Int × Int × Unit) × List (Int × Int × Int × Int × Int × Int × Unit) × List (Int × Int × Int × Int × Int × Int × Unit) × Unit),
  fitsAll (1048576 : Nat)
  [Ty.int.slice.pair (Ty.int.pair Ty.unit), (Ty.int.pair (Ty.int.pair (Ty.int.pair (Ty.int.pair (Ty.int.pair (Ty.int.pair Ty.unit)))))).slice,
  (Ty.int.pair (Ty.int.pair (Ty.int.pair (Ty.int.pair (Ty.int.pair (Ty.int.pair Ty.unit)))))).slice]
  d →
  ((U.far (d.fst.fst, d.fst.snd.fst, ()) d.snd.fst || U.far (d.fst.fst, d.fst.snd.fst, ()) d.snd.snd.fst) = true → (true, ()) = (true, ())) ∧
  ((U.far (d.fst.fst, d.fst.snd.fst, ()) d.snd.fst || U.far (d.fst.fst, d.fst.snd.fst, ()) d.snd.snd.fst) = false →
  d.fst.fst.length ≤ (2000000 : Nat) ∧
  d.snd.fst.length ≤ (2000000 : Nat) ∧
  d.snd.snd.fst.length ≤ (2000000 : Nat) ∧
  (decide (U.check (d.fst.fst, d.fst.snd.fst, ()) d.snd.fst ≠ U.check (d.fst.fst, d.fst.snd.fst, ()) d.snd.fst) = true → (false, ()) = (true, ())) ∧
  (decide (U.check (d.fst.fst, d.fst.snd.fst, ()) d.snd.fst ≠ U.check (d.fst.fst, d.fst.snd.fst, ()) d.snd.fst) = false →
  List.length (U.merged (d.fst.fst, d.fst.snd.fst, ()) d.snd.fst d.snd.snd.fst) ≤ (100000 : Nat) ∧
  ((!U.sameL (U.merged (d.fst.fst, d.fst.snd.fst, ()) d.snd.fst d.snd.snd.fst) (U.mergedR (d.fst.fst, d.fst.snd.fst, ()) d.snd.fst d.snd.snd.fst) ||
  decide (U.mergeErr (d.fst.fst, d.fst.snd.fst, ()) d.snd.fst d.snd.snd.fst ≠ U.mergeErrR (d.fst.fst, d.fst.snd.fst, ()) d.snd.fst d.snd.snd.fst)) =
  true →
  (false, ()) = (true, ())) ∧
  ((!U.sameL (U.merged (d.fst.fst, d.fst.snd.fst, ()) d.snd.fst d.snd.snd.fst) (U.mergedR (d.fst.fst, d.fst.snd.fst, ()) d.snd.fst d.snd.snd.fst) ||
  decide (U.mergeErr (d.fst.fst, d.fst.snd.fst, ()) d.snd.fst d.snd.snd.fst ≠ U.mergeErrR (d.fst.fst, d.fst.snd.fst, ()) d.snd.fst d.snd.snd.fst)) =
  false →
  (U.check (d.fst.fst, d.fst.snd.fst, ()) d.snd.fst = (0 : Int) → U.few d.snd.fst) ∧
  d.snd.fst.length ≤ (100000 : Nat) ∧
  List.length (U.heldP (d.fst.fst, d.fst.snd.fst, ()) d.snd.fst) ≤ (100000 : Nat) ∧
  ((U.sameL (U.heldP (d.fst.fst, d.fst.snd.fst, ()) d.snd.fst) (U.heldR (d.fst.fst, d.fst.snd.fst, ()) d.snd.fst) &&
  decide (U.check (d.fst.fst, d.fst.snd.fst, ()) d.snd.fst = U.check (d.fst.fst, d.fst.snd.fst, ()) d.snd.fst)) =
  true →
  d.snd.fst.length ≤ (100000 : Nat)) ∧
  ((U.sameL (U.heldP (d.fst.fst, d.fst.snd.fst, ()) d.snd.fst) (U.heldR (d.fst.fst, d.fst.snd.fst, ()) d.snd.fst) &&
  decide (U.check (d.fst.fst, d.fst.snd.fst, ()) d.snd.fst = U.check (d.fst.fst, d.fst.snd.fst, ()) d.snd.fst) &&
  U.sameL d.snd.fst d.snd.fst) =
  true →
  d.snd.snd.fst.length ≤ (100000 : Nat)) ∧
  (U.sameL (U.heldP (d.fst.fst, d.fst.snd.fst, ()) d.snd.fst) (U.heldR (d.fst.fst, d.fst.snd.fst, ()) d.snd.fst) &&
  decide (U.check (d.fst.fst, d.fst.snd.fst, ()) d.snd.fst = U.check (d.fst.fst, d.fst.snd.fst, ()) d.snd.fst) &&
  U.sameL d.snd.fst d.snd.fst &&
  U.sameL d.snd.snd.fst d.snd.snd.fst &&
  true,
  ()) =
  (true, ()))))

theorem vc11_eq : fnVC (ctx 96 [(24, sp24), (15, sp15), (25, sp25), (37, sp37), (38, sp38), (36, sp36), (39, sp39), (33, sp33), (35, sp35), (40, sp40)] [(12, so12)]) (fun _ => none) Try.f11 (bodyOf Try.f11) sp11 = vc11 := by kernel_rfl


end Go.X
/-
  The statement 'GlossesHeld' is true of what the program computes.
-/
namespace Go.X
open Go.Proofs

namespace M

theorem mput_has {kt : Ty} {β : Type} (k : kt.Data) (v : β) : ∀ m : List (kt.Data × β), k ∈ (mput kt k v m).map (·.1)
  | [] => by
    rw [show mput kt k v [] = [(k, v)] from rfl]; simp
  | e :: r => by
    rw [mput_cons]
    by_cases h : @decide (k = e.1) (kt.decEq k e.1) = true
    · rw [if_pos h]; simp
    · rw [if_neg h, List.map_cons, List.mem_cons]
      exact .inr (mput_has k v r)

theorem count_step (l : LG) {i : Nat} (h : i < l.length) :
    (nth l i ∈ (U.countTo l i).map (·.1) → (U.countTo l (i + 1)).map (·.1) = (U.countTo l i).map (·.1)) ∧ (nth l i ∉ (U.countTo l i).map (·.1) → (U.countTo l (i + 1)).map (·.1) = (U.countTo l i).map (·.1) ++ [nth l i]) := by
  rw [countTo_succ h]
  unfold U.count1
  have hh := mput_has (kt := tG) (nth l i) (mvalD 0 (mfind tG (nth l i) (U.countTo l i)) + 1) (U.countTo l i)
  rcases mput_fst (kt := tG) (nth l i) (mvalD 0 (mfind tG (nth l i) (U.countTo l i)) + 1) (U.countTo l i) with e | ⟨e1, e2⟩
  · exact ⟨fun _ => e, fun hn => absurd (by rw [← e]; exact hh) hn⟩
  · exact ⟨fun hy => absurd hy e1, fun _ => e2⟩

theorem first_iff (l : LG) (i : Nat) : U.firstTo l i i = true ↔ nth l i ∉ l.take i := by
  unfold U.firstTo U.diffG
  rw [List.all_eq_true]
  constructor
  · intro h hm
    have := h _ hm
    simp at this
  · intro h x hx
    rw [Bool.not_eq_true', decide_eq_false_iff_not]
    intro e
    exact h (e ▸ hx)

theorem count_diff (l : LG) : ∀ i, i ≤ l.length → ((U.countTo l i).length : Int) = U.diffTo l i ∧ ∀ g, g ∈ (U.countTo l i).map (·.1) ↔ g ∈ l.take i
  | 0, _ => ⟨rfl, fun g => by simp [U.countTo]⟩
  | i + 1, hi => by
    obtain ⟨i1, i2⟩ := count_diff l i (by omega)
    obtain ⟨s1, s2⟩ := count_step l (i := i) (by omega)
    have hlen : ∀ j, ((U.countTo l j).map (·.1)).length = (U.countTo l j).length := fun j => List.length_map _
    rw [show U.diffTo l (i + 1) = if U.firstTo l i i = true then U.diffTo l i + 1 else U.diffTo l i from rfl]
    by_cases hm : nth l i ∈ l.take i
    · have e := s1 ((i2 _).2 hm)
      have hf : ¬ U.firstTo l i i = true := fun hf => (first_iff l i).1 hf hm
      rw [if_neg hf, ← hlen, e, hlen]
      refine ⟨i1, fun g => ?_⟩
      rw [i2, L.take_succ (by omega), List.mem_append]
      constructor
      · exact .inl
      · rintro (h | h)
        · exact h
        · have : g = nth l i := by simpa using h
          subst this; exact hm
    · have e := s2 (fun h => hm ((i2 _).1 h))
      rw [if_pos ((first_iff l i).2 hm), ← hlen, e, List.length_append, hlen]
      refine ⟨by simp; omega, fun g => ?_⟩
      rw [List.mem_append, i2, L.take_succ (by omega), List.mem_append]

theorem merge_err (f : FD) (a b : LG) : U.mergeErr f a b = U.mergeErrR f a b := by
  unfold U.mergeErr U.mergeErrR
  by_cases ca : U.check f a ≠ 0
  · rw [if_pos ca, if_pos ca]
  rw [if_neg ca, if_neg ca]
  by_cases cb : U.check f b ≠ 0
  · rw [if_pos cb, if_pos cb]
  rw [if_neg cb, if_neg cb, flat_two, fill_two]
  have hd := (count_diff (a ++ b) _ (Nat.le_refl _)).1
  by_cases h : 40 < U.diffTo (a ++ b) (a ++ b).length
  · rw [if_pos h, if_pos (by omega)]
  rw [if_neg h, if_neg (by omega)]
  by_cases hc : U.clash (a ++ b) = true
  · rw [if_pos hc, if_pos ((fill_clash _).2 hc)]
  · rw [if_neg hc, if_neg (fun hw => hc ((fill_clash _).1 hw))]

theorem merged_same (f : FD) (a b : LG) : U.merged f a b = U.mergedR f a b := by
  unfold U.merged U.mergedR
  rw [merge_err]
  by_cases h : U.mergeErrR f a b = 0
  · rw [if_pos h, if_pos h, fill_two]
    have hc : U.clash (a ++ b) = false := by
      cases e : U.clash (a ++ b) with
      | false => rfl
      | true =>
        exfalso
        unfold U.mergeErrR at h
        by_cases ca : U.check f a ≠ 0
        · rw [if_pos ca] at h; exact ca h
        rw [if_neg ca] at h
        by_cases cb : U.check f b ≠ 0
        · rw [if_pos cb] at h; exact cb h
        rw [if_neg cb, e] at h
        split at h
        · cases h
        · simp at h
    exact msgs_srt hc
  · rw [if_neg h, if_neg h]

theorem diff_in (l : LG) : ∀ i, 0 ≤ U.diffTo l i ∧ U.diffTo l i ≤ (i : Int)
  | 0 => ⟨Int.le_refl 0, Int.le_refl 0⟩
  | i + 1 => by
    have ih := diff_in l i
    rw [show U.diffTo l (i + 1) = if U.firstTo l i i = true then U.diffTo l i + 1 else U.diffTo l i from rfl]
    split <;> omega

theorem merged_len {f : FD} {a b : LG} : (U.merged f a b).length ≤ 100000 := by
  unfold U.merged
  split
  · rename_i h
    have ca : U.check f a = 0 := by
      unfold U.mergeErr at h
      by_cases ca : U.check f a ≠ 0
      · rw [if_pos ca] at h; exact h
      · exact Classical.byContradiction ca
    have cb : U.check f b = 0 := by
      unfold U.mergeErr at h
      rw [if_neg (by rw [ca]; simp)] at h
      by_cases cb : U.check f b ≠ 0
      · rw [if_pos cb] at h; exact h
      · exact Classical.byContradiction cb
    have la := (ok_of ca).len
    have lb := (ok_of cb).len
    have := (mapOf_fill (a ++ b)).len
    rw [(isort_perm _ _).length_eq, fill_two]
    simp only [U.vals, List.length_map]
    rw [List.length_append] at this
    omega
  · simp

end M

theorem h39 : vc39 := by
  rintro ⟨⟨fr, s, ⟨⟩⟩, a, b, ⟨⟩⟩
  simp only [List.nil_append]
  refine ⟨fun h => ?_, fun ha => ⟨fun h => ?_, fun hb => ?_⟩⟩
  · have h : U.check (fr, s, ()) a ≠ 0 := of_decide_eq_true h
    have e : U.mergeErrR (fr, s, ()) a b = U.check (fr, s, ()) a := by unfold U.mergeErrR; rw [if_pos h]
    unfold U.mergedR
    rw [e, if_neg h]
  · have h : U.check (fr, s, ()) b ≠ 0 := of_decide_eq_true h
    have ha := of_decide_eq_false ha
    have e : U.mergeErrR (fr, s, ()) a b = U.check (fr, s, ()) b := by unfold U.mergeErrR; rw [if_neg ha, if_pos h]
    unfold U.mergedR
    rw [e, if_neg h]
  · have ha := of_decide_eq_false ha
    have hb := of_decide_eq_false hb
    have la := (ok_of (Classical.byContradiction ha)).len
    have lb := (ok_of (Classical.byContradiction hb)).len
    have e0 : ∀ F : LG, F = a ++ b → U.mergeErrR (fr, s, ()) a b = if 40 < U.diffTo F F.length then 2 else if U.clash F = true then 22 else 0 := by
      rintro F rfl
      unfold U.mergeErrR
      rw [if_neg ha, if_neg hb]
    have e1 : ∀ F : LG, F = a ++ b → U.mergedR (fr, s, ()) a b = if U.mergeErrR (fr, s, ()) a b = 0 then U.srt F else [] := by
      rintro F rfl
      rfl
    have hF : (a ++ b).length ≤ 80 := by rw [List.length_append]; omega
    refine ⟨by omega, by omega, ?_⟩
    have e0 := e0 (a ++ b) rfl
    have e1 := e1 (a ++ b) rfl
    refine ⟨⟨0, ⟨⟨rfl, rfl, trivial⟩, trivial⟩, Nat.zero_le _⟩, fun x hx _ => ⟨fun hc => ?_, fun hc => ?_⟩⟩
    · have hc : x < (a ++ b).length := by have := of_decide_eq_true hc; omega
      simp only [Int.toNat_natCast]
      refine ⟨⟨0, ⟨⟨rfl, rfl, trivial⟩, trivial⟩, Nat.zero_le _⟩, fun k hk => ⟨fun hd => ?_, fun hd => ?_⟩⟩
      · have hd : k < x := by have := of_decide_eq_true hd; omega
        refine ⟨fun _ => by omega, fun _ => by omega, fun _ => by omega, fun _ => by omega, L.in64 (by omega) (by omega), k + 1, ⟨⟨by simp, ?_, trivial⟩, trivial⟩, by omega, by omega⟩
        unfold U.firstTo
        rw [L.take_succ (by omega), List.all_append]
        simp [U.diffG]
      · have hd : ¬ k < x := by have := of_decide_eq_false hd; omega
        have e : k = x := by omega
        subst e
        have hdi := M.diff_in (a ++ b) k
        refine ⟨fun h => ⟨L.in64 (by omega) (by omega), L.in64 (by omega) (by omega), k + 1, ⟨⟨by simp, ?_, trivial⟩, trivial⟩, by omega, by omega⟩, fun h => ⟨L.in64 (by omega) (by omega), k + 1, ⟨⟨?_, by simp, trivial⟩, trivial⟩, by omega, by omega⟩⟩
        · rw [show U.diffTo (a ++ b) (k + 1) = if U.firstTo (a ++ b) k k = true then U.diffTo (a ++ b) k + 1 else U.diffTo (a ++ b) k from rfl, if_pos h]
        · rw [show U.diffTo (a ++ b) (k + 1) = if U.firstTo (a ++ b) k k = true then U.diffTo (a ++ b) k + 1 else U.diffTo (a ++ b) k from rfl, h]; rfl
    · have hc : (a ++ b).length ≤ x := by have := of_decide_eq_false hc; omega
      have e : x = (a ++ b).length := by omega
      subst e
      refine ⟨fun h => ?_, fun h => ⟨fun hcl => ?_, fun hcl => ⟨by omega, ?_⟩⟩⟩
      · have h := of_decide_eq_true h
        rw [if_pos h] at e0
        rw [e1, e0]; rfl
      · have h := of_decide_eq_false h
        rw [if_neg h, if_pos hcl] at e0
        rw [e1, e0]; rfl
      · have h := of_decide_eq_false h
        rw [if_neg h, if_neg (by rw [hcl]; simp)] at e0
        rw [e1, e0]; rfl

theorem ok39 : FnOK PR 39 sp39 := mkFn (vc39_eq.mpr h39) Try.func39 (by kernel_rfl) (by kernel_rfl) (by kernel_rfl) (by kernel_rfl) ⟨fun _ => ok38, fun _ => ok65, fun _ => ok66, trivial⟩ trivial

theorem h40 : vc40 := by
  rintro ⟨⟨fr, s, ⟨⟩⟩, l, ⟨⟩⟩ hl
  simp only at hl ⊢
  refine ⟨fun h => ?_, fun h => ⟨hl, ?_⟩⟩
  · have h : U.check (fr, s, ()) l ≠ 0 := of_decide_eq_true h
    unfold U.heldR
    rw [if_neg h]
  · have h : U.check (fr, s, ()) l = 0 := Classical.byContradiction (of_decide_eq_false h)
    unfold U.heldR
    rw [if_pos h, h]

theorem ok40 : FnOK PR 40 sp40 := mkFn (vc40_eq.mpr h40) Try.func40 (by kernel_rfl) (by kernel_rfl) (by kernel_rfl) (by kernel_rfl) ⟨fun _ => ok38, fun _ => ok43, trivial⟩ trivial

theorem h11 : vc11 := by
  rintro ⟨⟨fr, s, ⟨⟩⟩, a, b, ⟨⟩⟩ hfit
  have hl1 : fr.length ≤ 1048576 := hfit.1.1.1
  simp only
  refine ⟨fun _ => trivial, fun hfar => ?_⟩
  rw [Bool.or_eq_false_iff] at hfar
  obtain ⟨fa, fb⟩ := hfar
  unfold U.far at fa fb
  rw [Bool.or_eq_false_iff, decide_eq_false_iff_not] at fa fb
  have la : a.length ≤ 60 := by omega
  have lb : b.length ≤ 60 := by omega
  have hfew : U.check (fr, s, ()) a = 0 → U.few a := fun c => by
    have := (ok_of c).len
    exact M.few_of (fun g hg => hg) (by omega)
  have hh : U.heldP (fr, s, ()) a = U.heldR (fr, s, ()) a := by
    unfold U.heldP U.heldR
    by_cases c : U.check (fr, s, ()) a = 0
    · rw [if_pos c, if_pos c, M.held_eq (ok_of c)]
    · rw [if_neg c, if_neg c]
  have hhl : (U.heldR (fr, s, ()) a).length ≤ 100000 := by
    unfold U.heldR
    split
    · have := held_len a; omega
    · simp
  have hml := M.merged_len (f := (fr, s, ())) (a := a) (b := b)
  rw [hh, ← M.merge_err, ← M.merged_same, sameL_iff.2 rfl, sameL_iff.2 rfl, sameL_iff.2 rfl, sameL_iff.2 rfl]
  refine ⟨by omega, by omega, by omega, fun h => absurd rfl (of_decide_eq_true h), fun _ => ⟨hml, fun h => ?_, fun _ => ⟨hfew, by omega, hhl, fun _ => by omega, fun _ => by omega, by simp⟩⟩⟩
  simp at h

theorem ok11 : FnOK PR 11 sp11 := mkFn (vc11_eq.mpr h11) Try.func11 (by kernel_rfl) (by kernel_rfl) (by kernel_rfl) (by kernel_rfl) ⟨fun _ => ok24, fun _ => ok15, fun _ => ok25, fun _ => ok37, fun _ => ok38, fun _ => ok36, fun _ => ok39, fun _ => ok33, fun _ => ok35, fun _ => ok40, trivial⟩ ⟨ok12, trivial⟩

end Go.X
