/-
  Signs: the entries of a book, by iterators: what is asked.
-/
import Derived.Test.YtafidkjlgchbbaaGreatG1
namespace Go.X
open Go.Proofs

/-! maps.Values -/
def an121 : AnnZ (YS [tE]) := fun r => match r with
  | 1 => some fun σ _ => { X := Bk × List (Ty.st [tE]).Data, sl := fun _ => [], ob := fun x => [(6, some (.iter .int tE x.1 none))], ys := fun x => (x.2, true), inv := fun x => (x.2.map (·.1) ++ U.vals x.1).Perm (U.vals (gmI σ 6)), mu := fun x => x.1.length }
  | _ => none
def LV (d : PD [.ref tM]) (xs : List (Ty.st [tE]).Data) : Prop := (xs.map (·.1)).Perm (U.vals d.1)
def vc121 : Prop :=
  ∀ (d : List (Int × ED) × Unit) (l : Nat),
  (∃ (x : List (Int × ED) × List (ED × Unit)),
  (True ∧ d.1 = x.1 ∧ True) ∧
  ([], true) = (x.2, true) ∧ (List.map (fun (x : ED × Unit) => x.1) x.2 ++ U.vals x.1).Perm (U.vals d.1)) ∧
  ∀ (x : List (Int × ED) × List (ED × Unit)),
  (List.map (fun (x : ED × Unit) => x.1) x.2 ++ U.vals x.1).Perm (U.vals d.1) →
  (x.1 = [] →
  (false = true → False) ∧ (false = false → true = true → (List.map (fun (x : ED × Unit) => x.1) x.2).Perm (U.vals d.1))) ∧
  ∀ (pre : List (Int × ED)) (x_2 : Int × ED)
  (post : List (Int × ED)),
  x.1 = pre ++ x_2 :: post →
  (true = true →
  l = l ∧
  (∃ (rest : List (ED × Unit)),
  (List.map (fun (x : ED × Unit) => x.1) (x.2 ++ [(x_2.2, ())] ++ rest)).Perm (U.vals d.1)) ∧
  (((!true) = true →
  true = true → (List.map (fun (x : ED × Unit) => x.1) (x.2 ++ [(x_2.2, ())])).Perm (U.vals d.1)) ∧
  ((!true) = false →
  ∃ (x' :
  List (Int × ED) ×
  List (ED × Unit)),
  (True ∧ pre ++ post = x'.1 ∧ True) ∧
  (x.2 ++ [(x_2.2, ())], true) = (x'.2, true) ∧
  (List.map (fun (x : ED × Unit) => x.1) x'.2 ++ U.vals x'.1).Perm (U.vals d.1) ∧
  x'.1.length < x.1.length)) ∧
  ((!false) = true →
  false = true → (List.map (fun (x : ED × Unit) => x.1) (x.2 ++ [(x_2.2, ())])).Perm (U.vals d.1)) ∧
  ((!false) = false →
  ∃ (x' :
  List (Int × ED) ×
  List (ED × Unit)),
  (True ∧ pre ++ post = x'.1 ∧ True) ∧
  (x.2 ++ [(x_2.2, ())], false) = (x'.2, true) ∧
  (List.map (fun (x : ED × Unit) => x.1) x'.2 ++ U.vals x'.1).Perm (U.vals d.1) ∧
  x'.1.length < x.1.length)) ∧
  (true = false → true = true → (List.map (fun (x : ED × Unit) => x.1) x.2).Perm (U.vals d.1))

theorem vc121_eq : (seqVC (ctx 15 [] []) (bodyOf Tryz.f121) [tE] [.ref tM] LV (fun _ => []) (fun _ _ => an121) (fun d l => hkY [tE] l [13] (fun q => ∃ rest, LV d (q ++ rest)) (fun _ => none))) = vc121 := by kernel_rfl


def sc100 : CSpec := ⟨[.val tM], fun _ => [], 121, [tM], fun d => (d.1, ())⟩
def vc100 : Prop :=
  ∀ (d : List (Int × ED) × Unit), d = d

theorem vc100_eq : (cfnVC (ctx 4 [] []) (fun _ => none) Tryz.f100 (bodyOf Tryz.f100) sc100) = vc100 := by kernel_rfl


/-! slices.AppendSeq, Collect -/
def shE : Sh := .cl (.row 44 tE .unk)
def rg141 : RngS tE := { ps := [.own (.box 22 [.row 44 tE .unk]) true], slots := [2], dst := 20, pre := fun _ => [], G := fun d q => ((d.1.1 ++ q.map (·.1), ()), ()), seq := fun sv => match sv with
  | .clo 121 [.ep t m] => (match cast? t tM m with
    | some m' => some (True, fun xs => (xs.map (·.1)).Perm (U.vals m'))
    | none => none)
  | _ => none }
def tb141 : Nat → Option ((t : Ty) × RngS t) := fun r => match r with
  | 3 => some ⟨tE, rg141⟩
  | _ => none
def rs141 : RSpec := ⟨[none, some (121, 1)], [.nil, .ref tM], [shE], fun d => [d.2.1.length ≤ 100000], fun d r => r.1.1.Perm (U.vals d.2.1)⟩
def rs119 : RSpec := ⟨[some (121, 1)], [.ref tM], [shE], fun d => [d.1.length ≤ 100000], fun d r => r.1.1.Perm (U.vals d.1)⟩
def rs99 : RSpec := ⟨[some (121, 1), none], [.ref tM, .fn [tE, tE] [.int]], [shE], fun d => [d.1.length ≤ 100000, ∀ x, x ∈ U.vals d.1 → ∀ y, y ∈ U.vals d.1 → U.allP (d.2.1.pre (x, y, ())), OrdOn (U.lessF tE d.2.1.F) (U.vals d.1)], fun d r => r.1.1 = U.sortBy (U.lessF tE d.2.1.F) (U.vals d.1)⟩
def ar141 (d : OD rs141.ps) : List SV := [.lit (.slice none 0 0), .clo 121 [.ep tM d.2.1]]
def vc141 : Prop :=
  ∀ (d : Unit × List (Int × ED) × Unit),
  d.2.1.length ≤ 100000 ∧ True →
  True ∧
  True ∧
  (([] ++ List.map (fun (x : ED × Unit) => x.1) [], ()), ()) = (([], ()), ()) ∧
  (∀ (q : List (ED × Unit))
  (x : ED × Unit)
  (rest : List (ED × Unit)),
  (List.map (fun (x : ED × Unit) => x.1) (q ++ x :: rest)).Perm (U.vals d.2.1) →
  (([] ++ List.map (fun (x : ED × Unit) => x.1) q).length + [x.1].length) * 104 ≤ 140737488355328 ∧
  (([] ++ List.map (fun (x : ED × Unit) => x.1) q ++ [x.1], ()), ()) =
  (([] ++ List.map (fun (x : ED × Unit) => x.1) (q ++ [x]), ()), ())) ∧
  ∀ (xs : List (ED × Unit)),
  (List.map (fun (x : ED × Unit) => x.1) xs).Perm (U.vals d.2.1) →
  ∃ (_ : Unit), ([] ++ List.map (fun (x : ED × Unit) => x.1) xs).Perm (U.vals d.2.1)

theorem vc141_eq : (rokVC (ctx 13 [] []) (fun _ => none) (hkC (ctx 13 [] []) (fun _ => none) tb141 [] []) Tryz.f141 (bodyOf Tryz.f141) rs141 ar141) = vc141 := by kernel_rfl

def ar119 (d : OD rs119.ps) : List SV := [.clo 121 [.ep tM d.1]]
def vc119 : Prop :=
  ∀ (d : List (Int × ED) × Unit),
  d.1.length ≤ 100000 ∧ True →
  (d.1.length ≤ 100000 ∧ True) ∧
  ∀ (r : (List ED × Unit) × Unit), r.1.1.Perm (U.vals d.1) → ∃ (_ : Unit), r.1.1.Perm (U.vals d.1)

theorem vc119_eq : (rokVC (ctx 5 [] []) (fun _ => none) (hkC (ctx 5 [] []) (fun _ => none) tbl0 [4] [(141, 20, rs141)]) Tryz.f119 (bodyOf Tryz.f119) rs119 ar119) = vc119 := by kernel_rfl

def ar99 (d : OD rs99.ps) : List SV := [.clo 121 [.ep tM d.1], .fn [tE, tE] [.int] d.2.1.pre d.2.1.F]
def vc99 : Prop :=
  ∀ (d : List (Int × ED) × FnD [tE, tE] [Ty.int] × Unit),
  d.1.length ≤ 100000 ∧
  (∀ (x : ED),
  x ∈ U.vals d.1 → ∀ (y : ED), y ∈ U.vals d.1 → U.allP (d.2.1.1 (x, y, ()))) ∧
  OrdOn (U.lessF (Ty.int.pair (Ty.int.pair (Ty.int.pair ((Ty.int.pair (Ty.int.pair (Ty.int.pair (Ty.int.pair (Ty.int.pair (Ty.int.slice.pair Ty.unit)))))).pair ((Ty.int.pair (Ty.int.pair Ty.unit)).pair Ty.unit))))) d.2.1.2)
  (U.vals d.1) ∧
  True →
  (d.1.length ≤ 100000 ∧ True) ∧
  ∀ (r : (List ED × Unit) × Unit),
  r.1.1.Perm (U.vals d.1) →
  (∀ (x : ED),
  x ∈ r.1.1 → ∀ (y : ED), y ∈ r.1.1 → U.allP (d.2.1.1 (x, y, ()))) ∧
  OrdOn (U.lessF (Ty.int.pair (Ty.int.pair (Ty.int.pair ((Ty.int.pair (Ty.int.pair (Ty.int.pair (Ty.int.pair (Ty.int.pair (Ty.int.slice.pair Ty.unit)))))).pair ((Ty.int.pair (Ty.int.pair Ty.unit)).pair Ty.unit))))) d.2.1.2)
  r.1.1 ∧
  ∃ (_ : Unit),
  U.sortBy
  (U.lessF (Ty.int.pair (Ty.int.pair (Ty.int.pair ((Ty.int.pair (Ty.int.pair (Ty.int.pair (Ty.int.pair (Ty.int.pair (Ty.int.slice.pair Ty.unit)))))).pair ((Ty.int.pair (Ty.int.pair Ty.unit)).pair Ty.unit))))) d.2.1.2)
  r.1.1 =
  U.sortBy
  (U.lessF (Ty.int.pair (Ty.int.pair (Ty.int.pair ((Ty.int.pair (Ty.int.pair (Ty.int.pair (Ty.int.pair (Ty.int.pair (Ty.int.slice.pair Ty.unit)))))).pair ((Ty.int.pair (Ty.int.pair Ty.unit)).pair Ty.unit))))) d.2.1.2)
  (U.vals d.1)

theorem vc99_eq : (rokVC (ctx 12 [] [(120, soSort tE 44)]) (fun _ => none) (hkC (ctx 12 [] [(120, soSort tE 44)]) (fun _ => none) tbl0 [7] [(119, 20, rs119)]) Tryz.f99 (bodyOf Tryz.f99) rs99 ar99) = vc99 := by kernel_rfl


def sp60 : Spec := ⟨[.val tM, .fn [tE, tE] [.int]], [.slice tE], false, fun d => [d.1.length ≤ 100000, ∀ x, x ∈ U.vals d.1 → ∀ y, y ∈ U.vals d.1 → U.allP (d.2.1.pre (x, y, ())), OrdOn (U.lessF tE d.2.1.F) (U.vals d.1)], fun d => (U.sortBy (U.lessF tE d.2.1.F) (U.vals d.1), ())⟩
def vc60 : Prop :=
  ∀ (d : List (Int × ED) × FnD [tE, tE] [Ty.int] × Unit),
  d.1.length ≤ 100000 →
  (∀ (x : ED),
  x ∈ U.vals d.1 → ∀ (y : ED), y ∈ U.vals d.1 → U.allP (d.2.1.1 (x, y, ()))) →
  OrdOn (U.lessF (Ty.int.pair (Ty.int.pair (Ty.int.pair ((Ty.int.pair (Ty.int.pair (Ty.int.pair (Ty.int.pair (Ty.int.pair (Ty.int.slice.pair Ty.unit)))))).pair ((Ty.int.pair (Ty.int.pair Ty.unit)).pair Ty.unit))))) d.2.1.2)
  (U.vals d.1) →
  (d.1.length ≤ 100000 ∧
  (∀ (x : ED),
  x ∈ U.vals d.1 → ∀ (y : ED), y ∈ U.vals d.1 → U.allP (d.2.1.1 (x, y, ()))) ∧
  OrdOn (U.lessF (Ty.int.pair (Ty.int.pair (Ty.int.pair ((Ty.int.pair (Ty.int.pair (Ty.int.pair (Ty.int.pair (Ty.int.pair (Ty.int.slice.pair Ty.unit)))))).pair ((Ty.int.pair (Ty.int.pair Ty.unit)).pair Ty.unit))))) d.2.1.2)
  (U.vals d.1) ∧
  True) ∧
  ∀ (r : (List ED × Unit) × Unit),
  r.1.1 =
  U.sortBy
  (U.lessF (Ty.int.pair (Ty.int.pair (Ty.int.pair ((Ty.int.pair (Ty.int.pair (Ty.int.pair (Ty.int.pair (Ty.int.pair (Ty.int.slice.pair Ty.unit)))))).pair ((Ty.int.pair (Ty.int.pair Ty.unit)).pair Ty.unit))))) d.2.1.2)
  (U.vals d.1) →
  r.1 =
  (U.sortBy
  (U.lessF (Ty.int.pair (Ty.int.pair (Ty.int.pair ((Ty.int.pair (Ty.int.pair (Ty.int.pair (Ty.int.pair (Ty.int.pair (Ty.int.slice.pair Ty.unit)))))).pair ((Ty.int.pair (Ty.int.pair Ty.unit)).pair Ty.unit))))) d.2.1.2)
  (U.vals d.1),
  ())

theorem vc60_eq : (rfnVC (ctxx 9 [] [] [(100, sc100)] []) (fun _ => none) (hkC (ctxx 9 [] [] [(100, sc100)] []) (fun _ => none) tbl0 [8] [(99, 20, rs99)]) Tryz.f60 (bodyOf Tryz.f60) sp60) = vc60 := by kernel_rfl


end Go.X
/-
  Signs: the entries of a book, by iterators.
-/
namespace Go.X
open Go.Proofs

theorem vals_app (a b : Bk) : U.vals (a ++ b) = U.vals a ++ U.vals b := List.map_append
theorem h121 : vc121 := by
  intro d l
  refine ⟨⟨(d.1, []), ⟨trivial, rfl, trivial⟩, rfl, List.Perm.refl _⟩, fun x hx => ⟨fun h => ⟨fun h => (by cases h), fun _ _ => ?_⟩, fun pre y post h => ⟨fun _ => ?_, fun h => (by cases h)⟩⟩⟩
  · rw [h, show U.vals [] = [] from rfl, List.append_nil] at hx
    exact hx
  · rw [h] at hx
    have hp : ((x.2 ++ [(y.2, ())]).map (·.1) ++ U.vals (pre ++ post)).Perm (U.vals d.1) := by
      refine List.Perm.trans ?_ hx
      rw [vals_app, vals_app]
      show ((x.2 ++ [(y.2, ())]).map (·.1) ++ (U.vals pre ++ U.vals post)).Perm (x.2.map (·.1) ++ (U.vals pre ++ y.2 :: U.vals post))
      rw [List.map_append, List.append_assoc]
      refine List.Perm.append_left _ ?_
      show (y.2 :: (U.vals pre ++ U.vals post)).Perm _
      exact List.perm_middle.symm
    refine ⟨rfl, ⟨(U.vals (pre ++ post)).map (fun v => (v, ())), ?_⟩, ⟨fun h => (by cases h), fun _ => ⟨(pre ++ post, x.2 ++ [(y.2, ())]), ⟨trivial, rfl, trivial⟩, rfl, hp, ?_⟩⟩, fun _ h => (by cases h), fun h => (by cases h)⟩
    · rw [List.map_append, List.map_map]
      have : ((fun (p : ED × Unit) => p.fst) ∘ fun (v : ED) => (v, ())) = id := rfl
      rw [this, List.map_id]
      exact hp
    · show (pre ++ post).length < x.1.length
      rw [h]; simp

theorem seq121 {H : Imm} {lb : Array Value} {d : PD [.ref tM]} (hd : pvs PR H [.ref tM] lb.toList d) : SeqV PR H [tE] (LV d) (.func (.func 121) #[] lb) :=
  seq_ok (C := ctx 15 [] []) (ctx_ok trivial trivial) mixed Tryz.func121 (by kernel_rfl) (by kernel_rfl) (by kernel_rfl) (by kernel_rfl) (by decide) (vc121_eq.mpr h121) (fun d l B0 R Rx hR hRx hY => noRng hR hY) hd trivial

theorem h100 : vc100 := by intro d; rfl
theorem ok100 : CFnOK PR 100 sc100 := mkFnC (vc100_eq.mpr h100) Tryz.func100 (by kernel_rfl) (by kernel_rfl) (by kernel_rfl) (by kernel_rfl) trivial trivial

theorem h141 : vc141 := by
  intro d ⟨hm, _⟩
  refine ⟨trivial, trivial, rfl, fun q x rest h => ⟨?_, ?_⟩, fun xs h => ⟨(), by simpa using h⟩⟩
  · have h1 := h.length_eq
    unfold U.vals at h1
    simp only [List.length_map, List.length_append, List.length_cons] at h1
    have hm : d.2.1.length ≤ 100000 := hm
    simp only [List.nil_append, List.length_map, List.length_cons, List.length_nil]
    omega
  · simp
theorem h119 : vc119 := fun _ hm => ⟨hm, fun _ h => ⟨(), h⟩⟩
theorem h99 : vc99 := fun _ ⟨hm, h1, h2, _⟩ => ⟨⟨hm, trivial⟩, fun _ h => ⟨fun x hx y hy => h1 x (h.mem_iff.1 hx) y (h.mem_iff.1 hy), h2.perm h, (), sortBy_congr h2 h⟩⟩
theorem h60 : vc60 := fun d h1 h2 h3 => ⟨⟨h1, h2, h3, trivial⟩, fun r h => by obtain ⟨⟨l, ⟨⟩⟩, ⟨⟩⟩ := r; rw [show l = _ from h]⟩

/-- a closure over one variable -/
theorem den_clo1 {P : Program} {ρ : Env} {H : Imm} (hρ : ρ.H = H) {g : Nat} {t : Ty} {d : t.Data} {lb : Array Value} {w : World} {bs : List Nat} (ha : OArgs P H w [.ref t] lb.toList (d, ()) bs) : SV.den P ρ (.clo g [.ep t d]) (.func (.func g) #[] lb) := by
  subst hρ
  match e : lb.toList, ha with
  | [], ha => exact ha.elim
  | [x], ⟨_, _, _, ⟨h1, _⟩, _⟩ =>
    simp only [SV.den, SV.denL]
    exact ⟨lb, rfl, x, [], e, h1, rfl⟩
  | x :: y :: r, ⟨_, _, _, _, h2⟩ => cases h2.1

theorem one_of_size {lb : Array Value} (h : lb.size = 1) : ∃ x, lb.toList = [x] := by
  have h1 : lb.toList.length = 1 := by rw [Array.length_toList]; exact h
  exact List.length_eq_one_iff.1 h1

theorem no_rt : ∀ (f : Nat) (p : Nat × RSpec), look ([] : List (Nat × Nat × RSpec)) f = some p → ROK PR f p.2 := fun _ _ h => by cases h
theorem one_rt {g n : Nat} {s : RSpec} (h : ROK PR g s) : ∀ (f : Nat) (p : Nat × RSpec), look [(g, n, s)] f = some p → ROK PR f p.2 := by
  intro f p hl
  simp only [look] at hl
  split at hl
  · rename_i hb
    have := Nat.eq_of_beq_eq_true hb
    subst this
    simp at hl; subst hl; exact h
  · cases hl
theorem c0_ok (n : Nat) : (ctx n [] []).ok PR := ctx_ok trivial trivial

theorem ok141 : ROK PR 141 rs141 := by
  refine rok_of (body := bodyOf Tryz.f141) (C := ctx 13 [] []) (hk := hkC (ctx 13 [] []) (fun _ => none) tb141 [] []) (c0_ok 13) mixed Tryz.func141 (by kernel_rfl) (by kernel_rfl) (by kernel_rfl) (fun B => hkC_ok (c0_ok 13) mixed ?_ no_rt B) rfl (fun H w vals fl d bs hfl ha ρ hρ => ?_) (fun d => rfl) (vc141_eq.mpr h141)
  · intro k t rs sv pr L v ρ hk hs hpr hd
    unfold tb141 at hk
    split at hk
    case h_2 => cases hk
    simp only [Option.some.injEq] at hk
    cases hk
    simp only [rg141] at hs
    split at hs
    case h_2 => cases hs
    rename_i t m
    split at hs
    case h_2 => cases hs
    rename_i m' hm
    simp only [Option.some.injEq, Prod.mk.injEq] at hs
    obtain ⟨rfl, rfl⟩ := hs
    obtain ⟨e, rfl⟩ := cast?_some hm
    subst e
    simp only [SV.den, SV.denL] at hd
    obtain ⟨lb, rfl, x, r, hl, h1, h2⟩ := hd
    exact seq121 (d := (m, ())) (by rw [hl, h2]; exact ⟨h1, rfl⟩)
  · obtain ⟨v, vs', fl', rfl, rfl, lb, vs2, fl2, rfl, rfl, _, rfl, rfl⟩ := hfl
    obtain ⟨b1, b2, _, ⟨rfl, _⟩, ha⟩ := ha
    rw [List.append_nil] at ha
    refine ⟨_, _, rfl, rfl, _, _, rfl, den_clo1 hρ ha, rfl⟩

theorem ok119 : ROK PR 119 rs119 := by
  refine rok_of (body := bodyOf Tryz.f119) (C := ctx 5 [] []) (hk := hkC (ctx 5 [] []) (fun _ => none) tbl0 [4] [(141, 20, rs141)]) (c0_ok 5) mixed Tryz.func119 (by kernel_rfl) (by kernel_rfl) (by kernel_rfl) (fun B => hkC_ok (c0_ok 5) mixed tbl0_ok (one_rt ok141) B) rfl (fun H w vals fl d bs hfl ha ρ hρ => ?_) (fun d => rfl) (vc119_eq.mpr h119)
  obtain ⟨lb, vs2, fl2, rfl, rfl, _, rfl, rfl⟩ := hfl
  rw [List.append_nil] at ha
  exact ⟨_, _, rfl, den_clo1 hρ ha, rfl⟩

theorem cx99 : (ctx 12 [] [(120, soSort tE 44)]).ok PR := ctx_ok trivial ⟨ok120, trivial⟩
theorem cx60 : (ctxx 9 [] [] [(100, sc100)] []).ok PR := ctxx_ok trivial trivial ⟨ok100, trivial⟩ trivial
theorem ok99 : ROK PR 99 rs99 := by
  refine rok_of (body := bodyOf Tryz.f99) (C := ctx 12 [] [(120, soSort tE 44)]) (hk := hkC (ctx 12 [] [(120, soSort tE 44)]) (fun _ => none) tbl0 [7] [(119, 20, rs119)]) cx99 mixed Tryz.func99 (by kernel_rfl) (by kernel_rfl) (by kernel_rfl)
    (fun B => hkC_ok cx99 mixed tbl0_ok (one_rt ok119) B) rfl (fun H w vals fl d bs hfl ha ρ hρ => ?_) (fun d => rfl) (vc99_eq.mpr h99)
  obtain ⟨lb, vs2, fl2, rfl, rfl, hsz, v, vs3, fl3, rfl, rfl, rfl, rfl⟩ := hfl
  obtain ⟨x, hx⟩ := one_of_size hsz
  rw [hx] at ha
  obtain ⟨b1, b2, _, ⟨h1, _⟩, c1, c2, _, ⟨h2, _⟩, _⟩ := ha
  subst hρ
  refine ⟨_, _, rfl, ⟨lb, rfl, x, [], hx, h1, rfl⟩, _, _, rfl, h2, rfl⟩

theorem ok60 : FnOK PR 60 sp60 :=
  rfn_ok (body := bodyOf Tryz.f60) (C := ctxx 9 [] [] [(100, sc100)] []) (hk := hkC (ctxx 9 [] [] [(100, sc100)] []) (fun _ => none) tbl0 [8] [(99, 20, rs99)]) cx60 mixed Tryz.func60 (by kernel_rfl) (by kernel_rfl) (by kernel_rfl) (by decide)
    (fun B => hkC_ok cx60 mixed tbl0_ok (one_rt ok99) B) (vc60_eq.mpr h60)

end Go.X
/-
  Signs: the keys of a map, in order, by iterators: what is asked.
-/
namespace Go.X
open Go.Proofs

abbrev tMI : Ty := .map .int .int
abbrev MI : Type := List (Int × Int)
namespace U
def keys (m : MI) : List Int := m.map (·.1)
end U
/-- the map that an iterator runs over -/
def gmJ (σ : St) (o : Nat) : MI := match σ.obj o with
  | some (.iter kt vt l _) => (match cast? (.map kt vt) (.map .int .int) l with | some l' => l' | none => [])
  | _ => []
def an116 : AnnZ (YS [.int]) := fun r => match r with
  | 1 => some fun σ _ => { X := MI × List (Ty.st [.int]).Data, sl := fun _ => [], ob := fun x => [(5, some (.iter .int .int x.1 none))], ys := fun x => (x.2, true), inv := fun x => (x.2.map (·.1) ++ U.keys x.1).Perm (U.keys (gmJ σ 5)), mu := fun x => x.1.length }
  | _ => none
def LK (d : PD [.ref tMI]) (xs : List (Ty.st [.int]).Data) : Prop := (xs.map (·.1)).Perm (U.keys d.1)
def vc116 : Prop :=
  ∀ (d : List (Int × Int) × Unit) (l : Nat),
  (∃ (x : List (Int × Int) × List (Int × Unit)), (True ∧ d.1 = x.1 ∧ True) ∧ ([], true) = (x.2, true) ∧ (List.map (fun (x : Int × Unit) => x.1) x.2 ++ U.keys x.1).Perm (U.keys d.1)) ∧
  ∀ (x : List (Int × Int) × List (Int × Unit)),
  (List.map (fun (x : Int × Unit) => x.1) x.2 ++ U.keys x.1).Perm (U.keys d.1) →
  (x.1 = [] → (false = true → False) ∧ (false = false → true = true → (List.map (fun (x : Int × Unit) => x.1) x.2).Perm (U.keys d.1))) ∧
  ∀ (pre : List (Int × Int)) (x_2 : Int × Int) (post : List (Int × Int)),
  x.1 = pre ++ x_2 :: post →
  (true = true →
  l = l ∧
  (∃ (rest : List (Int × Unit)), (List.map (fun (x : Int × Unit) => x.1) (x.2 ++ [(x_2.1, ())] ++ rest)).Perm (U.keys d.1)) ∧
  (((!true) = true → true = true → (List.map (fun (x : Int × Unit) => x.1) (x.2 ++ [(x_2.1, ())])).Perm (U.keys d.1)) ∧
  ((!true) = false →
  ∃ (x' : List (Int × Int) × List (Int × Unit)),
  (True ∧ pre ++ post = x'.1 ∧ True) ∧
  (x.2 ++ [(x_2.1, ())], true) = (x'.2, true) ∧ (List.map (fun (x : Int × Unit) => x.1) x'.2 ++ U.keys x'.1).Perm (U.keys d.1) ∧ x'.1.length < x.1.length)) ∧
  ((!false) = true → false = true → (List.map (fun (x : Int × Unit) => x.1) (x.2 ++ [(x_2.1, ())])).Perm (U.keys d.1)) ∧
  ((!false) = false →
  ∃ (x' : List (Int × Int) × List (Int × Unit)),
  (True ∧ pre ++ post = x'.1 ∧ True) ∧
  (x.2 ++ [(x_2.1, ())], false) = (x'.2, true) ∧ (List.map (fun (x : Int × Unit) => x.1) x'.2 ++ U.keys x'.1).Perm (U.keys d.1) ∧ x'.1.length < x.1.length)) ∧
  (true = false → true = true → (List.map (fun (x : Int × Unit) => x.1) x.2).Perm (U.keys d.1))

theorem vc116_eq : (seqVC (ctx 14 [] []) (bodyOf Tryz.f116) [.int] [.ref tMI] LK (fun _ => []) (fun _ _ => an116) (fun d l => hkY [.int] l [12] (fun q => ∃ rest, LK d (q ++ rest)) (fun _ => none))) = vc116 := by kernel_rfl

def sc85 : CSpec := ⟨[.val tMI], fun _ => [], 116, [tMI], fun d => (d.1, ())⟩
def vc85 : Prop :=
  ∀ (d : List (Int × Int) × Unit), d = d

theorem vc85_eq : (cfnVC (ctx 4 [] []) (fun _ => none) Tryz.f85 (bodyOf Tryz.f85) sc85) = vc85 := by kernel_rfl

def shI : Sh := .cl (.row 3 .int .unk)
def rg138 : RngS .int := { ps := [.own (.box 25 [.row 3 .int .unk]) true], slots := [2], dst := 20, pre := fun _ => [], G := fun d q => ((d.1.1 ++ q.map (·.1), ()), ()), seq := fun sv => match sv with
  | .clo 116 [.ep t m] => (match cast? t tMI m with
    | some m' => some (True, fun xs => (xs.map (·.1)).Perm (U.keys m'))
    | none => none)
  | _ => none }
def tb138 : Nat → Option ((t : Ty) × RngS t) := fun r => match r with
  | 3 => some ⟨.int, rg138⟩
  | _ => none
def rs138 : RSpec := ⟨[none, some (116, 1)], [.nil, .ref tMI], [shI], fun d => [d.2.1.length ≤ 100000], fun d r => r.1.1.Perm (U.keys d.2.1)⟩
def rs114 : RSpec := ⟨[some (116, 1)], [.ref tMI], [shI], fun d => [d.1.length ≤ 100000], fun d r => r.1.1.Perm (U.keys d.1)⟩
def rs84 : RSpec := ⟨[some (116, 1)], [.ref tMI], [shI], fun d => [d.1.length ≤ 100000], fun d r => r.1.1 = U.sortI (U.keys d.1)⟩
def ar138 (d : OD rs138.ps) : List SV := [.lit (.slice none 0 0), .clo 116 [.ep tMI d.2.1]]
def vc138 : Prop :=
  ∀ (d : Unit × List (Int × Int) × Unit),
  d.2.1.length ≤ 100000 ∧ True →
  True ∧
  True ∧
  (([] ++ List.map (fun (x : Int × Unit) => x.1) [], ()), ()) = (([], ()), ()) ∧
  (∀ (q : List (Int × Unit)) (x : Int × Unit) (rest : List (Int × Unit)),
  (List.map (fun (x : Int × Unit) => x.1) (q ++ x :: rest)).Perm (U.keys d.2.1) →
  (([] ++ List.map (fun (x : Int × Unit) => x.1) q).length + [x.1].length) * 8 ≤ 140737488355328 ∧
  (([] ++ List.map (fun (x : Int × Unit) => x.1) q ++ [x.1], ()), ()) = (([] ++ List.map (fun (x : Int × Unit) => x.1) (q ++ [x]), ()), ())) ∧
  ∀ (xs : List (Int × Unit)), (List.map (fun (x : Int × Unit) => x.1) xs).Perm (U.keys d.2.1) → ∃ (_ : Unit), ([] ++ List.map (fun (x : Int × Unit) => x.1) xs).Perm (U.keys d.2.1)

theorem vc138_eq : (rokVC (ctx 13 [] []) (fun _ => none) (hkC (ctx 13 [] []) (fun _ => none) tb138 [] []) Tryz.f138 (bodyOf Tryz.f138) rs138 ar138) = vc138 := by kernel_rfl

def ar114 (d : OD rs114.ps) : List SV := [.clo 116 [.ep tMI d.1]]
def vc114 : Prop :=
  ∀ (d : List (Int × Int) × Unit), d.1.length ≤ 100000 ∧ True → (d.1.length ≤ 100000 ∧ True) ∧ ∀ (r : (List Int × Unit) × Unit), r.1.1.Perm (U.keys d.1) → ∃ (k : Unit), r.1.1.Perm (U.keys d.1)

theorem vc114_eq : (rokVC (ctx 5 [] []) (fun _ => none) (hkC (ctx 5 [] []) (fun _ => none) tbl0 [4] [(138, 20, rs138)]) Tryz.f114 (bodyOf Tryz.f114) rs114 ar114) = vc114 := by kernel_rfl

def ar84 (d : OD rs84.ps) : List SV := [.clo 116 [.ep tMI d.1]]
def vc84 : Prop :=
  ∀ (d : List (Int × Int) × Unit), d.1.length ≤ 100000 ∧ True → (d.1.length ≤ 100000 ∧ True) ∧ ∀ (r : (List Int × Unit) × Unit), r.1.1.Perm (U.keys d.1) → ∃ (k : Unit), U.sortI r.1.1 = U.sortI (U.keys d.1)

theorem vc84_eq : (rokVC (ctx 9 [] [(115, soSortI 3)]) (fun _ => none) (hkC (ctx 9 [] [(115, soSortI 3)]) (fun _ => none) tbl0 [5] [(114, 20, rs114)]) Tryz.f84 (bodyOf Tryz.f84) rs84 ar84) = vc84 := by kernel_rfl


end Go.X
/-
  Signs: the keys of a map, in order, by iterators.
-/
namespace Go.X
open Go.Proofs

theorem mkeys_app (a b : MI) : U.keys (a ++ b) = U.keys a ++ U.keys b := List.map_append
theorem h116 : vc116 := by
  intro d l
  refine ⟨⟨(d.1, []), ⟨trivial, rfl, trivial⟩, rfl, List.Perm.refl _⟩, fun x hx => ⟨fun h => ⟨fun h => (by cases h), fun _ _ => ?_⟩, fun pre y post h => ⟨fun _ => ?_, fun h => (by cases h)⟩⟩⟩
  · rw [h, show U.keys [] = [] from rfl, List.append_nil] at hx
    exact hx
  · rw [h] at hx
    have hp : ((x.2 ++ [(y.1, ())]).map (·.1) ++ U.keys (pre ++ post)).Perm (U.keys d.1) := by
      refine List.Perm.trans ?_ hx
      rw [mkeys_app, mkeys_app]
      show ((x.2 ++ [(y.1, ())]).map (·.1) ++ (U.keys pre ++ U.keys post)).Perm (x.2.map (·.1) ++ (U.keys pre ++ y.1 :: U.keys post))
      rw [List.map_append, List.append_assoc]
      refine List.Perm.append_left _ ?_
      show (y.1 :: (U.keys pre ++ U.keys post)).Perm _
      exact List.perm_middle.symm
    refine ⟨rfl, ⟨(U.keys (pre ++ post)).map (fun v => (v, ())), ?_⟩, ⟨fun h => (by cases h), fun _ => ⟨(pre ++ post, x.2 ++ [(y.1, ())]), ⟨trivial, rfl, trivial⟩, rfl, hp, ?_⟩⟩, fun _ h => (by cases h), fun h => (by cases h)⟩
    · rw [List.map_append, List.map_map]
      have : ((fun (p : Int × Unit) => p.fst) ∘ fun (v : Int) => (v, ())) = id := rfl
      rw [this, List.map_id]
      exact hp
    · show (pre ++ post).length < x.1.length
      rw [h]; simp

theorem seq116 {H : Imm} {lb : Array Value} {d : PD [.ref tMI]} (hd : pvs PR H [.ref tMI] lb.toList d) : SeqV PR H [.int] (LK d) (.func (.func 116) #[] lb) :=
  seq_ok (C := ctx 14 [] []) (ctx_ok trivial trivial) mixed Tryz.func116 (by kernel_rfl) (by kernel_rfl) (by kernel_rfl) (by kernel_rfl) (by decide) (vc116_eq.mpr h116) (fun d l B0 R Rx hR hRx hY => noRng hR hY) hd trivial

theorem h85 : vc85 := by intro d; rfl
theorem ok85 : CFnOK PR 85 sc85 := mkFnC (vc85_eq.mpr h85) Tryz.func85 (by kernel_rfl) (by kernel_rfl) (by kernel_rfl) (by kernel_rfl) trivial trivial

theorem h138 : vc138 := by
  intro d ⟨hm, _⟩
  refine ⟨trivial, trivial, rfl, fun q x rest h => ⟨?_, ?_⟩, fun xs h => ⟨(), by simpa using h⟩⟩
  · have h1 := h.length_eq
    unfold U.keys at h1
    simp only [List.length_map, List.length_append, List.length_cons] at h1
    have hm : d.2.1.length ≤ 100000 := hm
    simp only [List.nil_append, List.length_map, List.length_cons, List.length_nil]
    omega
  · simp
theorem h114 : vc114 := fun _ hm => ⟨hm, fun _ h => ⟨(), h⟩⟩
theorem h84 : vc84 := fun _ hm => ⟨hm, fun _ h => ⟨(), sortI_congr h⟩⟩

theorem ok138 : ROK PR 138 rs138 := by
  refine rok_of (body := bodyOf Tryz.f138) (C := ctx 13 [] []) (hk := hkC (ctx 13 [] []) (fun _ => none) tb138 [] []) (c0_ok 13) mixed Tryz.func138 (by kernel_rfl) (by kernel_rfl) (by kernel_rfl) (fun B => hkC_ok (c0_ok 13) mixed ?_ no_rt B) rfl (fun H w vals fl d bs hfl ha ρ hρ => ?_) (fun d => rfl) (vc138_eq.mpr h138)
  · intro k t rs sv pr L v ρ hk hs hpr hd
    unfold tb138 at hk
    split at hk
    case h_2 => cases hk
    simp only [Option.some.injEq] at hk
    cases hk
    simp only [rg138] at hs
    split at hs
    case h_2 => cases hs
    rename_i t m
    split at hs
    case h_2 => cases hs
    rename_i m' hm
    simp only [Option.some.injEq, Prod.mk.injEq] at hs
    obtain ⟨rfl, rfl⟩ := hs
    obtain ⟨e, rfl⟩ := cast?_some hm
    subst e
    simp only [SV.den, SV.denL] at hd
    obtain ⟨lb, rfl, x, r, hl, h1, h2⟩ := hd
    exact seq116 (d := (m, ())) (by rw [hl, h2]; exact ⟨h1, rfl⟩)
  · obtain ⟨v, vs', fl', rfl, rfl, lb, vs2, fl2, rfl, rfl, _, rfl, rfl⟩ := hfl
    obtain ⟨b1, b2, _, ⟨rfl, _⟩, ha⟩ := ha
    rw [List.append_nil] at ha
    refine ⟨_, _, rfl, rfl, _, _, rfl, den_clo1 hρ ha, rfl⟩

theorem ok114 : ROK PR 114 rs114 := by
  refine rok_of (body := bodyOf Tryz.f114) (C := ctx 5 [] []) (hk := hkC (ctx 5 [] []) (fun _ => none) tbl0 [4] [(138, 20, rs138)]) (c0_ok 5) mixed Tryz.func114 (by kernel_rfl) (by kernel_rfl) (by kernel_rfl) (fun B => hkC_ok (c0_ok 5) mixed tbl0_ok (one_rt ok138) B) rfl (fun H w vals fl d bs hfl ha ρ hρ => ?_) (fun d => rfl) (vc114_eq.mpr h114)
  obtain ⟨lb, vs2, fl2, rfl, rfl, _, rfl, rfl⟩ := hfl
  rw [List.append_nil] at ha
  exact ⟨_, _, rfl, den_clo1 hρ ha, rfl⟩

theorem cx84 : (ctx 9 [] [(115, soSortI 3)]).ok PR := ctx_ok trivial ⟨ok115, trivial⟩
theorem ok84 : ROK PR 84 rs84 := by
  refine rok_of (body := bodyOf Tryz.f84) (C := ctx 9 [] [(115, soSortI 3)]) (hk := hkC (ctx 9 [] [(115, soSortI 3)]) (fun _ => none) tbl0 [5] [(114, 20, rs114)]) cx84 mixed Tryz.func84 (by kernel_rfl) (by kernel_rfl) (by kernel_rfl)
    (fun B => hkC_ok cx84 mixed tbl0_ok (one_rt ok114) B) rfl (fun H w vals fl d bs hfl ha ρ hρ => ?_) (fun d => rfl) (vc84_eq.mpr h84)
  obtain ⟨lb, vs2, fl2, rfl, rfl, _, rfl, rfl⟩ := hfl
  rw [List.append_nil] at ha
  exact ⟨_, _, rfl, den_clo1 hρ ha, rfl⟩

end Go.X
/-
  Signs: Order, Merge, Find: what is asked.
-/
namespace Go.X
open Go.Proofs

namespace U
def rights (s : SnD) : Int := s.1
def lefts (s : SnD) : Int := s.2.1
def faces (s : SnD) : Int := s.2.2.1
def rgs (s : SnD) : Int := s.2.2.2.1
def lost (s : SnD) : Int := s.2.2.2.2.1
def cols (s : SnD) : SpD := s.2.2.2.2.2.1
def rows (s : SnD) : SpD := s.2.2.2.2.2.2.1
def ages (s : SnD) : SpD := s.2.2.2.2.2.2.2.1
def mvs (s : SnD) : List Int := s.2.2.2.2.2.2.2.2.1
def bit (s k : Int) : Bool := decide (band (s / 2 ^ k.toNat) 1 = 1)
def okSet (n : Int) : Bool := decide (1 ≤ n ∧ n ≤ 255)
def ordered (x : SpD) : Bool := decide (lo x ≤ hi x)
def okS (s : SnD) : Bool := decide (1 ≤ rights s ∧ rights s ≤ 8589934591 ∧ 1 ≤ lefts s ∧ lefts s ≤ 8589934591 ∧ 1 ≤ faces s ∧ faces s ≤ 255 ∧ 1 ≤ rgs s ∧ rgs s ≤ 255 ∧ lo (cols s) ≤ hi (cols s) ∧ lo (rows s) ≤ hi (rows s) ∧ lo (ages s) ≤ hi (ages s) ∧ (mvs s).length ≤ 6 ∧ 0 ≤ lost s ∧ lost s ≤ 6) && (mvs s).all okSet
/-- the earliest move for each set -/
def greedy : List Int → List Int → Bool
  | [], _ => true
  | set :: r, l => if idx (bit set) l < 0 then false else greedy r (l.drop ((idx (bit set) l).toNat + 1))
def moved (s : SnD) (l : List Int) : Bool := within ((l.length : Int) - ((mvs s).length : Int)) 0 (lost s) && greedy (mvs s) l
def shows (s : SnD) (f : FmD) : Bool := bit (rights s) (rt f + 1) && bit (lefts s) (lf f + 1) && within (co f) (lo (cols s)) (hi (cols s)) && within (rw' f) (lo (rows s)) (hi (rows s)) && bit (faces s) (fc f) && moved s (mv f)
def agrees (s : SnD) (x : ED) : Bool := decide (band (rg x) (rgs s) ≠ 0) && meet (ag x) (ages s) && (shows s (fm x) || shows s (mir (fm x)))
def dedup : List Int → List Int
  | [] => []
  | a :: r => if a ∈ dedup r then dedup r else a :: dedup r
def find (l : List ED) (s : SnD) : List Int := sortI (dedup ((l.filter (agrees s)).map sg))
/-- how often each sign has been found -/
def counts (s : SnD) (done : List ED) (m : MI) : Prop := (keys m).Nodup ∧ (∀ n, n ∈ keys m ↔ ∃ x ∈ done, agrees s x = true ∧ sg x = n) ∧ ∀ p ∈ m, 0 ≤ p.2 ∧ p.2 ≤ (done.length : Int)
def cmpE (a b : ED) : Int := firstNZ [order (fm a) (fm b), cmp (sg a) (sg b), cmp (id' a) (id' b)]
def srtE (l : List ED) : List ED := sortBy (lessF tE fun x => (cmpE x.1 x.2.1, ())) l
def srtI (l : List ED) : List ED := sortBy (lessF tE fun x => (cmp (id' x.1) (id' x.2.1), ())) l
def ord (l : List ED) : List Int × Int × Unit := if (opn l).2.1 ≠ 0 then ([], (opn l).2.1, ()) else ((srtE (vals (opn l).1)).map id', 0, ())
def mrgTo (l more : List ED) : Bool × Bk := addTo (opn l).1 (srtI (vals (opn more).1))
def mrg (l more : List ED) : List ED × Int × Unit := if (opn l).2.1 ≠ 0 then ([], (opn l).2.1, ()) else if (opn more).2.1 ≠ 0 then ([], (opn more).2.1, ()) else if 40 < (mrgTo l more).2.length then ([], 2, ()) else if (mrgTo l more).1 = false then ([], 12, ()) else (srtI (vals (mrgTo l more).2), 0, ())
def lookE (l : List ED) (s : SnD) : Int := if (opn l).2.1 = 0 ∧ okS s = false then 13 else (opn l).2.1
def fnd (l : List ED) (s : SnD) : List Int × Int × Unit := if lookE l s ≠ 0 then ([], lookE l s, ()) else (find (vals (opn l).1) s, 0, ())
end U

def sp61 : Spec := ⟨[.val tE, .val tE], [.int], false, fun _ => [], fun d => (U.cmpE d.1 d.2.1, ())⟩
def vc61 : Prop :=
  ∀ (d : ED × ED × Unit),
  (U.firstNZ [U.order d.1.2.2.2.1 d.2.1.2.2.2.1, U.cmp d.1.2.1 d.2.1.2.1, U.cmp (U.id' d.1) (U.id' d.2.1)], ()) = (U.cmpE d.1 d.2.1, ())

theorem vc61_eq : fnVC (ctx 20 [(62, sp62), (63, sp63), (64, sp64), (65, sp65)] []) (fun _ => none) Tryz.f61 (bodyOf Tryz.f61) sp61 = vc61 := by kernel_rfl

def sp32 : Spec := ⟨[.val (.slice tE)], [.slice .int, .int], false, fun _ => [], fun d => U.ord d.1⟩
def an32 : Ann := fun r => match r with
  | 6 => some fun σ => { X := Nat, sl := fun i => [(20, .dat .int (i : Int)), (6, .own 6 .int)], ob := fun i => [(6, some (.row 3 .int false .yes (((gd (.slice tE) σ 18).take i).map U.id')))], inv := fun i => i ≤ (gd (.slice tE) σ 18).length, mu := fun i => (gd (.slice tE) σ 18).length - i }
  | _ => none
def vc32 : Prop :=
  ∀ (d : List ED × Unit),
  (decide ((U.opn d.1).2.1 ≠ (0 : Int)) = true → ([], (U.opn d.1).2) = U.ord d.1) ∧
  (decide ((U.opn d.1).2.1 ≠ (0 : Int)) = false →
  List.length (U.opn d.1).1 ≤ 100000 ∧
  (∀ (x : ED),
  x ∈ U.vals (U.opn d.1).1 → ∀ (y : ED), y ∈ U.vals (U.opn d.1).1 → U.allP []) ∧
  OrdOn
  (U.lessF (Ty.int.pair (Ty.int.pair (Ty.int.pair ((Ty.int.pair (Ty.int.pair (Ty.int.pair (Ty.int.pair (Ty.int.pair (Ty.int.slice.pair Ty.unit)))))).pair ((Ty.int.pair (Ty.int.pair Ty.unit)).pair Ty.unit)))))
  fun (x : ED × ED × Unit) =>
  (U.cmpE x.1 x.2.1, ()))
  (U.vals (U.opn d.1).1) ∧
  ((U.sortBy
  (U.lessF (Ty.int.pair (Ty.int.pair (Ty.int.pair ((Ty.int.pair (Ty.int.pair (Ty.int.pair (Ty.int.pair (Ty.int.pair (Ty.int.slice.pair Ty.unit)))))).pair ((Ty.int.pair (Ty.int.pair Ty.unit)).pair Ty.unit)))))
  fun
  (x : ED × ED × Unit) =>
  (U.cmpE x.1 x.2.1, ()))
  (U.vals (U.opn d.1).1)).length <
  4611686018427387904 →
  (∃ (x : Nat),
  (((0 : Int) = (x : Int) ∧ True ∧ True) ∧
  List.map U.id'
  (List.take x
  (U.sortBy
  (U.lessF (Ty.int.pair (Ty.int.pair (Ty.int.pair ((Ty.int.pair (Ty.int.pair (Ty.int.pair (Ty.int.pair (Ty.int.pair (Ty.int.slice.pair Ty.unit)))))).pair ((Ty.int.pair (Ty.int.pair Ty.unit)).pair Ty.unit)))))
  fun
  (x :
  ED ×
  ED × Unit) =>
  (U.cmpE x.1 x.2.1, ()))
  (U.vals (U.opn d.1).1))) =
  [] ∧
  True) ∧
  x ≤
  (U.sortBy
  (U.lessF (Ty.int.pair (Ty.int.pair (Ty.int.pair ((Ty.int.pair (Ty.int.pair (Ty.int.pair (Ty.int.pair (Ty.int.pair (Ty.int.slice.pair Ty.unit)))))).pair ((Ty.int.pair (Ty.int.pair Ty.unit)).pair Ty.unit)))))
  fun
  (x :
  ED ×
  ED × Unit) =>
  (U.cmpE x.1 x.2.1, ()))
  (U.vals (U.opn d.1).1)).length) ∧
  ∀ (x : Nat),
  x ≤
  (U.sortBy
  (U.lessF (Ty.int.pair (Ty.int.pair (Ty.int.pair ((Ty.int.pair (Ty.int.pair (Ty.int.pair (Ty.int.pair (Ty.int.pair (Ty.int.slice.pair Ty.unit)))))).pair ((Ty.int.pair (Ty.int.pair Ty.unit)).pair Ty.unit)))))
  fun
  (x :
  ED ×
  ED × Unit) =>
  (U.cmpE x.1 x.2.1, ()))
  (U.vals (U.opn d.1).1)).length →
  (decide
  ((x : Int) <
  (↑(U.sortBy
  (U.lessF
  (Ty.int.pair (Ty.int.pair (Ty.int.pair ((Ty.int.pair (Ty.int.pair (Ty.int.pair (Ty.int.pair (Ty.int.pair (Ty.int.slice.pair Ty.unit)))))).pair ((Ty.int.pair (Ty.int.pair Ty.unit)).pair Ty.unit)))))
  fun
  (x :
  ED ×
  ED × Unit) =>
  (U.cmpE x.1 x.2.1, ()))
  (U.vals (U.opn d.1).1)).length :
  Int)) =
  true →
  0 ≤ (x : Int) ∧
  (x : Int) <
  (↑(U.sortBy
  (U.lessF
  (Ty.int.pair (Ty.int.pair (Ty.int.pair ((Ty.int.pair (Ty.int.pair (Ty.int.pair (Ty.int.pair (Ty.int.pair (Ty.int.slice.pair Ty.unit)))))).pair ((Ty.int.pair (Ty.int.pair Ty.unit)).pair Ty.unit)))))
  fun
  (x :
  ED ×
  ED × Unit) =>
  (U.cmpE x.1 x.2.1, ()))
  (U.vals (U.opn d.1).1)).length :
  Int) ∧
  ((List.map U.id'
  (List.take x
  (U.sortBy
  (U.lessF
  (Ty.int.pair
  (Ty.int.pair (Ty.int.pair ((Ty.int.pair (Ty.int.pair (Ty.int.pair (Ty.int.pair (Ty.int.pair (Ty.int.slice.pair Ty.unit)))))).pair ((Ty.int.pair (Ty.int.pair Ty.unit)).pair Ty.unit)))))
  fun
  (x :
  ED ×
  ED × Unit) =>
  (U.cmpE x.1 x.2.1, ()))
  (U.vals (U.opn d.1).1)))).length +
  [(nth
  (U.sortBy
  (U.lessF
  (Ty.int.pair
  (Ty.int.pair (Ty.int.pair ((Ty.int.pair (Ty.int.pair (Ty.int.pair (Ty.int.pair (Ty.int.pair (Ty.int.slice.pair Ty.unit)))))).pair ((Ty.int.pair (Ty.int.pair Ty.unit)).pair Ty.unit)))))
  fun
  (x :
  ED ×
  ED × Unit) =>
  (U.cmpE x.1 x.2.1, ()))
  (U.vals (U.opn d.1).1))
  (x : Int).toNat).1].length) *
  8 ≤
  140737488355328 ∧
  In64 ((x : Int) + 1) ∧
  ∃ (x' : Nat),
  (((x : Int) + 1 = (x' : Int) ∧ True ∧ True) ∧
  List.map U.id'
  (List.take x
  (U.sortBy
  (U.lessF
  (Ty.int.pair
  (Ty.int.pair (Ty.int.pair ((Ty.int.pair (Ty.int.pair (Ty.int.pair (Ty.int.pair (Ty.int.pair (Ty.int.slice.pair Ty.unit)))))).pair ((Ty.int.pair (Ty.int.pair Ty.unit)).pair Ty.unit)))))
  fun
  (x :
  ED ×
  ED × Unit) =>
  (U.cmpE x.1 x.2.1, ()))
  (U.vals (U.opn d.1).1))) ++
  [(nth
  (U.sortBy
  (U.lessF
  (Ty.int.pair
  (Ty.int.pair (Ty.int.pair ((Ty.int.pair (Ty.int.pair (Ty.int.pair (Ty.int.pair (Ty.int.pair (Ty.int.slice.pair Ty.unit)))))).pair ((Ty.int.pair (Ty.int.pair Ty.unit)).pair Ty.unit)))))
  fun
  (x :
  ED ×
  ED × Unit) =>
  (U.cmpE x.1 x.2.1, ()))
  (U.vals (U.opn d.1).1))
  (x : Int).toNat).1] =
  List.map U.id'
  (List.take x'
  (U.sortBy
  (U.lessF
  (Ty.int.pair
  (Ty.int.pair (Ty.int.pair ((Ty.int.pair (Ty.int.pair (Ty.int.pair (Ty.int.pair (Ty.int.pair (Ty.int.slice.pair Ty.unit)))))).pair ((Ty.int.pair (Ty.int.pair Ty.unit)).pair Ty.unit)))))
  fun
  (x :
  ED ×
  ED × Unit) =>
  (U.cmpE x.1 x.2.1, ()))
  (U.vals (U.opn d.1).1))) ∧
  True) ∧
  x' ≤
  (U.sortBy
  (U.lessF
  (Ty.int.pair
  (Ty.int.pair (Ty.int.pair ((Ty.int.pair (Ty.int.pair (Ty.int.pair (Ty.int.pair (Ty.int.pair (Ty.int.slice.pair Ty.unit)))))).pair ((Ty.int.pair (Ty.int.pair Ty.unit)).pair Ty.unit)))))
  fun
  (x :
  ED ×
  ED × Unit) =>
  (U.cmpE x.1 x.2.1, ()))
  (U.vals (U.opn d.1).1)).length ∧
  (U.sortBy
  (U.lessF
  (Ty.int.pair
  (Ty.int.pair (Ty.int.pair ((Ty.int.pair (Ty.int.pair (Ty.int.pair (Ty.int.pair (Ty.int.pair (Ty.int.slice.pair Ty.unit)))))).pair ((Ty.int.pair (Ty.int.pair Ty.unit)).pair Ty.unit)))))
  fun
  (x :
  ED ×
  ED × Unit) =>
  (U.cmpE x.1 x.2.1, ()))
  (U.vals (U.opn d.1).1)).length -
  x' <
  (U.sortBy
  (U.lessF
  (Ty.int.pair
  (Ty.int.pair (Ty.int.pair ((Ty.int.pair (Ty.int.pair (Ty.int.pair (Ty.int.pair (Ty.int.pair (Ty.int.slice.pair Ty.unit)))))).pair ((Ty.int.pair (Ty.int.pair Ty.unit)).pair Ty.unit)))))
  fun
  (x :
  ED ×
  ED × Unit) =>
  (U.cmpE x.1 x.2.1, ()))
  (U.vals (U.opn d.1).1)).length -
  x) ∧
  (decide
  ((x : Int) <
  (↑(U.sortBy
  (U.lessF
  (Ty.int.pair (Ty.int.pair (Ty.int.pair ((Ty.int.pair (Ty.int.pair (Ty.int.pair (Ty.int.pair (Ty.int.pair (Ty.int.slice.pair Ty.unit)))))).pair ((Ty.int.pair (Ty.int.pair Ty.unit)).pair Ty.unit)))))
  fun
  (x :
  ED ×
  ED × Unit) =>
  (U.cmpE x.1 x.2.1, ()))
  (U.vals (U.opn d.1).1)).length :
  Int)) =
  false →
  (List.map U.id'
  (List.take x
  (U.sortBy
  (U.lessF (Ty.int.pair (Ty.int.pair (Ty.int.pair ((Ty.int.pair (Ty.int.pair (Ty.int.pair (Ty.int.pair (Ty.int.pair (Ty.int.slice.pair Ty.unit)))))).pair ((Ty.int.pair (Ty.int.pair Ty.unit)).pair Ty.unit)))))
  fun
  (x :
  ED ×
  ED × Unit) =>
  (U.cmpE x.1 x.2.1, ()))
  (U.vals (U.opn d.1).1))),
  (0 : Int), ()) =
  U.ord d.1)))

theorem vc32_eq : fnVC (ctx 31 [(59, sp59), (60, sp60), (61, sp61)] []) (an32) Tryz.f32 (bodyOf Tryz.f32) sp32 = vc32 := by kernel_rfl

def sp45 : Spec := ⟨[.val (.slice tE), .val (.slice tE)], [.slice tE, .int], false, fun d => [(U.opn d.1).2.1 ≠ 0 ∨ (U.opn d.2.1).2.1 ≠ 0], fun d => U.mrg d.1 d.2.1⟩
def vc45 : Prop :=
  ∀ (d : List ED × List ED × Unit),
  (U.opn d.1).2.1 ≠ (0 : Int) ∨ (U.opn d.2.1).2.1 ≠ (0 : Int) →
  (decide ((U.opn d.1).2.1 ≠ (0 : Int)) = true → ([], (U.opn d.1).2) = U.mrg d.1 d.2.1) ∧
  (decide ((U.opn d.1).2.1 ≠ (0 : Int)) = false → (decide ((U.opn d.2.1).2.1 ≠ (0 : Int)) = true → ([], (U.opn d.2.1).2) = U.mrg d.1 d.2.1) ∧ (decide ((U.opn d.2.1).2.1 ≠ (0 : Int)) = false → False))

theorem vc45_eq : fnVC (ctx 39 [(59, sp59), (60, sp60), (65, sp65)] [(80, so80)]) (fun _ => none) Tryz.f45 (bodyOf Tryz.f45) sp45 = vc45 := by kernel_rfl

def sp45w : Spec := ⟨[.val (.slice tE), .val (.slice tE)], [.slice tE, .int], false, fun d => [(U.opn d.1).2.1 = 0, (U.opn d.2.1).2.1 = 0], fun d => U.mrg d.1 d.2.1⟩
def vc45w : Prop :=
  ∀ (d : List ED × List ED × Unit),
  (U.opn d.1).2.1 = (0 : Int) →
  (U.opn d.2.1).2.1 = (0 : Int) →
  (U.opn d.1).2.1 = (0 : Int) ∧
  (decide ((0 : Int) ≠ (0 : Int)) = true → ([], (0 : Int), ()) = U.mrg d.1 d.2.1) ∧
  (decide ((0 : Int) ≠ (0 : Int)) = false →
  (U.opn d.2.1).2.1 = (0 : Int) ∧
  (decide ((0 : Int) ≠ (0 : Int)) = true → ([], (0 : Int), ()) = U.mrg d.1 d.2.1) ∧
  (decide ((0 : Int) ≠ (0 : Int)) = false →
  List.length (U.opn d.2.1).1 ≤ 100000 ∧
  (∀ (x : ED),
  x ∈ U.vals (U.opn d.2.1).1 → ∀ (y : ED), y ∈ U.vals (U.opn d.2.1).1 → U.allP []) ∧
  OrdOn
  (U.lessF (Ty.int.pair (Ty.int.pair (Ty.int.pair ((Ty.int.pair (Ty.int.pair (Ty.int.pair (Ty.int.pair (Ty.int.pair (Ty.int.slice.pair Ty.unit)))))).pair ((Ty.int.pair (Ty.int.pair Ty.unit)).pair Ty.unit)))))
  fun
  (x :
  ED ×
  ED × Unit) =>
  (U.cmp (U.id' x.1) (U.id' x.2.1), ()))
  (U.vals (U.opn d.2.1).1) ∧
  (∀ (x : ED),
  x ∈
  U.sortBy
  (U.lessF (Ty.int.pair (Ty.int.pair (Ty.int.pair ((Ty.int.pair (Ty.int.pair (Ty.int.pair (Ty.int.pair (Ty.int.pair (Ty.int.slice.pair Ty.unit)))))).pair ((Ty.int.pair (Ty.int.pair Ty.unit)).pair Ty.unit)))))
  fun
  (x :
  ED ×
  ED × Unit) =>
  (U.cmp (U.id' x.1) (U.id' x.2.1), ()))
  (U.vals (U.opn d.2.1).1) →
  U.okE x = true) ∧
  (decide
  ((40 : Int) <
  (↑(List.length
  (U.addTo (U.opn d.1).1
  (U.sortBy
  (U.lessF
  (Ty.int.pair
  (Ty.int.pair (Ty.int.pair ((Ty.int.pair (Ty.int.pair (Ty.int.pair (Ty.int.pair (Ty.int.pair (Ty.int.slice.pair Ty.unit)))))).pair ((Ty.int.pair (Ty.int.pair Ty.unit)).pair Ty.unit)))))
  fun
  (x :
  ED ×
  ED × Unit) =>
  (U.cmp (U.id' x.1) (U.id' x.2.1), ()))
  (U.vals (U.opn d.2.1).1))).2) :
  Int)) =
  true →
  ([], (2 : Int), ()) = U.mrg d.1 d.2.1) ∧
  (decide
  ((40 : Int) <
  (↑(List.length
  (U.addTo (U.opn d.1).1
  (U.sortBy
  (U.lessF
  (Ty.int.pair
  (Ty.int.pair (Ty.int.pair ((Ty.int.pair (Ty.int.pair (Ty.int.pair (Ty.int.pair (Ty.int.pair (Ty.int.slice.pair Ty.unit)))))).pair ((Ty.int.pair (Ty.int.pair Ty.unit)).pair Ty.unit)))))
  fun
  (x :
  ED ×
  ED × Unit) =>
  (U.cmp (U.id' x.1) (U.id' x.2.1), ()))
  (U.vals (U.opn d.2.1).1))).2) :
  Int)) =
  false →
  ((!(U.addTo (U.opn d.1).1
  (U.sortBy
  (U.lessF
  (Ty.int.pair
  (Ty.int.pair (Ty.int.pair ((Ty.int.pair (Ty.int.pair (Ty.int.pair (Ty.int.pair (Ty.int.pair (Ty.int.slice.pair Ty.unit)))))).pair ((Ty.int.pair (Ty.int.pair Ty.unit)).pair Ty.unit)))))
  fun
  (x :
  ED ×
  ED × Unit) =>
  (U.cmp (U.id' x.1) (U.id' x.2.1), ()))
  (U.vals (U.opn d.2.1).1))).1) =
  true →
  ([], (12 : Int), ()) = U.mrg d.1 d.2.1) ∧
  ((!(U.addTo (U.opn d.1).1
  (U.sortBy
  (U.lessF
  (Ty.int.pair
  (Ty.int.pair (Ty.int.pair ((Ty.int.pair (Ty.int.pair (Ty.int.pair (Ty.int.pair (Ty.int.pair (Ty.int.slice.pair Ty.unit)))))).pair ((Ty.int.pair (Ty.int.pair Ty.unit)).pair Ty.unit)))))
  fun
  (x :
  ED ×
  ED × Unit) =>
  (U.cmp (U.id' x.1) (U.id' x.2.1), ()))
  (U.vals (U.opn d.2.1).1))).1) =
  false →
  List.length
  (U.addTo (U.opn d.1).1
  (U.sortBy
  (U.lessF
  (Ty.int.pair
  (Ty.int.pair (Ty.int.pair ((Ty.int.pair (Ty.int.pair (Ty.int.pair (Ty.int.pair (Ty.int.pair (Ty.int.slice.pair Ty.unit)))))).pair ((Ty.int.pair (Ty.int.pair Ty.unit)).pair Ty.unit)))))
  fun
  (x :
  ED ×
  ED × Unit) =>
  (U.cmp (U.id' x.1) (U.id' x.2.1), ()))
  (U.vals (U.opn d.2.1).1))).2 ≤
  100000 ∧
  (∀ (x : ED),
  x ∈
  U.vals
  (U.addTo (U.opn d.1).1
  (U.sortBy
  (U.lessF
  (Ty.int.pair
  (Ty.int.pair (Ty.int.pair ((Ty.int.pair (Ty.int.pair (Ty.int.pair (Ty.int.pair (Ty.int.pair (Ty.int.slice.pair Ty.unit)))))).pair ((Ty.int.pair (Ty.int.pair Ty.unit)).pair Ty.unit)))))
  fun
  (x :
  ED ×
  ED × Unit) =>
  (U.cmp (U.id' x.1) (U.id' x.2.1), ()))
  (U.vals (U.opn d.2.1).1))).2 →
  ∀ (y : ED),
  y ∈
  U.vals
  (U.addTo (U.opn d.1).1
  (U.sortBy
  (U.lessF
  (Ty.int.pair
  (Ty.int.pair
  (Ty.int.pair ((Ty.int.pair (Ty.int.pair (Ty.int.pair (Ty.int.pair (Ty.int.pair (Ty.int.slice.pair Ty.unit)))))).pair ((Ty.int.pair (Ty.int.pair Ty.unit)).pair Ty.unit)))))
  fun
  (x :
  ED ×
  ED × Unit) =>
  (U.cmp (U.id' x.1) (U.id' x.2.1), ()))
  (U.vals (U.opn d.2.1).1))).2 →
  U.allP []) ∧
  OrdOn
  (U.lessF
  (Ty.int.pair
  (Ty.int.pair (Ty.int.pair ((Ty.int.pair (Ty.int.pair (Ty.int.pair (Ty.int.pair (Ty.int.pair (Ty.int.slice.pair Ty.unit)))))).pair ((Ty.int.pair (Ty.int.pair Ty.unit)).pair Ty.unit)))))
  fun
  (x :
  ED ×
  ED × Unit) =>
  (U.cmp (U.id' x.1) (U.id' x.2.1), ()))
  (U.vals
  (U.addTo (U.opn d.1).1
  (U.sortBy
  (U.lessF
  (Ty.int.pair
  (Ty.int.pair (Ty.int.pair ((Ty.int.pair (Ty.int.pair (Ty.int.pair (Ty.int.pair (Ty.int.pair (Ty.int.slice.pair Ty.unit)))))).pair ((Ty.int.pair (Ty.int.pair Ty.unit)).pair Ty.unit)))))
  fun
  (x :
  ED ×
  ED × Unit) =>
  (U.cmp (U.id' x.1) (U.id' x.2.1), ()))
  (U.vals (U.opn d.2.1).1))).2) ∧
  (U.sortBy
  (U.lessF
  (Ty.int.pair
  (Ty.int.pair (Ty.int.pair ((Ty.int.pair (Ty.int.pair (Ty.int.pair (Ty.int.pair (Ty.int.pair (Ty.int.slice.pair Ty.unit)))))).pair ((Ty.int.pair (Ty.int.pair Ty.unit)).pair Ty.unit)))))
  fun
  (x :
  ED ×
  ED × Unit) =>
  (U.cmp (U.id' x.1) (U.id' x.2.1), ()))
  (U.vals
  (U.addTo (U.opn d.1).1
  (U.sortBy
  (U.lessF
  (Ty.int.pair
  (Ty.int.pair
  (Ty.int.pair ((Ty.int.pair (Ty.int.pair (Ty.int.pair (Ty.int.pair (Ty.int.pair (Ty.int.slice.pair Ty.unit)))))).pair ((Ty.int.pair (Ty.int.pair Ty.unit)).pair Ty.unit)))))
  fun
  (x :
  ED ×
  ED × Unit) =>
  (U.cmp (U.id' x.1) (U.id' x.2.1), ()))
  (U.vals (U.opn d.2.1).1))).2),
  (0 : Int), ()) =
  U.mrg d.1 d.2.1))))

theorem vc45w_eq : fnVC (ctx 39 [(60, sp60), (65, sp65)] [(59, so59w), (80, so80)]) (fun _ => none) Tryz.f45 (bodyOf Tryz.f45) sp45w = vc45w := by kernel_rfl


def sp109 : Spec := ⟨[.val .int, .val .int], [.bool], false, fun _ => [], fun d => (U.within d.1 1 d.2.1, ())⟩
def vc109 : Prop :=
  ∀ (d : Int × Int × Unit), (U.within d.1 (1 : Int) d.2.1, ()) = (U.within d.1 (1 : Int) d.2.1, ())

theorem vc109_eq : fnVC (ctx 8 [(97, sp97)] []) (fun _ => none) Tryz.f109 (bodyOf Tryz.f109) sp109 = vc109 := by kernel_rfl

def sp110 : Spec := ⟨[.val .int, .rfn [.int, .int] [.bool]], [.bool], false, fun d => [U.allP (d.2.1.pre (d.1, 255, ()))], fun d => d.2.1.F (d.1, 255, ())⟩
def vc110 : Prop :=
  ∀ (d : Int × FnD [Ty.int, Ty.int] [Ty.bool] × Unit), U.allP (d.2.1.1 (d.1, (255 : Int), ())) → asks (d.2.1.1 (d.1, (255 : Int), ())) (((d.2.1.2 (d.1, (255 : Int), ())).1, ()) = d.2.1.2 (d.1, (255 : Int), ()))

theorem vc110_eq : fnVC (ctx 7 [] []) (fun _ => none) Tryz.f110 (bodyOf Tryz.f110) sp110 = vc110 := by kernel_rfl

def sp111 : Spec := ⟨[.val tSp], [.bool], false, fun _ => [], fun d => (U.ordered d.1, ())⟩
def vc111 : Prop :=
  ∀ (d : SpD × Unit), (decide (d.1.1 ≤ d.1.2.1), ()) = (U.ordered d.1, ())

theorem vc111_eq : fnVC (ctx 8 [] []) (fun _ => none) Tryz.f111 (bodyOf Tryz.f111) sp111 = vc111 := by kernel_rfl

def sp82 : Spec := ⟨[.val tSe], [.bool], false, fun _ => [], fun d => (U.okS d.1.1, ())⟩
def vc82 : Prop :=
  ∀ (d : (SnD × Unit) × Unit),
  ((U.within d.1.1.1 (1 : Int) (8589934591 : Int) && U.within d.1.1.2.1 (1 : Int) (8589934591 : Int)) = true → U.allP []) ∧
  ((U.within d.1.1.1 (1 : Int) (8589934591 : Int) && U.within d.1.1.2.1 (1 : Int) (8589934591 : Int) && U.within d.1.1.2.2.1 (1 : Int) (255 : Int) && U.within d.1.1.2.2.2.1 (1 : Int) (255 : Int)) =
  true →
  ∀ (g : Int × Int × Unit), g ∈ [d.1.1.2.2.2.2.2.1, d.1.1.2.2.2.2.2.2.1, d.1.1.2.2.2.2.2.2.2.1] → U.allP []) ∧
  (((U.within d.1.1.1 (1 : Int) (8589934591 : Int) && U.within d.1.1.2.1 (1 : Int) (8589934591 : Int) && U.within d.1.1.2.2.1 (1 : Int) (255 : Int) && U.within d.1.1.2.2.2.1 (1 : Int) (255 : Int) &&
  [d.1.1.2.2.2.2.2.1, d.1.1.2.2.2.2.2.2.1, d.1.1.2.2.2.2.2.2.2.1].all (U.apply fun (x : SpD × Unit) => (U.ordered x.1, ()))) =
  true →
  d.1.1.2.2.2.2.2.2.2.2.1.length < 4611686018427387904) →
  ((U.within d.1.1.1 (1 : Int) (8589934591 : Int) && U.within d.1.1.2.1 (1 : Int) (8589934591 : Int) && U.within d.1.1.2.2.1 (1 : Int) (255 : Int) && U.within d.1.1.2.2.2.1 (1 : Int) (255 : Int) &&
  [d.1.1.2.2.2.2.2.1, d.1.1.2.2.2.2.2.2.1, d.1.1.2.2.2.2.2.2.2.1].all (U.apply fun (x : SpD × Unit) => (U.ordered x.1, ())) &&
  decide ((d.1.1.2.2.2.2.2.2.2.2.1.length : Int) ≤ (6 : Int))) =
  true →
  ∀ (g : Int), g ∈ d.1.1.2.2.2.2.2.2.2.2.1 → U.allP [U.allP []]) ∧
  (U.within d.1.1.1 (1 : Int) (8589934591 : Int) && U.within d.1.1.2.1 (1 : Int) (8589934591 : Int) && U.within d.1.1.2.2.1 (1 : Int) (255 : Int) && U.within d.1.1.2.2.2.1 (1 : Int) (255 : Int) &&
  [d.1.1.2.2.2.2.2.1, d.1.1.2.2.2.2.2.2.1, d.1.1.2.2.2.2.2.2.2.1].all (U.apply fun (x : SpD × Unit) => (U.ordered x.1, ())) &&
  decide ((d.1.1.2.2.2.2.2.2.2.2.1.length : Int) ≤ (6 : Int)) &&
  d.1.1.2.2.2.2.2.2.2.2.1.all (U.apply fun (x : Int × Unit) => (U.within x.1 (1 : Int) (255 : Int), ())) &&
  U.within d.1.1.2.2.2.2.1 (0 : Int) (6 : Int),
  ()) =
  (U.okS d.1.1, ()))

theorem vc82_eq : fnVC (ctx 67 [(97, sp97), (105, sp105), (109, sp109), (110, sp110), (111, sp111), (112, sp112)] []) (fun _ => none) Tryz.f82 (bodyOf Tryz.f82) sp82 = vc82 := by kernel_rfl

def sp150 : Spec := ⟨[.val .int, .ref .int], [.bool], false, fun d => [0 ≤ d.1, d.1 ≤ 64], fun d => (U.bit d.2.1 d.1, ())⟩
def vc150 : Prop :=
  ∀ (d : Int × Int × Unit), (0 : Int) ≤ d.1 → d.1 ≤ (64 : Int) → (0 : Int) ≤ d.1 ∧ d.1 ≤ (64 : Int) ∧ (decide (band (d.2.1 / (2 : Int) ^ d.1.toNat) (1 : Int) = (1 : Int)), ()) = (U.bit d.2.1 d.1, ())

theorem vc150_eq : fnVC (ctx 9 [] []) (fun _ => none) Tryz.f150 (bodyOf Tryz.f150) sp150 = vc150 := by kernel_rfl

def sp137 : Spec := ⟨[.val tSe, .val (.slice .int)], [.bool], false, fun d => [∀ n ∈ d.2.1, 0 ≤ n ∧ n ≤ 7], fun d => (U.moved d.1.1 d.2.1, ())⟩
def an137 : Ann := fun r => match r with
  | 5 => some fun σ => { X := Nat × List Int, sl := fun x => [(26, .dat .int (x.1 : Int)), (1, .dat (.slice .int) x.2)], ob := fun _ => [], inv := fun x => x.1 ≤ (gd (.slice .int) σ 24).length ∧ U.greedy (gd (.slice .int) σ 24) (gd (.slice .int) σ 1) = U.greedy ((gd (.slice .int) σ 24).drop x.1) x.2 ∧ (∀ n ∈ x.2, 0 ≤ n ∧ n ≤ 7) ∧ x.2.length ≤ (gd (.slice .int) σ 1).length, mu := fun x => (gd (.slice .int) σ 24).length - x.1 }
  | _ => none
def vc137 : Prop :=
  ∀ (d : (SnD × Unit) × List Int × Unit),
  (∀ (n : Int), n ∈ d.2.1 → (0 : Int) ≤ n ∧ n ≤ (7 : Int)) →
  d.2.1.length < 4611686018427387904 →
  d.1.1.2.2.2.2.2.2.2.2.1.length < 4611686018427387904 →
  In64 ((d.2.1.length : Int) - (d.1.1.2.2.2.2.2.2.2.2.1.length : Int)) ∧
  ((!U.within ((d.2.1.length : Int) - (d.1.1.2.2.2.2.2.2.2.2.1.length : Int)) (0 : Int) d.1.1.2.2.2.2.1) = true → (false, ()) = (U.moved d.1.1 d.2.1, ())) ∧
  ((!U.within ((d.2.1.length : Int) - (d.1.1.2.2.2.2.2.2.2.2.1.length : Int)) (0 : Int) d.1.1.2.2.2.2.1) = false →
  d.1.1.2.2.2.2.2.2.2.2.1.length < 4611686018427387904 →
  (∃ (x : Nat × List Int),
  (((0 : Int) = (x.1 : Int) ∧ d.2.1 = x.2 ∧ True) ∧ True) ∧
  x.1 ≤ d.1.1.2.2.2.2.2.2.2.2.1.length ∧
  U.greedy d.1.1.2.2.2.2.2.2.2.2.1 d.2.1 = U.greedy (List.drop x.1 d.1.1.2.2.2.2.2.2.2.2.1) x.2 ∧
  (∀ (n : Int), n ∈ x.2 → (0 : Int) ≤ n ∧ n ≤ (7 : Int)) ∧ x.2.length ≤ d.2.1.length) ∧
  ∀ (x : Nat × List Int),
  x.1 ≤ d.1.1.2.2.2.2.2.2.2.2.1.length ∧
  U.greedy d.1.1.2.2.2.2.2.2.2.2.1 d.2.1 = U.greedy (List.drop x.1 d.1.1.2.2.2.2.2.2.2.2.1) x.2 ∧
  (∀ (n : Int), n ∈ x.2 → (0 : Int) ≤ n ∧ n ≤ (7 : Int)) ∧ x.2.length ≤ d.2.1.length →
  (decide ((x.1 : Int) < (d.1.1.2.2.2.2.2.2.2.2.1.length : Int)) = true →
  0 ≤ (x.1 : Int) ∧
  (x.1 : Int) < (d.1.1.2.2.2.2.2.2.2.2.1.length : Int) ∧
  (∀ (g : Int), g ∈ x.2 → U.allP [(0 : Int) ≤ g, g ≤ (64 : Int)]) ∧
  (decide (U.idx (U.apply fun (x_3 : Int × Unit) => (U.bit (nth d.1.1.2.2.2.2.2.2.2.2.1 (x.1 : Int).toNat) x_3.1, ())) x.2 < (0 : Int)) = true →
  (false, ()) = (U.moved d.1.1 d.2.1, ())) ∧
  (decide (U.idx (U.apply fun (x_3 : Int × Unit) => (U.bit (nth d.1.1.2.2.2.2.2.2.2.2.1 (x.1 : Int).toNat) x_3.1, ())) x.2 < (0 : Int)) = false →
  In64 (U.idx (U.apply fun (x_4 : Int × Unit) => (U.bit (nth d.1.1.2.2.2.2.2.2.2.2.1 (x.1 : Int).toNat) x_4.1, ())) x.2 + (1 : Int)) ∧
  (0 : Int) ≤ U.idx (U.apply fun (x_4 : Int × Unit) => (U.bit (nth d.1.1.2.2.2.2.2.2.2.2.1 (x.1 : Int).toNat) x_4.1, ())) x.2 + (1 : Int) ∧
  U.idx (U.apply fun (x_4 : Int × Unit) => (U.bit (nth d.1.1.2.2.2.2.2.2.2.2.1 (x.1 : Int).toNat) x_4.1, ())) x.2 + 1 ≤ (x.2.length : Int) ∧
  (x.2.length : Int) ≤ (x.2.length : Int) ∧
  In64 ((x.1 : Int) + 1) ∧
  ∃ (x' : Nat × List Int),
  (((x.1 : Int) + 1 = (x'.1 : Int) ∧
  List.take
  ((x.2.length : Int).toNat -
  (U.idx (U.apply fun (x_4 : Int × Unit) => (U.bit (nth d.1.1.2.2.2.2.2.2.2.2.1 (x.1 : Int).toNat) x_4.1, ())) x.2 + (1 : Int)).toNat)
  (List.drop (U.idx (U.apply fun (x_4 : Int × Unit) => (U.bit (nth d.1.1.2.2.2.2.2.2.2.2.1 (x.1 : Int).toNat) x_4.1, ())) x.2 + (1 : Int)).toNat
  x.2) =
  x'.2 ∧
  True) ∧
  True) ∧
  (x'.1 ≤ d.1.1.2.2.2.2.2.2.2.2.1.length ∧
  U.greedy d.1.1.2.2.2.2.2.2.2.2.1 d.2.1 = U.greedy (List.drop x'.1 d.1.1.2.2.2.2.2.2.2.2.1) x'.2 ∧
  (∀ (n : Int), n ∈ x'.2 → (0 : Int) ≤ n ∧ n ≤ (7 : Int)) ∧ x'.2.length ≤ d.2.1.length) ∧
  d.1.1.2.2.2.2.2.2.2.2.1.length - x'.1 < d.1.1.2.2.2.2.2.2.2.2.1.length - x.1)) ∧
  (decide ((x.1 : Int) < (d.1.1.2.2.2.2.2.2.2.2.1.length : Int)) = false → (true, ()) = (U.moved d.1.1 d.2.1, ())))

theorem vc137_eq : fnVC (ctx 40 [(97, sp97), (148, sp148), (150, sp150)] []) (an137) Tryz.f137 (bodyOf Tryz.f137) sp137 = vc137 := by kernel_rfl

def sp113 : Spec := ⟨[.val tSe, .val tFm], [.bool], false, fun d => [U.okForm d.2.1 = true], fun d => (U.shows d.1.1 d.2.1, ())⟩
def vc113 : Prop :=
  ∀ (d : (SnD × Unit) × FmD × Unit),
  U.okForm d.2.1 = true →
  In64 (d.2.1.1 + (1 : Int)) ∧
  (0 : Int) ≤ d.2.1.1 + (1 : Int) ∧
  d.2.1.1 + (1 : Int) ≤ (64 : Int) ∧
  (decide (band (d.1.1.1 / (2 : Int) ^ (d.2.1.1 + (1 : Int)).toNat) (1 : Int) = (1 : Int)) = true → In64 (d.2.1.2.1 + (1 : Int))) ∧
  (decide (band (d.1.1.1 / (2 : Int) ^ (d.2.1.1 + (1 : Int)).toNat) (1 : Int) = (1 : Int)) = true → (0 : Int) ≤ d.2.1.2.1 + (1 : Int)) ∧
  (decide (band (d.1.1.1 / (2 : Int) ^ (d.2.1.1 + (1 : Int)).toNat) (1 : Int) = (1 : Int)) = true → d.2.1.2.1 + (1 : Int) ≤ (64 : Int)) ∧
  ((decide (band (d.1.1.1 / (2 : Int) ^ (d.2.1.1 + (1 : Int)).toNat) (1 : Int) = (1 : Int)) && decide (band (d.1.1.2.1 / (2 : Int) ^ (d.2.1.2.1 + (1 : Int)).toNat) (1 : Int) = (1 : Int)) &&
  U.within d.2.1.2.2.1 d.1.1.2.2.2.2.2.1.1 d.1.1.2.2.2.2.2.1.2.1 &&
  U.within d.2.1.2.2.2.1 d.1.1.2.2.2.2.2.2.1.1 d.1.1.2.2.2.2.2.2.1.2.1) =
  true →
  (0 : Int) ≤ d.2.1.2.2.2.2.1) ∧
  ((decide (band (d.1.1.1 / (2 : Int) ^ (d.2.1.1 + (1 : Int)).toNat) (1 : Int) = (1 : Int)) && decide (band (d.1.1.2.1 / (2 : Int) ^ (d.2.1.2.1 + (1 : Int)).toNat) (1 : Int) = (1 : Int)) &&
  U.within d.2.1.2.2.1 d.1.1.2.2.2.2.2.1.1 d.1.1.2.2.2.2.2.1.2.1 &&
  U.within d.2.1.2.2.2.1 d.1.1.2.2.2.2.2.2.1.1 d.1.1.2.2.2.2.2.2.1.2.1) =
  true →
  d.2.1.2.2.2.2.1 ≤ (64 : Int)) ∧
  ((decide (band (d.1.1.1 / (2 : Int) ^ (d.2.1.1 + (1 : Int)).toNat) (1 : Int) = (1 : Int)) && decide (band (d.1.1.2.1 / (2 : Int) ^ (d.2.1.2.1 + (1 : Int)).toNat) (1 : Int) = (1 : Int)) &&
  U.within d.2.1.2.2.1 d.1.1.2.2.2.2.2.1.1 d.1.1.2.2.2.2.2.1.2.1 &&
  U.within d.2.1.2.2.2.1 d.1.1.2.2.2.2.2.2.1.1 d.1.1.2.2.2.2.2.2.1.2.1 &&
  decide (band (d.1.1.2.2.1 / (2 : Int) ^ d.2.1.2.2.2.2.1.toNat) (1 : Int) = (1 : Int))) =
  true →
  ∀ (n : Int), n ∈ d.2.1.2.2.2.2.2.1 → (0 : Int) ≤ n ∧ n ≤ (7 : Int)) ∧
  (decide (band (d.1.1.1 / (2 : Int) ^ (d.2.1.1 + (1 : Int)).toNat) (1 : Int) = (1 : Int)) && decide (band (d.1.1.2.1 / (2 : Int) ^ (d.2.1.2.1 + (1 : Int)).toNat) (1 : Int) = (1 : Int)) &&
  U.within d.2.1.2.2.1 d.1.1.2.2.2.2.2.1.1 d.1.1.2.2.2.2.2.1.2.1 &&
  U.within d.2.1.2.2.2.1 d.1.1.2.2.2.2.2.2.1.1 d.1.1.2.2.2.2.2.2.1.2.1 &&
  decide (band (d.1.1.2.2.1 / (2 : Int) ^ d.2.1.2.2.2.2.1.toNat) (1 : Int) = (1 : Int)) &&
  U.moved d.1.1 d.2.1.2.2.2.2.2.1,
  ()) =
  (U.shows d.1.1 d.2.1, ())

theorem vc113_eq : fnVC (ctx 67 [(97, sp97), (137, sp137)] []) (fun _ => none) Tryz.f113 (bodyOf Tryz.f113) sp113 = vc113 := by kernel_rfl

def sp83 : Spec := ⟨[.val tSe, .val tE], [.bool], false, fun d => [U.okForm (U.fm d.2.1) = true], fun d => (U.agrees d.1.1 d.2.1, ())⟩
def vc83 : Prop :=
  ∀
  (d :
  (SnD × Unit) × ED × Unit),
  U.okForm (U.fm d.2.1) = true →
  ((decide (band d.2.1.2.2.1 d.1.1.2.2.2.1 ≠ (0 : Int)) && U.meet d.2.1.2.2.2.2.1 d.1.1.2.2.2.2.2.2.2.1) = true → U.okForm d.2.1.2.2.2.1 = true) ∧
  ((decide (band d.2.1.2.2.1 d.1.1.2.2.2.1 ≠ (0 : Int)) && U.meet d.2.1.2.2.2.2.1 d.1.1.2.2.2.2.2.2.2.1 && !U.shows d.1.1 d.2.1.2.2.2.1) = true →
  U.okForm d.2.1.2.2.2.1 = true) ∧
  ((decide (band d.2.1.2.2.1 d.1.1.2.2.2.1 ≠ (0 : Int)) && U.meet d.2.1.2.2.2.2.1 d.1.1.2.2.2.2.2.2.2.1 && !U.shows d.1.1 d.2.1.2.2.2.1) = true →
  U.okForm (U.mir d.2.1.2.2.2.1) = true) ∧
  (decide (band d.2.1.2.2.1 d.1.1.2.2.2.1 ≠ (0 : Int)) && U.meet d.2.1.2.2.2.2.1 d.1.1.2.2.2.2.2.2.2.1 &&
  (U.shows d.1.1 d.2.1.2.2.2.1 || U.shows d.1.1 (U.mir d.2.1.2.2.2.1)),
  ()) =
  (U.agrees d.1.1 d.2.1, ())

theorem vc83_eq : fnVC (ctx 33 [(68, sp68), (106, sp106), (113, sp113)] []) (fun _ => none) Tryz.f83 (bodyOf Tryz.f83) sp83 = vc83 := by kernel_rfl

def sp50 : Spec := ⟨[.val (.slice tE), .val tSn], [tM, tSe, .int], false, fun _ => [], fun d => ((U.opn d.1).1, (d.2.1, ()), U.lookE d.1 d.2.1, ())⟩
def vc50 : Prop :=
  ∀ (d : List ED × SnD × Unit),
  ((decide ((U.opn d.1).2.1 = (0 : Int)) && !U.okS d.2.1) = true → ((U.opn d.1).1, d.2, (13 : Int), ()) = ((U.opn d.1).1, d.2, U.lookE d.1 d.2.1, ())) ∧
  ((decide ((U.opn d.1).2.1 = (0 : Int)) && !U.okS d.2.1) = false → ((U.opn d.1).1, d.2, (U.opn d.1).2) = ((U.opn d.1).1, d.2, U.lookE d.1 d.2.1, ()))

theorem vc50_eq : fnVC (ctx 27 [(59, sp59), (82, sp82)] []) (fun _ => none) Tryz.f50 (bodyOf Tryz.f50) sp50 = vc50 := by kernel_rfl


def sp51 : Spec := ⟨[.val tM, .val tSe], [.slice .int], false, fun d => [d.1.length ≤ 1000, ∀ x ∈ d.1, U.okForm (U.fm x.2) = true], fun d => (U.find (U.vals d.1) d.2.1.1, ())⟩
def an51 : AnnZ Unit := fun r => match r with
  | 3 => some fun σ _ => { X := Bk × List ED × MI, sl := fun _ => [], ob := fun x => [(10, some (.iter .int tE x.1 none)), (8, some (.map false .int .int x.2.2))], ys := fun _ => (), inv := fun x => (x.2.1 ++ U.vals x.1).Perm (U.vals (gmI σ 10)) ∧ U.counts (gd tSe σ 1).1 x.2.1 x.2.2, mu := fun x => x.1.length }
  | _ => none
def vc51 : Prop :=
  ∀
  (d :
  List (Int × ED) ×
  (SnD × Unit) × Unit),
  d.1.length ≤ 1000 →
  (∀ (x : Int × ED), x ∈ d.1 → U.okForm (U.fm x.2) = true) →
  (∃ (x :
  List (Int × ED) ×
  List ED × List (Int × Int)),
  (True ∧ d.1 = x.1 ∧ [] = x.2.2 ∧ True) ∧ () = () ∧ (x.2.1 ++ U.vals x.1).Perm (U.vals d.1) ∧ U.counts d.2.1.1 x.2.1 x.2.2) ∧
  ∀
  (x :
  List (Int × ED) ×
  List ED × List (Int × Int)),
  (x.2.1 ++ U.vals x.1).Perm (U.vals d.1) ∧ U.counts d.2.1.1 x.2.1 x.2.2 →
  (x.1 = [] →
  (false = true → False) ∧ (false = false → (x.2.2.length ≤ 100000 ∧ True) ∧ ∀ (r : (List Int × Unit) × Unit), r.1.1 = U.sortI (U.keys x.2.2) → r.1 = (U.find (U.vals d.1) d.2.1.1, ()))) ∧
  ∀ (pre : List (Int × ED))
  (x_2 : Int × ED)
  (post : List (Int × ED)),
  x.1 = pre ++ x_2 :: post →
  (true = true →
  U.okForm (U.fm x_2.2) = true ∧
  (U.agrees d.2.1.1 x_2.2 = true →
  In64 (mvalD (0 : Int) (mfind Ty.int x_2.2.2.1 x.2.2) + (1 : Int)) ∧
  ∃ (x' :
  List (Int × ED) ×
  List ED × List (Int × Int)),
  (True ∧ mput Ty.int x_2.2.2.1 (mvalD (0 : Int) (mfind Ty.int x_2.2.2.1 x.2.2) + (1 : Int)) x.2.2 = x'.2.2 ∧ pre ++ post = x'.1 ∧ True) ∧
  () = () ∧ ((x'.2.1 ++ U.vals x'.1).Perm (U.vals d.1) ∧ U.counts d.2.1.1 x'.2.1 x'.2.2) ∧ x'.1.length < x.1.length) ∧
  (U.agrees d.2.1.1 x_2.2 = false →
  ∃ (x' :
  List (Int × ED) ×
  List ED × List (Int × Int)),
  (True ∧ x.2.2 = x'.2.2 ∧ pre ++ post = x'.1 ∧ True) ∧ () = () ∧ ((x'.2.1 ++ U.vals x'.1).Perm (U.vals d.1) ∧ U.counts d.2.1.1 x'.2.1 x'.2.2) ∧ x'.1.length < x.1.length)) ∧
  (true = false → (x.2.2.length ≤ 100000 ∧ True) ∧ ∀ (r : (List Int × Unit) × Unit), r.1.1 = U.sortI (U.keys x.2.2) → r.1 = (U.find (U.vals d.1) d.2.1.1, ()))

theorem vc51_eq : (rfnVC (ctxx 26 [(83, sp83)] [] [(85, sc85)] []) an51 (hkC (ctxx 26 [(83, sp83)] [] [(85, sc85)] []) (fun _ => none) tbl0 [25] [(84, 20, rs84)]) Tryz.f51 (bodyOf Tryz.f51) sp51) = vc51 := by kernel_rfl

def sp18 : Spec := ⟨[.val (.slice tE), .val tSn], [.slice .int, .int], false, fun _ => [], fun d => U.fnd d.1 d.2.1⟩
def vc18 : Prop :=
  ∀ (d : List ED × SnD × Unit),
  (decide (U.lookE d.1 d.2.1 ≠ (0 : Int)) = true → ([], U.lookE d.1 d.2.1, ()) = U.fnd d.1 d.2.1) ∧
  (decide (U.lookE d.1 d.2.1 ≠ (0 : Int)) = false →
  List.length (U.opn d.1).1 ≤ 1000 ∧
  (∀ (x : Int × ED), x ∈ (U.opn d.1).1 → U.okForm (U.fm x.2) = true) ∧
  (U.find (U.vals (U.opn d.1).1) d.2.1, (0 : Int), ()) = U.fnd d.1 d.2.1)

theorem vc18_eq : fnVC (ctx 22 [(50, sp50), (51, sp51)] []) (fun _ => none) Tryz.f18 (bodyOf Tryz.f18) sp18 = vc18 := by kernel_rfl


end Go.X
/-
  Signs: comparisons; books.
-/
namespace Go.X
open Go.Proofs

/-! ### Comparisons -/

structure IsCmp {α : Type} (c : α → α → Int) : Prop where
  anti : ∀ a b, c b a = -(c a b)
  trans : ∀ a b d, c a b ≤ 0 → c b d ≤ 0 → c a d ≤ 0

section
variable {α : Type} {c c1 c2 : α → α → Int}
theorem IsCmp.refl (h : IsCmp c) (a : α) : c a a = 0 := by have := h.anti a a; omega
theorem IsCmp.lt_le (h : IsCmp c) {a b d : α} (h1 : c a b < 0) (h2 : c b d ≤ 0) : c a d < 0 := by
  have h3 := h.trans a b d (by omega) h2
  have h4 := h.anti a d
  have h5 := h.anti a b
  by_cases e : c a d = 0
  · have := h.trans b d a h2 (by omega)
    omega
  · omega
theorem IsCmp.le_lt (h : IsCmp c) {a b d : α} (h1 : c a b ≤ 0) (h2 : c b d < 0) : c a d < 0 := by
  have h3 := h.trans a b d h1 (by omega)
  have h4 := h.anti a d
  have h5 := h.anti b d
  by_cases e : c a d = 0
  · have := h.trans d a b (by omega) h1
    omega
  · omega
theorem IsCmp.eq_eq (h : IsCmp c) {a b d : α} (h1 : c a b = 0) (h2 : c b d = 0) : c a d = 0 := by
  have h3 := h.trans a b d (by omega) (by omega)
  have h4 := h.anti a d
  have h5 := h.anti a b
  have h6 := h.anti b d
  have := h.trans d b a (by omega) (by omega)
  omega
def lexC (c1 c2 : α → α → Int) (a b : α) : Int := if c1 a b ≠ 0 then c1 a b else c2 a b
theorem lexC_ok (h1 : IsCmp c1) (h2 : IsCmp c2) : IsCmp (lexC c1 c2) where
  anti a b := by
    have k1 := h1.anti a b
    have k2 := h2.anti a b
    unfold lexC
    by_cases e : c1 a b = 0
    · rw [if_neg (by omega), if_neg (by omega)]; exact k2
    · rw [if_pos (by omega), if_pos e]; exact k1
  trans a b d := by
    unfold lexC
    by_cases e : c1 a b = 0
    · rw [if_neg (by omega)]
      by_cases f : c1 b d = 0
      · rw [if_neg (by omega), if_neg (by have := h1.eq_eq e f; omega)]
        exact h2.trans a b d
      · rw [if_pos f]
        intro _ k
        have := h1.le_lt (a := a) (b := b) (d := d) (by omega) (by omega)
        rw [if_pos (by omega)]; omega
    · rw [if_pos e]
      intro k
      by_cases f : c1 b d = 0
      · rw [if_neg (by omega)]
        intro _
        have := h1.lt_le (a := a) (b := b) (d := d) (by omega) (by omega)
        rw [if_pos (by omega)]; omega
      · rw [if_pos f]
        intro k2
        have := h1.lt_le (a := a) (b := b) (d := d) (by omega) (by omega)
        rw [if_pos (by omega)]; omega
theorem onC_ok {β : Type} (h : IsCmp c) (f : β → α) : IsCmp (fun a b => c (f a) (f b)) := ⟨fun a b => h.anti (f a) (f b), fun a b d => h.trans (f a) (f b) (f d)⟩
theorem lexC_zero {a b : α} : lexC c1 c2 a b = 0 ↔ c1 a b = 0 ∧ c2 a b = 0 := by
  unfold lexC
  split
  · constructor
    · intro h; contradiction
    · rintro ⟨h, _⟩; contradiction
  · rename_i h
    have h : c1 a b = 0 := by omega
    simp [h]
end

theorem cmp_ok : IsCmp U.cmp := by
  constructor
  · intro a b; unfold U.cmp; split <;> split <;> (try split) <;> (try split) <;> omega
  · intro a b d; unfold U.cmp; split <;> split <;> (try split) <;> (try split) <;> (try split) <;> (try split) <;> omega
theorem cmp_neg {a b : Int} : U.cmp a b < 0 ↔ a < b := by
  unfold U.cmp
  split
  · simp; omega
  · split <;> simp <;> omega
theorem cmpL_anti : ∀ a b : List Int, U.cmpL b a = -(U.cmpL a b)
  | [], [] => rfl
  | [], _ :: _ => rfl
  | _ :: _, [] => rfl
  | x :: a, y :: b => by
    have h := cmp_ok.anti x y
    simp only [U.cmpL]
    by_cases e : U.cmp x y = 0
    · rw [if_neg (by omega), if_neg (by omega)]; exact cmpL_anti a b
    · rw [if_pos (by omega), if_pos e]; exact h
theorem cmpL_trans : ∀ a b d : List Int, U.cmpL a b ≤ 0 → U.cmpL b d ≤ 0 → U.cmpL a d ≤ 0
  | [], [], [], _, _ => by decide
  | [], [], _ :: _, _, _ => by simp [U.cmpL]
  | [], _ :: _, [], _, h => by simp [U.cmpL] at h
  | [], _ :: _, _ :: _, _, _ => by simp [U.cmpL]
  | _ :: _, [], _, h, _ => by simp [U.cmpL] at h
  | _ :: _, _ :: _, [], _, h => by simp [U.cmpL] at h
  | x :: a, y :: b, z :: d, h1, h2 => by
    simp only [U.cmpL] at *
    by_cases e : U.cmp x y = 0
    · rw [if_neg (by omega)] at h1
      by_cases f : U.cmp y z = 0
      · rw [if_neg (by omega)] at h2
        rw [if_neg (by have := cmp_ok.eq_eq e f; omega)]
        exact cmpL_trans a b d h1 h2
      · rw [if_pos f] at h2
        have := cmp_ok.le_lt (a := x) (b := y) (d := z) (by omega) (by omega)
        rw [if_pos (by omega)]; omega
    · rw [if_pos e] at h1
      by_cases f : U.cmp y z = 0
      · have := cmp_ok.lt_le (a := x) (b := y) (d := z) (by omega) (by omega)
        rw [if_pos (by omega)]; omega
      · rw [if_pos f] at h2
        have := cmp_ok.lt_le (a := x) (b := y) (d := z) (by omega) (by omega)
        rw [if_pos (by omega)]; omega
theorem cmpLs_ok : IsCmp U.cmpL := ⟨cmpL_anti, cmpL_trans⟩
theorem cmpL_zero : ∀ {a b : List Int}, U.cmpL a b = 0 ↔ a = b
  | [], [] => by simp [U.cmpL]
  | [], _ :: _ => by simp [U.cmpL]
  | _ :: _, [] => by simp [U.cmpL]
  | x :: a, y :: b => by
    simp only [U.cmpL, List.cons.injEq]
    by_cases e : U.cmp x y = 0
    · rw [if_neg (by omega), cmpL_zero, cmp_zero.1 e]; simp
    · rw [if_pos e]
      constructor
      · intro h; contradiction
      · rintro ⟨h, _⟩; exact absurd (cmp_zero.2 h) e

theorem firstNZ_cons (x : Int) (l : List Int) : U.firstNZ (x :: l) = if x ≠ 0 then x else U.firstNZ l := by
  unfold U.firstNZ
  by_cases e : x = 0
  · simp [List.find?, e]
  · simp [List.find?, e]
theorem firstNZ_one (x : Int) : U.firstNZ [x] = x := by
  rw [firstNZ_cons]
  split
  · rfl
  · rename_i h
    have : x = 0 := by omega
    rw [this]; rfl

def ordC : FmD → FmD → Int := lexC (fun a b => U.cmp (U.rw' a) (U.rw' b)) (lexC (fun a b => U.cmp (U.co a) (U.co b)) (lexC (fun a b => U.cmp (U.rt a) (U.rt b)) (lexC (fun a b => U.cmp (U.lf a) (U.lf b)) (lexC (fun a b => U.cmp (U.fc a) (U.fc b)) (fun a b => U.cmpL (U.mv a) (U.mv b))))))
theorem order_lex (a b : FmD) : U.order a b = ordC a b := by
  unfold U.order ordC lexC
  rw [firstNZ_cons, firstNZ_cons, firstNZ_cons, firstNZ_cons, firstNZ_cons, firstNZ_one]
theorem order_fun : U.order = ordC := by funext a b; exact order_lex a b
theorem order_ok : IsCmp U.order := by
  rw [order_fun]
  exact lexC_ok (onC_ok cmp_ok U.rw') (lexC_ok (onC_ok cmp_ok U.co) (lexC_ok (onC_ok cmp_ok U.rt) (lexC_ok (onC_ok cmp_ok U.lf) (lexC_ok (onC_ok cmp_ok U.fc) (onC_ok cmpLs_ok U.mv)))))
theorem order_zero {a b : FmD} : U.order a b = 0 ↔ a = b := by
  rw [order_lex]
  unfold ordC
  simp only [lexC_zero, cmp_zero, cmpL_zero]
  obtain ⟨a1, a2, a3, a4, a5, a6, ⟨⟩⟩ := a
  obtain ⟨b1, b2, b3, b4, b5, b6, ⟨⟩⟩ := b
  unfold U.rw' U.co U.rt U.lf U.fc U.mv
  simp only [Prod.mk.injEq, and_true]
  constructor
  · rintro ⟨h1, h2, h3, h4, h5, h6⟩; exact ⟨h3, h4, h2, h1, h5, h6⟩
  · rintro ⟨h3, h4, h2, h1, h5, h6⟩; exact ⟨h1, h2, h3, h4, h5, h6⟩
theorem cmpE_lex (a b : ED) : U.cmpE a b = lexC (fun a b => U.order (U.fm a) (U.fm b)) (lexC (fun a b => U.cmp (U.sg a) (U.sg b)) (fun a b => U.cmp (U.id' a) (U.id' b))) a b := by
  unfold U.cmpE lexC
  rw [firstNZ_cons, firstNZ_cons, firstNZ_one]
theorem cmpE_ok : IsCmp U.cmpE := by
  have : U.cmpE = lexC (fun a b => U.order (U.fm a) (U.fm b)) (lexC (fun a b => U.cmp (U.sg a) (U.sg b)) (fun a b => U.cmp (U.id' a) (U.id' b))) := by funext a b; exact cmpE_lex a b
  rw [this]
  exact lexC_ok (onC_ok order_ok U.fm) (lexC_ok (onC_ok cmp_ok U.sg) (onC_ok cmp_ok U.id'))
theorem cmpE_zero {a b : ED} (h : U.cmpE a b = 0) : U.id' a = U.id' b := by
  rw [cmpE_lex] at h
  simp only [lexC_zero, cmp_zero] at h
  exact h.2.2

/-- an order of entries -/
theorem ordOn_cmp {c : ED → ED → Int} (hc : IsCmp c) {l : List ED} (h : ∀ x y, x ∈ l → y ∈ l → c x y = 0 → x = y) : OrdOn (U.lessF tE fun x => (c x.1 x.2.1, ())) l where
  irrefl x _ := by
    unfold U.lessF
    have := hc.refl x
    simp only [this]; rfl
  trans x y z _ _ _ h1 h2 := by
    unfold U.lessF at *
    have h1 := of_decide_eq_true h1
    have h2 := of_decide_eq_true h2
    exact decide_eq_true (hc.lt_le h1 (by have h2 : c y z < 0 := h2; show c y z ≤ 0; omega))
  total x y hx hy h1 h2 := by
    unfold U.lessF at *
    have h1 : ¬ c x y < 0 := of_decide_eq_false h1
    have h2 : ¬ c y x < 0 := of_decide_eq_false h2
    have := hc.anti x y
    exact h x y hx hy (by omega)

/-! ### Maps at ints -/

section
variable {β : Type}
theorem mfind_none {k : Int} : ∀ {l : List (Int × β)}, misS (mfind .int k l) = false ↔ k ∉ l.map (·.1)
  | [] => by simp [mfind, misS]
  | e :: r => by
    by_cases h : k = e.1
    · simp [mfind, misS, h]
    · simp only [mfind, h, decide_false, Bool.false_eq_true, if_false, List.map_cons, List.mem_cons, false_or]
      exact mfind_none
theorem mput_new {k : Int} {v : β} : ∀ {l : List (Int × β)}, k ∉ l.map (·.1) → mput .int k v l = l ++ [(k, v)]
  | [], _ => rfl
  | e :: r, h => by
    simp only [List.map_cons, List.mem_cons, not_or] at h
    simp only [mput, h.1, decide_false, Bool.false_eq_true, if_false, mput_new h.2, List.cons_append]
theorem mput_keys {k : Int} {v : β} : ∀ {l : List (Int × β)}, k ∈ l.map (·.1) → (mput .int k v l).map (·.1) = l.map (·.1)
  | [], h => by simp at h
  | e :: r, h => by
    by_cases hk : k = e.1
    · simp [mput, hk]
    · simp only [List.map_cons, List.mem_cons, hk, false_or] at h
      simp only [mput, hk, decide_false, Bool.false_eq_true, if_false, List.map_cons, mput_keys h]
theorem mput_mem {k : Int} {v : β} : ∀ {l : List (Int × β)} {p : Int × β}, p ∈ mput .int k v l → p = (k, v) ∨ p ∈ l
  | [], p, h => by simp [mput] at h; exact .inl h
  | e :: r, p, h => by
    by_cases hk : k = e.1
    · simp only [mput, hk, decide_true, if_true, List.mem_cons] at h
      rcases h with h | h
      · exact .inl (by rw [h, hk])
      · exact .inr (List.mem_cons_of_mem _ h)
    · simp only [mput, hk, decide_false, Bool.false_eq_true, if_false, List.mem_cons] at h
      rcases h with h | h
      · exact .inr (by rw [h]; simp)
      · rcases mput_mem h with h | h
        · exact .inl h
        · exact .inr (List.mem_cons_of_mem _ h)
theorem mfind_mem {k : Int} {v : β} : ∀ {l : List (Int × β)}, mfind .int k l = some v → (k, v) ∈ l
  | [], h => by simp [mfind] at h
  | e :: r, h => by
    by_cases hk : k = e.1
    · simp only [mfind, hk, decide_true, if_true, Option.some.injEq] at h
      rw [hk, ← h]; simp
    · simp only [mfind, hk, decide_false, Bool.false_eq_true, if_false] at h
      exact List.mem_cons_of_mem _ (mfind_mem h)
end

/-! ### Books -/

structure OkBk (b : Bk) : Prop where
  nodup : (b.map (·.1)).Nodup
  key : ∀ p, p ∈ b → p.1 = U.id' p.2
  ok : ∀ p, p ∈ b → U.okE p.2 = true

theorem canE_ok {x : ED} (h : U.okE x = true) : U.okE (U.canE x) = true := by
  have hf := okE_form h
  unfold U.okE at *
  simp only [Bool.and_eq_true] at *
  refine ⟨h.1, ?_⟩
  show U.okForm (U.canon (U.fm x)) = true
  rw [canon_eq hf]; exact canR_ok hf
theorem add1_ok {b : Bool × Bk} {x : ED} (hb : OkBk b.2) (hx : U.okE x = true) : OkBk (U.add1 b x).2 := by
  by_cases h : misS (mfind .int (U.id' x) b.2) = true
  · rw [add1_old h]; exact hb
  · have h : misS (mfind .int (U.id' x) b.2) = false := by simpa using h
    rw [add1_new h]
    have hk := mfind_none.1 h
    show OkBk (mput .int (U.id' x) (U.canE x) b.2)
    rw [mput_new hk]
    refine ⟨?_, fun p hp => ?_, fun p hp => ?_⟩
    · rw [List.map_append, List.nodup_append]
      refine ⟨hb.nodup, by simp, fun a ha c hc e => ?_⟩
      simp at hc; subst e; subst hc; exact hk ha
    · rcases List.mem_append.1 hp with hp | hp
      · exact hb.key p hp
      · simp at hp; subst hp; rfl
    · rcases List.mem_append.1 hp with hp | hp
      · exact hb.ok p hp
      · simp at hp; subst hp; exact canE_ok hx
theorem foldl_ok : ∀ (l : List ED) (b : Bool × Bk), OkBk b.2 → (∀ x, x ∈ l → U.okE x = true) → OkBk (l.foldl U.add1 b).2
  | [], b, h, _ => h
  | x :: r, b, h, hl => foldl_ok r (U.add1 b x) (add1_ok h (hl x (by simp))) (fun y hy => hl y (by simp [hy]))
theorem addTo_ok {b : Bk} {l : List ED} (hb : OkBk b) (hl : ∀ x, x ∈ l → U.okE x = true) : OkBk (U.addTo b l).2 := foldl_ok l (true, b) hb hl
theorem okB_nil : OkBk [] := ⟨by simp, by simp, by simp⟩
theorem opn_ok (l : List ED) : OkBk (U.opn l).1 := by
  unfold U.opn
  split
  · exact okB_nil
  · rename_i h
    split
    · exact okB_nil
    · refine addTo_ok okB_nil (fun x hx => ?_)
      have h2 : l.all U.okE = true := by
        cases e : l.all U.okE with
        | true => rfl
        | false => exact absurd (.inr e) h
      exact List.all_eq_true.1 h2 x hx
theorem foldl_len : ∀ (l : List ED) (b : Bool × Bk), (l.foldl U.add1 b).2.length ≤ b.2.length + l.length
  | [], b => by simp
  | x :: r, b => by
    have h1 := foldl_len r (U.add1 b x)
    have h2 : (U.add1 b x).2.length ≤ b.2.length + 1 := by
      by_cases h : misS (mfind .int (U.id' x) b.2) = true
      · rw [add1_old h]; simp
      · have h : misS (mfind .int (U.id' x) b.2) = false := by simpa using h
        rw [add1_new h]
        show (mput .int (U.id' x) (U.canE x) b.2).length ≤ _
        rw [mput_new (mfind_none.1 h)]; simp
    simp only [List.foldl_cons, List.length_cons]; omega
theorem addTo_len (b : Bk) (l : List ED) : (U.addTo b l).2.length ≤ b.length + l.length := foldl_len l (true, b)
theorem opn_len (l : List ED) : (U.opn l).1.length ≤ 40 := by
  unfold U.opn
  split
  · simp
  · rename_i h
    split
    · simp
    · have := addTo_len [] l
      simp only [not_or] at h
      simp at this
      show (U.addTo [] l).2.length ≤ 40
      omega
theorem okB_inj {b : Bk} (hb : OkBk b) {x y : ED} (hx : x ∈ U.vals b) (hy : y ∈ U.vals b) (h : U.id' x = U.id' y) : x = y := by
  unfold U.vals at hx hy
  obtain ⟨p, hp, rfl⟩ := List.mem_map.1 hx
  obtain ⟨q, hq, rfl⟩ := List.mem_map.1 hy
  have h1 := hb.key p hp
  have h2 := hb.key q hq
  have e : p.1 = q.1 := by rw [h1, h2, h]
  have : ∀ (l : Bk), (l.map (·.1)).Nodup → p ∈ l → q ∈ l → p = q := by
    intro l
    induction l with
    | nil => intro _ h; simp at h
    | cons a r ih =>
      intro hn hp hq
      simp only [List.map_cons, List.nodup_cons] at hn
      rcases List.mem_cons.1 hp with rfl | hp'
      · rcases List.mem_cons.1 hq with rfl | hq'
        · rfl
        · exact absurd (List.mem_map.2 ⟨q, hq', e.symm⟩) hn.1
      · rcases List.mem_cons.1 hq with rfl | hq'
        · exact absurd (List.mem_map.2 ⟨p, hp', e⟩) hn.1
        · exact ih hn.2 hp' hq'
  rw [this b hb.nodup hp hq]
theorem vals_ok {b : Bk} (hb : OkBk b) {x : ED} (hx : x ∈ U.vals b) : U.okE x = true := by
  obtain ⟨p, hp, rfl⟩ := List.mem_map.1 hx
  exact hb.ok p hp
theorem ordE {b : Bk} (hb : OkBk b) : OrdOn (U.lessF tE fun x => (U.cmpE x.1 x.2.1, ())) (U.vals b) :=
  ordOn_cmp cmpE_ok (fun _ _ hx hy h => okB_inj hb hx hy (cmpE_zero h))
theorem ordI {b : Bk} (hb : OkBk b) : OrdOn (U.lessF tE fun x => (U.cmp (U.id' x.1) (U.id' x.2.1), ())) (U.vals b) :=
  ordOn_cmp (c := fun a b => U.cmp (U.id' a) (U.id' b)) (onC_ok cmp_ok U.id') (fun _ _ hx hy h => okB_inj hb hx hy (cmp_zero.1 h))

/-! ### Signs that are found -/

theorem dedup_mem {n : Int} : ∀ {l : List Int}, n ∈ U.dedup l ↔ n ∈ l
  | [] => Iff.rfl
  | a :: r => by
    unfold U.dedup
    split
    · rename_i h
      rw [dedup_mem, List.mem_cons]
      constructor
      · exact .inr
      · rintro (rfl | h2)
        · exact dedup_mem.1 h
        · exact h2
    · rw [List.mem_cons, List.mem_cons, dedup_mem]
theorem dedup_nodup : ∀ (l : List Int), (U.dedup l).Nodup
  | [] => List.nodup_nil
  | a :: r => by
    unfold U.dedup
    split
    · exact dedup_nodup r
    · rename_i h; exact List.nodup_cons.2 ⟨h, dedup_nodup r⟩
theorem perm_of_nodup : ∀ {a b : List Int}, a.Nodup → b.Nodup → (∀ n, n ∈ a ↔ n ∈ b) → a.Perm b
  | [], b, _, _, h => by
    have : b = [] := by
      cases b with
      | nil => rfl
      | cons x r => exact absurd ((h x).2 (by simp)) (by simp)
    rw [this]
  | x :: r, b, ha, hb, h => by
    have hx : x ∈ b := (h x).1 (by simp)
    have hp := List.perm_cons_erase hx
    refine (List.Perm.cons x (perm_of_nodup (List.nodup_cons.1 ha).2 (hb.erase x) (fun n => ?_))).trans hp.symm
    rw [hb.mem_erase_iff]
    constructor
    · intro hn
      exact ⟨fun e => by subst e; exact (List.nodup_cons.1 ha).1 hn, (h n).1 (List.mem_cons_of_mem _ hn)⟩
    · rintro ⟨hne, hn⟩
      rcases List.mem_cons.1 ((h n).2 hn) with e | hr
      · exact absurd e hne
      · exact hr

end Go.X
/-
  Signs: Order, Merge, Find.
-/
namespace Go.X
open Go.Proofs

theorem h61 : vc61 := fun _ => rfl
theorem ok61 : FnOK PR 61 sp61 := mkFn (vc61_eq.mpr h61) Tryz.func61 (by kernel_rfl) (by kernel_rfl) (by kernel_rfl) (by kernel_rfl) ⟨fun _ => ok62, fun _ => ok63, fun _ => ok64, fun _ => ok65, trivial⟩ trivial

theorem srtE_perm (l : List ED) : (U.srtE l).Perm l := sortBy_perm l
theorem srtI_perm (l : List ED) : (U.srtI l).Perm l := sortBy_perm l
theorem h32 : vc32 := by
  intro d
  refine ⟨fun h => ?_, fun h => ?_⟩
  · unfold U.ord; rw [if_pos (of_decide_eq_true h)]
  · have hb := opn_ok d.1
    have h40 := opn_len d.1
    refine ⟨by omega, fun _ _ _ _ => trivial, ordE hb, ?_⟩
    have hlen : (U.srtE (U.vals (U.opn d.1).1)).length ≤ 40 := by
      rw [(srtE_perm (U.vals (U.opn d.1).1)).length_eq]; unfold U.vals; rw [List.length_map]; exact h40
    obtain ⟨S, hS⟩ : ∃ S, S = U.srtE (U.vals (U.opn d.1).1) := ⟨_, rfl⟩
    have e : U.sortBy (U.lessF tE fun (x : ED × ED × Unit) => (U.cmpE x.fst x.snd.fst, ())) (U.vals (U.opn d.1).1) = S := hS.symm
    rw [e]
    rw [← hS] at hlen
    refine fun hl => ⟨⟨0, ⟨⟨rfl, trivial, trivial⟩, rfl, trivial⟩, Nat.zero_le _⟩, fun i hi => ⟨fun h2 => ?_, fun h2 => ?_⟩⟩
    · have h2 : i < S.length := by simpa using h2
      simp only [Int.toNat_natCast, List.length_map, List.length_take]
      refine ⟨by omega, by omega, ?_, L.in64 (by omega) (by omega), i + 1, ⟨⟨by simp, trivial, trivial⟩, ?_, trivial⟩, h2, by omega⟩
      · simp only [List.length_cons, List.length_nil]; omega
      · rw [L.take_succ h2]; simp; rfl
    · have h2 : S.length ≤ i := by simpa using h2
      unfold U.ord
      rw [if_neg (of_decide_eq_false h), ← hS, List.take_of_length_le h2]
theorem ok32 : FnOK PR 32 sp32 := mkFn (vc32_eq.mpr h32) Tryz.func32 (by kernel_rfl) (by kernel_rfl) (by kernel_rfl) (by kernel_rfl) ⟨fun _ => ok59, fun _ => ok60, fun _ => ok61, trivial⟩ trivial

theorem h45 : vc45 := by
  intro d h
  unfold U.mrg
  refine ⟨fun h1 => by rw [if_pos (of_decide_eq_true h1)], fun h1 => ⟨fun h2 => ?_, fun h2 => ?_⟩⟩
  · rw [if_neg (of_decide_eq_false h1), if_pos (of_decide_eq_true h2)]
  · have h1 := of_decide_eq_false h1
    have h2 := of_decide_eq_false h2
    rcases h with h | h
    · exact h1 h
    · exact h2 h
theorem ok45 : FnOK PR 45 sp45 := mkFn (vc45_eq.mpr h45) Tryz.func45 (by kernel_rfl) (by kernel_rfl) (by kernel_rfl) (by kernel_rfl) ⟨fun _ => ok59, fun _ => ok60, fun _ => ok65, trivial⟩ ⟨ok80, trivial⟩
theorem h45w : vc45w := by
  intro d h1 h2
  have hb := opn_ok d.2.1
  have hbl := opn_ok d.1
  have h40 := opn_len d.2.1
  have h41 := opn_len d.1
  have n1 : ¬ (U.opn d.1).2.1 ≠ 0 := fun h => h h1
  have n2 : ¬ (U.opn d.2.1).2.1 ≠ 0 := fun h => h h2
  have hm : ∀ x, x ∈ U.srtI (U.vals (U.opn d.2.1).1) → U.okE x = true := fun x hx => vals_ok hb ((srtI_perm _).mem_iff.1 hx)
  have hr : OkBk (U.mrgTo d.1 d.2.1).2 := addTo_ok hbl hm
  have hl : (U.mrgTo d.1 d.2.1).2.length ≤ 80 := by
    have h3 := addTo_len (U.opn d.1).1 (U.srtI (U.vals (U.opn d.2.1).1))
    have h4 : (U.srtI (U.vals (U.opn d.2.1).1)).length ≤ 40 := by
      rw [(srtI_perm (U.vals (U.opn d.2.1).1)).length_eq]; unfold U.vals; rw [List.length_map]; exact h40
    show (U.addTo _ _).2.length ≤ 80
    omega
  unfold U.mrg
  rw [if_neg n1, if_neg n2]
  refine ⟨h1, fun h => absurd rfl (of_decide_eq_true h), fun _ => ⟨h2, fun h => absurd rfl (of_decide_eq_true h), fun _ => ⟨by omega, fun _ _ _ _ => trivial, ordI hb, hm, fun h3 => ?_, fun h3 => ⟨fun h4 => ?_, fun h4 => ⟨?_, fun _ _ _ _ => trivial, ordI hr, ?_⟩⟩⟩⟩⟩
  · have h3 : (40 : Int) < ((U.mrgTo d.1 d.2.1).2.length : Int) := of_decide_eq_true h3
    rw [if_pos (by omega)]
  · have h3 : ¬ (40 : Int) < ((U.mrgTo d.1 d.2.1).2.length : Int) := of_decide_eq_false h3
    have h4 : (!(U.mrgTo d.1 d.2.1).1) = true := h4
    have h4 : (U.mrgTo d.1 d.2.1).1 = false := by simpa using h4
    rw [if_neg (by omega), if_pos h4]
  · show (U.mrgTo d.1 d.2.1).2.length ≤ 100000
    omega
  · have h3 : ¬ (40 : Int) < ((U.mrgTo d.1 d.2.1).2.length : Int) := of_decide_eq_false h3
    have h4 : (!(U.mrgTo d.1 d.2.1).1) = false := h4
    have h4 : (U.mrgTo d.1 d.2.1).1 = true := by simpa using h4
    rw [if_neg (by omega), if_neg (by rw [h4]; simp)]
    rfl
theorem ok45w : FnOK PR 45 sp45w := mkFn (vc45w_eq.mpr h45w) Tryz.func45 (by kernel_rfl) (by kernel_rfl) (by kernel_rfl) (by kernel_rfl) ⟨fun _ => ok60, fun _ => ok65, trivial⟩ ⟨ok59w, ok80, trivial⟩

/-- two conditions of one function -/
theorem ok45all : FnOK PR 45 ⟨[.val (.slice tE), .val (.slice tE)], [.slice tE, .int], false, fun _ => [], fun d => U.mrg d.1 d.2.1⟩ := by
  refine ⟨ok45.enters, fun H w vals d hg hp _ => ?_⟩
  by_cases h1 : (U.opn d.1).2.1 = 0
  · by_cases h2 : (U.opn d.2.1).2.1 = 0
    · exact ok45w.calls H w vals d hg hp ⟨h1, h2, trivial⟩
    · exact ok45.calls H w vals d hg hp ⟨.inr h2, trivial⟩
  · exact ok45.calls H w vals d hg hp ⟨.inl h1, trivial⟩

theorem h109 : vc109 := fun _ => rfl
theorem ok109 : FnOK PR 109 sp109 := mkFn (vc109_eq.mpr h109) Tryz.func109 (by kernel_rfl) (by kernel_rfl) (by kernel_rfl) (by kernel_rfl) ⟨fun _ => ok97, trivial⟩ trivial
theorem h110 : vc110 := fun _ h => asks_of _ h rfl
theorem ok110 : FnOK PR 110 sp110 := mkFn (vc110_eq.mpr h110) Tryz.func110 (by kernel_rfl) (by kernel_rfl) (by kernel_rfl) (by kernel_rfl) trivial trivial
theorem h111 : vc111 := fun _ => rfl
theorem ok111 : FnOK PR 111 sp111 := mkFn (vc111_eq.mpr h111) Tryz.func111 (by kernel_rfl) (by kernel_rfl) (by kernel_rfl) (by kernel_rfl) trivial trivial
theorem h82 : vc82 := by
  intro d
  refine ⟨fun _ => trivial, fun _ _ _ => trivial, fun _ => ⟨fun _ _ _ => ⟨trivial, trivial⟩, ?_⟩⟩
  congr 1
  have e : (d.fst.fst.snd.snd.snd.snd.snd.snd.snd.snd.fst.all (U.apply fun (x : Int × Unit) => (U.within x.fst (1 : Int) (255 : Int), ()))) = (U.mvs d.1.1).all U.okSet := rfl
  rw [e]
  have e2 : (List.all [d.fst.fst.snd.snd.snd.snd.snd.fst, d.fst.fst.snd.snd.snd.snd.snd.snd.fst, d.fst.fst.snd.snd.snd.snd.snd.snd.snd.fst] (U.apply fun (x : (Int × Int × Unit) × Unit) => (U.ordered x.fst, ()))) = (U.ordered (U.cols d.1.1) && (U.ordered (U.rows d.1.1) && (U.ordered (U.ages d.1.1) && true))) := rfl
  rw [e2]
  unfold U.okS U.ordered U.within U.rights U.lefts U.faces U.rgs U.lost U.cols U.rows U.ages
  rw [Bool.eq_iff_iff]
  have e3 : U.mvs d.1.1 = d.fst.fst.snd.snd.snd.snd.snd.snd.snd.snd.fst := rfl
  rw [e3]
  simp only [Bool.and_eq_true, decide_eq_true_eq]
  constructor
  · rintro ⟨⟨⟨⟨⟨⟨⟨h1, h2⟩, h3⟩, h4⟩, h5, h6, h7, _⟩, h8⟩, h9⟩, h10⟩
    exact ⟨⟨h1.1, h1.2, h2.1, h2.2, h3.1, h3.2, h4.1, h4.2, h5, h6, h7, by omega, h10.1, h10.2⟩, h9⟩
  · rintro ⟨⟨h1, h1', h2, h2', h3, h3', h4, h4', h5, h6, h7, h8, h9, h9'⟩, h10⟩
    exact ⟨⟨⟨⟨⟨⟨⟨⟨h1, h1'⟩, h2, h2'⟩, h3, h3'⟩, h4, h4'⟩, h5, h6, h7, trivial⟩, by omega⟩, h10⟩, h9, h9'⟩
theorem ok82 : FnOK PR 82 sp82 := mkFn (vc82_eq.mpr h82) Tryz.func82 (by kernel_rfl) (by kernel_rfl) (by kernel_rfl) (by kernel_rfl) ⟨fun _ => ok97, fun _ => ok105, fun _ => ok109, fun _ => ok110, fun _ => ok111, fun _ => ok112, trivial⟩ trivial
theorem h150 : vc150 := fun _ h1 h2 => ⟨h1, h2, rfl⟩
theorem ok150 : FnOK PR 150 sp150 := mkFn (vc150_eq.mpr h150) Tryz.func150 (by kernel_rfl) (by kernel_rfl) (by kernel_rfl) (by kernel_rfl) trivial trivial

theorem idx_lt {α : Type} {p : α → Bool} {l : List α} : U.idx p l = -1 ∨ 0 ≤ U.idx p l ∧ U.idx p l < l.length := by
  unfold U.idx
  split
  · rename_i i h
    obtain ⟨h1, _⟩ := List.findIdx?_eq_some_iff_getElem.1 h
    exact .inr ⟨by omega, by omega⟩
  · exact .inl rfl

theorem h137 : vc137 := by
  intro d hm hl1 hl2
  have em : d.fst.fst.snd.snd.snd.snd.snd.snd.snd.snd.fst = U.mvs d.1.1 := rfl
  rw [em] at hl2 ⊢
  refine ⟨by unfold In64; omega, fun h => ?_, fun h hl3 => ⟨⟨(0, d.2.1), ⟨⟨rfl, rfl, trivial⟩, trivial⟩, Nat.zero_le _, rfl, hm, Nat.le_refl _⟩, fun x hx => ⟨fun h2 => ?_, fun h2 => ?_⟩⟩⟩
  · congr 1
    unfold U.moved
    have h : (!U.within (((d.snd.fst.length : Nat) : Int) - ((U.mvs d.1.1).length : Int)) 0 (U.lost d.1.1)) = true := h
    have h : U.within (((d.snd.fst.length : Nat) : Int) - ((U.mvs d.1.1).length : Int)) 0 (U.lost d.1.1) = false := by simpa using h
    rw [h, Bool.false_and]
  · obtain ⟨k1, k2, k3, k4⟩ := hx
    have h2 : x.1 < (U.mvs d.1.1).length := by simpa using h2
    rw [drop_nth h2] at k2
    simp only [U.greedy] at k2
    have h : (!U.within (((d.snd.fst.length : Nat) : Int) - ((U.mvs d.1.1).length : Int)) 0 (U.lost d.1.1)) = false := h
    have hw : U.within (((d.snd.fst.length : Nat) : Int) - ((U.mvs d.1.1).length : Int)) 0 (U.lost d.1.1) = true := by simpa using h
    have hi := idx_lt (p := U.bit (nth (U.mvs d.1.1) x.1)) (l := x.2)
    have ej : ∀ n : Nat, n = x.1 → U.idx (U.apply fun (x_3 : Int × Unit) => (U.bit (nth (U.mvs d.1.1) n) x_3.fst, ())) x.2 = U.idx (U.bit (nth (U.mvs d.1.1) x.1)) x.2 := fun n hn => by subst hn; rfl
    have ej := ej ((x.1 : Int)).toNat (Int.toNat_natCast _)
    generalize U.idx (U.apply fun (x_3 : Int × Unit) => (U.bit (nth (U.mvs d.1.1) ((x.1 : Int)).toNat) x_3.fst, ())) x.2 = j at ej ⊢
    rw [← ej] at k2 hi
    refine ⟨by omega, by omega, fun g hg => ⟨(k3 g hg).1, by have := (k3 g hg).2; omega, trivial⟩, fun h3 => ?_, fun h3 => ?_⟩
    · have h3 := of_decide_eq_true h3
      rw [if_pos h3] at k2
      congr 1
      unfold U.moved
      rw [hw, k2]; rfl
    · have h3 := of_decide_eq_false h3
      rw [if_neg h3] at k2
      refine ⟨by unfold In64; omega, by omega, by omega, Int.le_refl _, L.in64 (by omega) (by omega), (x.1 + 1, x.2.drop (j.toNat + 1)), ⟨⟨by simp, ?_, trivial⟩, trivial⟩, ⟨h2, k2, fun n hn => k3 n (List.mem_of_mem_drop hn), ?_⟩, by show _ - (x.1 + 1) < _; omega⟩
      · have e : (j + 1).toNat = j.toNat + 1 := by omega
        rw [e]
        apply List.take_of_length_le
        rw [List.length_drop]; omega
      · show (x.2.drop _).length ≤ _
        rw [List.length_drop]; omega
  · obtain ⟨i, l⟩ := x
    obtain ⟨k1, k2, k3, k4⟩ := hx
    have h2 : (U.mvs d.1.1).length ≤ i := by simpa using h2
    have h : (!U.within (((d.snd.fst.length : Nat) : Int) - ((U.mvs d.1.1).length : Int)) 0 (U.lost d.1.1)) = false := h
    have hw : U.within (((d.snd.fst.length : Nat) : Int) - ((U.mvs d.1.1).length : Int)) 0 (U.lost d.1.1) = true := by simpa using h
    congr 1
    unfold U.moved
    rw [List.drop_of_length_le h2] at k2
    rw [hw, k2]; rfl
theorem ok137 : FnOK PR 137 sp137 := mkFn (vc137_eq.mpr h137) Tryz.func137 (by kernel_rfl) (by kernel_rfl) (by kernel_rfl) (by kernel_rfl) ⟨fun _ => ok97, fun _ => ok148, fun _ => ok150, trivial⟩ trivial

theorem h113 : vc113 := by
  intro d hok
  obtain ⟨h1, h2⟩ := okForm_iff.1 hok
  refine ⟨by unfold In64; omega, by omega, by omega, fun _ => by unfold In64; omega, fun _ => by omega, fun _ => by omega, fun _ => by omega, fun _ => by omega, fun _ => h2, rfl⟩
theorem ok113 : FnOK PR 113 sp113 := mkFn (vc113_eq.mpr h113) Tryz.func113 (by kernel_rfl) (by kernel_rfl) (by kernel_rfl) (by kernel_rfl) ⟨fun _ => ok97, fun _ => ok137, trivial⟩ trivial
theorem h83 : vc83 := fun _ hok => ⟨fun _ => hok, fun _ => hok, fun _ => mir_ok hok, rfl⟩
theorem ok83 : FnOK PR 83 sp83 := mkFn (vc83_eq.mpr h83) Tryz.func83 (by kernel_rfl) (by kernel_rfl) (by kernel_rfl) (by kernel_rfl) ⟨fun _ => ok68, fun _ => ok106, fun _ => ok113, trivial⟩ trivial
theorem h50 : vc50 := by
  intro d
  unfold U.lookE
  refine ⟨fun h => ?_, fun h => ?_⟩
  · simp only [Bool.and_eq_true, decide_eq_true_eq, Bool.not_eq_true'] at h
    rw [if_pos h]
  · rw [if_neg (by
      rintro ⟨k1, k2⟩
      rw [k1, k2] at h; simp at h)]
theorem ok50 : FnOK PR 50 sp50 := mkFn (vc50_eq.mpr h50) Tryz.func50 (by kernel_rfl) (by kernel_rfl) (by kernel_rfl) (by kernel_rfl) ⟨fun _ => ok59, fun _ => ok82, trivial⟩ trivial

/-! ### Signs that are found -/

theorem counts_miss {s : SnD} {done : List ED} {m : MI} {x : ED} (h : U.counts s done m) (hx : U.agrees s x = false) : U.counts s (done ++ [x]) m := by
  obtain ⟨h1, h2, h3⟩ := h
  refine ⟨h1, fun n => ?_, fun p hp => ?_⟩
  · rw [h2 n]
    constructor
    · rintro ⟨y, hy, k⟩; exact ⟨y, by simp [hy], k⟩
    · rintro ⟨y, hy, k1, k2⟩
      rcases List.mem_append.1 hy with hy | hy
      · exact ⟨y, hy, k1, k2⟩
      · simp at hy; subst hy; rw [hx] at k1; cases k1
  · have := h3 p hp
    simp only [List.length_append, List.length_cons, List.length_nil]; omega

theorem counts_val {s : SnD} {done : List ED} {m : MI} (h : U.counts s done m) (k : Int) : 0 ≤ mvalD (0 : Int) (mfind .int k m) ∧ mvalD (0 : Int) (mfind .int k m) ≤ (done.length : Int) := by
  cases e : mfind .int k m with
  | none => simp [mvalD]
  | some v => exact h.2.2 _ (mfind_mem e)

theorem counts_hit {s : SnD} {done : List ED} {m : MI} {x : ED} (h : U.counts s done m) (hx : U.agrees s x = true) : U.counts s (done ++ [x]) (mput .int (U.sg x) (mvalD (0 : Int) (mfind .int (U.sg x) m) + 1) m) := by
  have hv := counts_val h (U.sg x)
  obtain ⟨h1, h2, h3⟩ := h
  have hmem : ∀ n, n ∈ U.keys (mput .int (U.sg x) (mvalD (0 : Int) (mfind .int (U.sg x) m) + 1) m) ↔ n ∈ U.keys m ∨ n = U.sg x := by
    intro n
    unfold U.keys
    by_cases hk : U.sg x ∈ m.map (·.1)
    · rw [mput_keys hk]
      constructor
      · exact .inl
      · rintro (h | h)
        · exact h
        · rw [h]; exact hk
    · rw [mput_new hk]; simp
  refine ⟨?_, fun n => ?_, fun p hp => ?_⟩
  · unfold U.keys at *
    by_cases hk : U.sg x ∈ m.map (·.1)
    · rw [mput_keys hk]; exact h1
    · rw [mput_new hk, List.map_append, List.nodup_append]
      refine ⟨h1, by simp, fun a ha c hc e => ?_⟩
      simp at hc; subst e; subst hc; exact hk ha
  · rw [hmem, h2 n]
    constructor
    · rintro (⟨y, hy, k⟩ | h)
      · exact ⟨y, by simp [hy], k⟩
      · exact ⟨x, by simp, hx, h.symm⟩
    · rintro ⟨y, hy, k1, k2⟩
      rcases List.mem_append.1 hy with hy | hy
      · exact .inl ⟨y, hy, k1, k2⟩
      · simp at hy; subst hy; exact .inr k2.symm
  · simp only [List.length_append, List.length_cons, List.length_nil]
    rcases mput_mem hp with e | hp
    · rw [e]; simp only; omega
    · have := h3 p hp; omega

theorem counts_find {s : SnD} {l done : List ED} {m : MI} (h : U.counts s done m) (hp : done.Perm l) : U.sortI (U.keys m) = U.find l s := by
  unfold U.find
  refine sortI_congr (perm_of_nodup h.1 (dedup_nodup _) (fun n => ?_))
  rw [h.2.1 n, dedup_mem]
  simp only [List.mem_map, List.mem_filter]
  constructor
  · rintro ⟨x, hx, k1, k2⟩; exact ⟨x, ⟨hp.mem_iff.1 hx, k1⟩, k2⟩
  · rintro ⟨x, ⟨hx, k1⟩, k2⟩; exact ⟨x, hp.mem_iff.2 hx, k1, k2⟩

theorem counts_len {s : SnD} {done : List ED} {m : MI} (h : U.counts s done m) : m.length ≤ done.length := by
  have h1 : (U.keys m).length = m.length := by unfold U.keys; simp
  have : (U.keys m).Perm (U.dedup ((done.filter (U.agrees s)).map U.sg)) := perm_of_nodup h.1 (dedup_nodup _) (fun n => by
    rw [h.2.1 n, dedup_mem]
    simp only [List.mem_map, List.mem_filter]
    constructor
    · rintro ⟨x, hx, k1, k2⟩; exact ⟨x, ⟨hx, k1⟩, k2⟩
    · rintro ⟨x, ⟨hx, k1⟩, k2⟩; exact ⟨x, hx, k1, k2⟩)
  have h2 : ∀ l : List Int, (U.dedup l).length ≤ l.length := by
    intro l
    induction l with
    | nil => simp [U.dedup]
    | cons a r ih =>
      unfold U.dedup
      split
      · simp; omega
      · simp; exact ih
  have h3 := this.length_eq
  have h4 := h2 ((done.filter (U.agrees s)).map U.sg)
  have h5 := List.length_filter_le (U.agrees s) done
  rw [List.length_map] at h4
  omega

theorem h51 : vc51 := by
  intro d h1000 hok
  refine ⟨⟨(d.1, [], []), ⟨trivial, rfl, rfl, trivial⟩, rfl, by simp, by simp [U.keys], fun n => ?_, fun p hp => by simp at hp⟩, fun x hx => ?_⟩
  · simp [U.keys]
  obtain ⟨left, done, m⟩ := x
  obtain ⟨hp, hc⟩ := hx
  have hp : (done ++ U.vals left).Perm (U.vals d.1) := hp
  have hc : U.counts d.2.1.1 done m := hc
  have hlen := hp.length_eq
  unfold U.vals at hlen
  simp only [List.length_append, List.length_map] at hlen
  refine ⟨fun h => ⟨fun h => (by cases h), fun _ => ⟨⟨?_, trivial⟩, fun r hr => ?_⟩⟩, fun pre y post h => ⟨fun _ => ⟨?_, fun ha => ⟨?_, (pre ++ post, done ++ [y.2], _), ⟨trivial, rfl, rfl, trivial⟩, rfl, ⟨?_, counts_hit hc ha⟩, ?_⟩, fun ha => ⟨(pre ++ post, done ++ [y.2], m), ⟨trivial, rfl, rfl, trivial⟩, rfl, ⟨?_, counts_miss hc ha⟩, ?_⟩⟩, fun h => (by cases h)⟩⟩
  · have := counts_len hc
    show m.length ≤ 100000
    omega
  · have h : left = [] := h
    subst h
    rw [show U.vals [] = [] from rfl, List.append_nil] at hp
    obtain ⟨⟨l, ⟨⟩⟩, ⟨⟩⟩ := r
    have hr : l = U.sortI (U.keys m) := hr
    rw [hr, counts_find hc hp]
  · have h : left = pre ++ y :: post := h
    have hy : y.2 ∈ U.vals d.1 := hp.mem_iff.1 (by rw [h]; unfold U.vals; simp)
    obtain ⟨q, hq, e⟩ := List.mem_map.1 hy
    rw [← e]; exact hok q hq
  · have := counts_val hc (U.sg y.2)
    have e : mvalD (0 : Int) (mfind Ty.int y.snd.snd.fst m) = mvalD (0 : Int) (mfind Ty.int (U.sg y.2) m) := rfl
    show In64 (mvalD (0 : Int) (mfind Ty.int y.snd.snd.fst m) + 1)
    rw [e]; unfold In64; omega
  · have h : left = pre ++ y :: post := h
    rw [h] at hp
    refine List.Perm.trans ?_ hp
    rw [vals_app, vals_app, List.append_assoc]
    refine List.Perm.append_left _ ?_
    show (y.2 :: (U.vals pre ++ U.vals post)).Perm (U.vals pre ++ y.2 :: U.vals post)
    exact List.perm_middle.symm
  · have h : left = pre ++ y :: post := h
    show (pre ++ post).length < left.length
    rw [h]; simp
  · have h : left = pre ++ y :: post := h
    rw [h] at hp
    refine List.Perm.trans ?_ hp
    rw [vals_app, vals_app, List.append_assoc]
    refine List.Perm.append_left _ ?_
    show (y.2 :: (U.vals pre ++ U.vals post)).Perm (U.vals pre ++ y.2 :: U.vals post)
    exact List.perm_middle.symm
  · have h : left = pre ++ y :: post := h
    show (pre ++ post).length < left.length
    rw [h]; simp

theorem cx51 : (ctxx 26 [(83, sp83)] [] [(85, sc85)] []).ok PR := ctxx_ok ⟨fun _ => ok83, trivial⟩ trivial ⟨ok85, trivial⟩ trivial
theorem ok51 : FnOK PR 51 sp51 :=
  rfn_ok (body := bodyOf Tryz.f51) (C := ctxx 26 [(83, sp83)] [] [(85, sc85)] []) (hk := hkC (ctxx 26 [(83, sp83)] [] [(85, sc85)] []) (fun _ => none) tbl0 [25] [(84, 20, rs84)]) cx51 mixed Tryz.func51 (by kernel_rfl) (by kernel_rfl) (by kernel_rfl) (by decide)
    (fun B => hkC_ok cx51 mixed tbl0_ok (one_rt ok84) B) (vc51_eq.mpr h51)

theorem h18 : vc18 := by
  intro d
  unfold U.fnd
  refine ⟨fun h => by rw [if_pos (of_decide_eq_true h)], fun h => ⟨?_, fun x hx => ?_, by rw [if_neg (of_decide_eq_false h)]⟩⟩
  · have := opn_len d.1; omega
  · exact okE_form ((opn_ok d.1).ok x hx)
theorem ok18 : FnOK PR 18 sp18 := mkFn (vc18_eq.mpr h18) Tryz.func18 (by kernel_rfl) (by kernel_rfl) (by kernel_rfl) (by kernel_rfl) ⟨fun _ => ok50, fun _ => ok51, trivial⟩ trivial

end Go.X
