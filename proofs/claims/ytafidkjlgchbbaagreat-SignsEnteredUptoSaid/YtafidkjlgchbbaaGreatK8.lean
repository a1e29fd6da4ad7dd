/-
  Sorting by a comparison in which only equals are level: one result.
-/
import Derived.Test.YtafidkjlgchbbaaGreatK7
import Derived.Shelf.SlSortCmp.NoneTotal
import Derived.Shelf.SlSortCmp.WholeK
import Derived.Shelf.Sort.Plain
import Derived.Shelf.Slices.In.SortNone
namespace Go.X

namespace U
/-- sorted by insertion -/
def insBy {α : Type} (lt : α → α → Bool) (x : α) : List α → List α
  | [] => [x]
  | y :: r => if lt y x = true then y :: insBy lt x r else x :: y :: r
def sortBy {α : Type} (lt : α → α → Bool) : List α → List α
  | [] => []
  | x :: r => insBy lt x (sortBy lt r)
end U

/-- an order of the elements of a list in which only equals are level -/
structure OrdOn {α : Type} (lt : α → α → Bool) (l : List α) : Prop where
  irrefl : ∀ x, x ∈ l → lt x x = false
  trans : ∀ x y z, x ∈ l → y ∈ l → z ∈ l → lt x y = true → lt y z = true → lt x z = true
  total : ∀ x y, x ∈ l → y ∈ l → lt x y = false → lt y x = false → x = y

def Asc' {α : Type} (lt : α → α → Bool) (l : List α) : Prop := l.Pairwise (fun a b => lt b a = false)

section
variable {α : Type} {lt : α → α → Bool}

theorem insBy_perm (x : α) : ∀ l : List α, (U.insBy lt x l).Perm (x :: l)
  | [] => List.Perm.refl _
  | y :: r => by
    unfold U.insBy
    split
    · exact ((insBy_perm x r).cons y).trans (List.Perm.swap x y r)
    · exact List.Perm.refl _
theorem sortBy_perm : ∀ l : List α, (U.sortBy lt l).Perm l
  | [] => List.Perm.refl _
  | x :: r => (insBy_perm x _).trans ((sortBy_perm r).cons x)

theorem OrdOn.perm {l l' : List α} (h : OrdOn lt l) (hp : l'.Perm l) : OrdOn lt l' :=
  ⟨fun x hx => h.irrefl x (hp.mem_iff.1 hx), fun x y z hx hy hz => h.trans x y z (hp.mem_iff.1 hx) (hp.mem_iff.1 hy) (hp.mem_iff.1 hz), fun x y hx hy => h.total x y (hp.mem_iff.1 hx) (hp.mem_iff.1 hy)⟩
theorem OrdOn.sub {l l' : List α} (h : OrdOn lt l) (hp : ∀ x, x ∈ l' → x ∈ l) : OrdOn lt l' :=
  ⟨fun x hx => h.irrefl x (hp _ hx), fun x y z hx hy hz => h.trans x y z (hp _ hx) (hp _ hy) (hp _ hz), fun x y hx hy => h.total x y (hp _ hx) (hp _ hy)⟩
theorem OrdOn.asymm {l : List α} (h : OrdOn lt l) {x y : α} (hx : x ∈ l) (hy : y ∈ l) (h1 : lt x y = true) : lt y x = false := by
  cases h2 : lt y x with
  | false => rfl
  | true => have := h.trans x y x hx hy hx h1 h2; rw [h.irrefl x hx] at this; cases this
/-- 'not less' is transitive -/
theorem OrdOn.ntrans {l : List α} (h : OrdOn lt l) {x y z : α} (hx : x ∈ l) (hy : y ∈ l) (hz : z ∈ l) (h1 : lt x y = false) (h2 : lt y z = false) : lt x z = false := by
  cases h3 : lt x z with
  | false => rfl
  | true =>
    cases h4 : lt y x with
    | true => have := h.trans y x z hy hx hz h4 h3; rw [h2] at this; cases this
    | false => have := h.total x y hx hy h1 h4; subst this; rw [h2] at h3; cases h3

theorem insBy_asc {x : α} : ∀ {l : List α}, OrdOn lt (x :: l) → Asc' lt l → Asc' lt (U.insBy lt x l)
  | [], _, _ => List.pairwise_singleton _ _
  | y :: r, h, ha => by
    unfold U.insBy
    have ha' := List.pairwise_cons.1 ha
    split
    · rename_i hlt
      refine List.pairwise_cons.2 ⟨fun z hz => ?_, insBy_asc (h.sub (by intro z hz; simp at hz ⊢; rcases hz with rfl | hz; exact .inl rfl; exact .inr (.inr hz))) ha'.2⟩
      rcases List.mem_cons.1 ((insBy_perm x r).mem_iff.1 hz) with rfl | hz
      · exact h.asymm (by simp) (by simp) hlt
      · exact ha'.1 z hz
    · rename_i hlt
      have hlt : lt y x = false := by simpa using hlt
      refine List.pairwise_cons.2 ⟨fun z hz => ?_, ha⟩
      rcases List.mem_cons.1 hz with rfl | hz
      · exact hlt
      · exact h.ntrans (x := z) (y := y) (z := x) (by simp [hz]) (by simp) (by simp) (ha'.1 z hz) hlt
theorem sortBy_asc : ∀ {l : List α}, OrdOn lt l → Asc' lt (U.sortBy lt l)
  | [], _ => List.Pairwise.nil
  | x :: r, h => insBy_asc ((h.perm ((sortBy_perm r).cons x))) (sortBy_asc (h.sub (fun _ hz => List.mem_cons_of_mem _ hz)))

theorem asc_unique' : ∀ {a b : List α}, OrdOn lt a → a.Perm b → Asc' lt a → Asc' lt b → a = b
  | [], b, _, hp, _, _ => (List.perm_nil.1 hp.symm).symm
  | x :: r, [], _, hp, _, _ => absurd hp.length_eq (by simp)
  | x :: r, y :: s, h, hp, ha, hb => by
    have ha' := List.pairwise_cons.1 ha
    have hb' := List.pairwise_cons.1 hb
    have hy : y ∈ x :: r := hp.mem_iff.2 (by simp)
    have hx : x ∈ y :: s := hp.mem_iff.1 (by simp)
    have e : x = y := by
      rcases List.mem_cons.1 hy with e | hy'
      · exact e.symm
      · rcases List.mem_cons.1 hx with e | hx'
        · exact e
        · exact h.total x y (by simp) hy (hb'.1 x hx') (ha'.1 y hy')
    subst e
    rw [asc_unique' (h.sub (fun z hz => List.mem_cons_of_mem _ hz)) (List.Perm.cons_inv hp) ha'.2 hb'.2]
theorem sortBy_eq {l l' : List α} (h : OrdOn lt l) (hp : l'.Perm l) (ha : Asc' lt l') : l' = U.sortBy lt l :=
  asc_unique' (h.perm hp) (hp.trans (sortBy_perm l).symm) ha (sortBy_asc h)
theorem sortBy_congr {l l' : List α} (h : OrdOn lt l) (hp : l'.Perm l) : U.sortBy lt l' = U.sortBy lt l :=
  sortBy_eq h ((sortBy_perm l').trans hp) (sortBy_asc (h.perm hp))
end

namespace U
def lessF (t : Ty) (F : (Ty.st [t, t]).Data → (Ty.st [.int]).Data) (x y : t.Data) : Bool := decide ((F (x, y, ())).1 < 0)
def allP : List Prop → Prop
  | [] => True
  | p :: r => p ∧ allP r
end U
theorem allP_iff : ∀ l : List Prop, U.allP l ↔ AllP l
  | [] => Iff.rfl
  | p :: r => by simp only [U.allP, AllP, allP_iff r]

def soSort (t : Ty) (E : Nat) : OSpec := ⟨[.own (.cl (.row E t .unk)) true, .fn [t, t] [.int]], [], fun d => [∀ x, x ∈ d.1 → ∀ y, y ∈ d.1 → U.allP (d.2.1.pre (x, y, ())), OrdOn (U.lessF t d.2.1.F) d.1],
  fun d => ((), (U.sortBy (U.lessF t d.2.1.F) d.1, ()))⟩

end Go.X
/-
  slices.SortFunc at structs, by the kit's contract of it, with a comparison of known meaning.
-/
namespace Go.X
open Go.RowKit (Below)
open Go.Sort (HoldsK putRowK flatK SWO PermIn SortedIn)

theorem rd_one {H : Imm} : ∀ (t : Ty) (f : Nat → Option Value) (d : t.Data), t.rd H f d → ∀ j, j < t.size → ∃ v, f j = some v ∧ v.oneCell' = true
  | .int, f, d, h, j, hj => by obtain rfl : j = 0 := Nat.lt_one_iff.1 hj; exact ⟨_, h, rfl⟩
  | .bool, f, d, h, j, hj => by obtain rfl : j = 0 := Nat.lt_one_iff.1 hj; exact ⟨_, h, rfl⟩
  | .uint _, f, d, h, j, hj => by obtain rfl : j = 0 := Nat.lt_one_iff.1 hj; exact ⟨_, h, rfl⟩
  | .slice _, f, d, h, j, hj => by obtain rfl : j = 0 := Nat.lt_one_iff.1 hj; obtain ⟨a, n, c, h, _⟩ := h; exact ⟨_, h, rfl⟩
  | .map _ _, f, d, h, j, hj => by obtain rfl : j = 0 := Nat.lt_one_iff.1 hj; obtain ⟨p, h, _⟩ := h; exact ⟨_, h, rfl⟩
  | .unit, f, d, h, j, hj => by simp [Ty.size] at hj
  | .pair a b, f, d, h, j, hj => by
    simp only [Ty.size] at hj
    by_cases hja : j < a.size
    · exact rd_one a f d.1 h.1 j hja
    · obtain ⟨v, e, h1⟩ := rd_one b _ d.2 h.2 (j - a.size) (by omega)
      exact ⟨v, by rw [← e]; congr 1; omega, h1⟩

/-- nothing but draws and new blocks -/
theorem grown_world {w w' : World} (h : Below w.heap.size w w') (hd : w.drawn ≤ w'.drawn) : ∃ q os', w' = Go.Sort.grow (w.drewN q) os' := by
  refine ⟨w'.drawn - w.drawn, w'.heap.extract w.heap.size w'.heap.size, ?_⟩
  obtain ⟨heap', tape', drawn', os', output'⟩ := w'
  have e1 : os' = w.os := h.os
  have e2 : tape' = w.tape := h.tape
  have e3 : output' = w.output := h.output
  have hs : w.heap.size ≤ heap'.size := h.size
  have hb : ∀ k, k < w.heap.size → heap'[k]? = w.heap[k]? := h.block
  have hd : w.drawn ≤ drawn' := hd
  subst e1 e2 e3
  have eh : heap' = w.heap ++ heap'.extract w.heap.size heap'.size := by
    apply Array.ext_getElem?
    intro k
    by_cases hk : k < w.heap.size
    · rw [Array.getElem?_append_left hk]; exact hb k hk
    · rw [Array.getElem?_append_right (by omega), Array.getElem?_extract]
      by_cases hk2 : k < heap'.size
      · rw [if_pos (by omega)]; congr 1; omega
      · rw [if_neg (by omega), Array.getElem?_eq_none (by omega)]
  simp only [Go.Sort.grow, World.drewN]
  rw [show w.drawn + (drawn' - w.drawn) = drawn' by omega]
  congr 1

section
variable {t : Ty}

/-- cells that read as an element of a list -/
structure LE (H : Imm) (t : Ty) (l : List t.Data) where
  cs : List Value
  d : t.Data
  mem : d ∈ l
  len : cs.length = t.size
  rd : t.rd H (fun j => cs[j]?) d

variable {H : Imm} {l : List t.Data}

theorem LE.one (x : LE H t l) : ∀ v, v ∈ x.cs → v.oneCell' = true := by
  intro v hv
  obtain ⟨j, hj, e⟩ := List.mem_iff_getElem.1 hv
  obtain ⟨u, h1, h2⟩ := rd_one t _ x.d x.rd j (by rw [← x.len]; exact hj)
  rw [List.getElem?_eq_getElem hj, e] at h1
  simp at h1; subst h1; exact h2

theorem LE.rv (ht : t.agg = true) (x : LE H t l) : t.rv H (.agg x.cs.toArray) x.d :=
  ⟨by rw [ht]; rfl, by show x.cs.toArray.size = _; simp [x.len], Ty.rd_congr t _ _ _ (fun j _ => by show x.cs[j]? = x.cs.toArray[j]?; simp) x.rd⟩

def cfL (F : (Ty.st [t, t]).Data → (Ty.st [.int]).Data) (x y : LE H t l) : Int := (F (x.d, y.d, ())).1

theorem ltL {F : (Ty.st [t, t]).Data → (Ty.st [.int]).Data} (x y : LE H t l) : Go.Proofs.ltOf (cfL F) x y = U.lessF t F x.d y.d := rfl

theorem swoL {F : (Ty.st [t, t]).Data → (Ty.st [.int]).Data} (h : OrdOn (U.lessF t F) l) : SWO (Go.Proofs.ltOf (cfL F : LE H t l → LE H t l → Int)) where
  irrefl x := by rw [ltL]; exact h.irrefl _ x.mem
  trans x y z h1 h2 := by rw [ltL] at *; exact h.trans _ _ _ x.mem y.mem z.mem h1 h2
  ntrans x y z h1 h2 := by rw [ltL] at *; exact h.ntrans x.mem y.mem z.mem h1 h2

variable [Inhabited (LE H t l)]

theorem sort_worldL {w : World} {b n : Nat} {d : Array (LE H t l)} {os : Array Obj} : w.grownBy (Go.Proofs.sortWorldK LE.cs t.size w b 0 n d os) (some b) := by
  refine ⟨rfl, rfl, rfl, ?_, fun k hk hb => ?_⟩
  · unfold Go.Proofs.sortWorldK Go.Sort.grow Go.Sort.putRowK Go.Sort.putRow Go.Sort.mapBlock Go.Sort.ahead
    simp
  · have hne : b ≠ k := fun e => hb (by rw [e])
    unfold Go.Proofs.sortWorldK Go.Sort.grow Go.Sort.putRowK Go.Sort.putRow Go.Sort.mapBlock Go.Sort.ahead
    simp only
    rw [Array.getElem?_append_left (by simpa using hk), Array.getElem?_modify, if_neg hne]

theorem sort_drawnL {w : World} {b n : Nat} {d : Array (LE H t l)} {os : Array Obj} : w.drawn ≤ (Go.Proofs.sortWorldK LE.cs t.size w b 0 n d os).drawn := by
  unfold Go.Proofs.sortWorldK Go.Sort.grow Go.Sort.putRowK Go.Sort.putRow Go.Sort.mapBlock Go.Sort.ahead
  simp

theorem good_sort {w : World} {b n : Nat} {d : Array (LE H t l)} {os : Array Obj} (hg : Good H w) (hH : H b = none) : Good H (Go.Proofs.sortWorldK LE.cs t.size w b 0 n d os) := by
  intro k c hkc
  have hgr := sort_worldL (w := w) (b := b) (n := n) (d := d) (os := os)
  have hne : b ≠ k := fun e => by subst e; rw [hH] at hkc; cases hkc
  rw [hgr.block k (hg.lt hkc) (fun e => hne (by simp at e; exact e.symm))]
  exact hg k c hkc

theorem cmpL_ok {P : Program} (ht : t.agg = true) {F : (Ty.st [t, t]).Data → (Ty.st [.int]).Data} {pre : (Ty.st [t, t]).Data → List Prop} {g : Nat} {cb : Array Value} {w : World} {b size : Nat} (hg : Good H w) (hH : H b = none)
    (hf : ∀ H' w vals x, (∀ b c, H b = some c → H' b = some c) → Good H' w → rvs H' [t, t] vals x → AllP (pre x) → Calls P g (vals.toArray ++ cb) w (Post H' w [.int] (F x)))
    (hpre : ∀ x, x ∈ l → ∀ y, y ∈ l → AllP (pre (x, y, ()))) : Go.Proofs.CmpLays P g cb (LE.cs : LE H t l → List Value) t.size (cfL F) b 0 size w := by
  intro m os dk _ x y
  have hg' := good_sort (n := m) (d := dk) (os := os) hg hH
  have := hf H _ [.agg x.cs.toArray, .agg y.cs.toArray] (x.d, y.d, ()) (fun _ _ h => h) hg' ⟨x.rv ht, y.rv ht, rfl⟩ (hpre _ x.mem _ y.mem)
  refine Calls.mono (R := Post H (Go.Proofs.sortWorldK LE.cs t.size w b 0 m dk os) [.int] (F (x.d, y.d, ()))) this fun e w' he => ?_
  obtain ⟨v, H', rfl, hE, hr⟩ := he
  refine ⟨?_, grown_world hE.below hE.drawn⟩
  have hr : Ty.int.rv H' v (F (x.d, y.d, ())).1 := hr
  have h1 := rv_scalar (t := .int) rfl hr
  simp only [Ty.rd, Option.some.injEq] at h1
  rw [h1]; rfl

theorem holdsL {w : World} {b E : Nat} {vs : Array Value} {d : Array (LE H t l)} (hsz : 0 < t.size) (hw : w.heap[b]? = some (.cells vs E (0, 0))) (hr : ∀ (i : Nat) (y : LE H t l), d[i]? = some y → ∀ j, j < t.size → vs[i * t.size + j]? = y.cs[j]?) : HoldsK LE.cs t.size w b 0 d := by
  intro k hk
  have hk' : k < d.size * t.size := by simpa using hk
  have hi : k / t.size < d.size := (Nat.div_lt_iff_lt_mul hsz).2 hk'
  have hm := Nat.mod_lt k hsz
  have h1 := hr (k / t.size) d[k / t.size]! (by rw [getElem!_pos d _ hi]; exact Array.getElem?_eq_getElem hi) (k % t.size) hm
  rw [show k / t.size * t.size + k % t.size = k by rw [Nat.mul_comm]; exact Nat.div_add_mod k t.size] at h1
  have hlen := d[k / t.size]!.len
  obtain ⟨u, h2, h3⟩ := rd_one t _ _ d[k / t.size]!.rd (k % t.size) hm
  rw [Go.Sort.get_flatK _ _ _ k hk', Nat.zero_add, cell_at hw, h1]
  refine ⟨?_, by simp [World.frozen?, hw]⟩
  rw [h2, getElem!_def, h2] <;> rfl

theorem sorted_rowL {w : World} {b n E : Nat} {vs : Array Value} {d : Array (LE H t l)} {os : Array Obj} (hsz : 0 < t.size) (hw : w.heap[b]? = some (.cells vs E (0, 0))) (hle : d.size * t.size ≤ vs.size) :
    ∃ vs' : Array Value, (Go.Proofs.sortWorldK LE.cs t.size w b 0 n d os).heap[b]? = some (.cells vs' E (0, 0)) ∧ vs'.size = vs.size ∧ ∀ (i : Nat) (y : LE H t l), d[i]? = some y → ∀ j, j < t.size → vs'[i * t.size + j]? = y.cs[j]? := by
  have hlt : b < w.heap.size := (Array.getElem?_eq_some_iff.1 hw).1
  refine ⟨Go.Sort.putCells id 0 (flatK LE.cs t.size d) vs, ?_, by simp [Go.Sort.putCells], fun i y hy j hj => ?_⟩
  · unfold Go.Proofs.sortWorldK Go.Sort.grow Go.Sort.putRowK Go.Sort.putRow Go.Sort.mapBlock Go.Sort.ahead
    simp only
    rw [Array.getElem?_append_left (by simpa using hlt), Array.getElem?_modify, if_pos rfl, hw]
    rfl
  · have hi : i < d.size := (Array.getElem?_eq_some_iff.1 hy).1
    have hm : i * t.size + j < d.size * t.size := by
      have : (i + 1) * t.size ≤ d.size * t.size := Nat.mul_le_mul_right _ hi
      rw [Nat.succ_mul] at this; omega
    have hv : i * t.size + j < vs.size := by omega
    have ed : (i * t.size + j) / t.size = i := by
      rw [Nat.mul_comm, Nat.mul_add_div hsz, Nat.div_eq_of_lt hj, Nat.add_zero]
    have em : (i * t.size + j) % t.size = j := by
      rw [Nat.mul_comm, Nat.mul_add_mod, Nat.mod_eq_of_lt hj]
    unfold Go.Sort.putCells
    rw [Array.getElem?_mapIdx, Array.getElem?_eq_getElem hv]
    simp only [Option.map_some, Nat.zero_le, Nat.zero_add, true_and, Go.Sort.size_flatK, hm, if_true, Nat.sub_zero, id]
    rw [Go.Sort.get_flatK _ _ _ _ hm, ed, em]
    have : d[i]! = y := by
      rw [getElem!_pos d i hi]
      rw [Array.getElem?_eq_getElem hi] at hy
      simpa using hy
    rw [this]
    obtain ⟨u, h2, _⟩ := rd_one t _ _ y.rd j hj
    rw [h2, getElem!_def, h2] <;> rfl

theorem sorted_oneL {F : (Ty.st [t, t]).Data → (Ty.st [.int]).Data} (ho : OrdOn (U.lessF t F) l) {d d' : Array (LE H t l)} (hl : d.toList.map LE.d = l) (hp : PermIn 0 d.size d d') (hs : SortedIn (Go.Proofs.ltOf (cfL F)) 0 d.size d') :
    d'.toList.map LE.d = U.sortBy (U.lessF t F) l := by
  obtain ⟨p1, _, p3⟩ := hp
  have hperm : d'.toList.Perm d.toList := by
    have e1 : d.extract 0 d.size = d := by simp
    have e2 : d'.extract 0 d.size = d' := by rw [← p1]; simp
    rwa [e1, e2] at p3
  have h3 := hperm.map LE.d
  rw [hl] at h3
  refine sortBy_eq ho h3 ?_
  unfold Asc'
  rw [List.pairwise_iff_getElem]
  intro i j hi hj hij
  simp only [List.length_map, Array.length_toList] at hi hj
  have h1 := hs i j (Nat.zero_le _) hij (by omega)
  rw [ltL, getElem!_pos d' j hj, getElem!_pos d' i hi] at h1
  simpa using h1
end

theorem sortFunc_ok {P : Program} {ren : Go.Shelf.Ren} (L : Go.Proofs.SlLaysF0.n6 P ren) {t : Ty} (E : Nat) (ht : t.agg = true) (hsz : 0 < t.size) (aE : ∀ w, (isAgg (ren.t 24)).run P w = .ok true w) (zE : ∀ w, (Go.sizeOf (ren.t 24)).run P w = .ok t.size w)
    (hen : enters P (ren.f 6)) : OFnOK P (ren.f 6) (soSort t E) := by
  refine ⟨hen, fun H w vals d bs hg ha hnd hpre => ?_⟩
  obtain ⟨l, u, ⟨⟩⟩ := d
  obtain ⟨h1, h2, _⟩ := hpre
  have h1 : ∀ x, x ∈ l → ∀ y, y ∈ l → AllP (u.pre (x, y, ())) := fun x hx y hy => (allP_iff _).1 (h1 x hx y hy)
  have h2 : OrdOn (U.lessF t u.F) l := h2
  match vals, ha with
  | [], ha => exact ha.elim
  | [_], ha => obtain ⟨_, _, _, _, ha⟩ := ha; exact ha.elim
  | v :: fv :: _ :: _, ha =>
    obtain ⟨_, _, _, _, _, _, _, _, ha⟩ := ha
    have := ha.1
    cases this
  | [v, fv], ha =>
    obtain ⟨b1, b2, rfl, ha1, c1, c2, rfl, ⟨hfv, rfl⟩, _, rfl⟩ := ha
    simp only [List.append_nil] at hnd ⊢
    have ha0 : ClV H w (.row E t .unk) v l b1 := ha1
    obtain ⟨hlen, hrow⟩ := ha1
    obtain ⟨g, cb, rfl, hge, hcall⟩ := hfv
    by_cases hl0 : l = []
    · subst hl0
      obtain ⟨p, cap, rfl⟩ : ∃ p cap, v = .slice p 0 cap := by
        rcases hrow with ⟨rfl, _⟩ | ⟨b, C, vs, rfl, _⟩
        · exact ⟨_, _, rfl⟩
        · exact ⟨_, _, rfl⟩
      refine (Go.Proofs.AnyF.slices_SortFunc_none L p cap (.func (.func g) #[] cb) w).mono fun e w' he => ?_
      obtain ⟨rfl, rfl⟩ := he
      exact ⟨[], H, [], b1, rfl, ⟨rfl, rfl, rfl, Nat.le_refl _, Nat.le_refl _, fun _ _ _ => rfl, fun _ _ _ => rfl, hg⟩, ⟨rfl, rfl⟩, ⟨b1, [], by simp, ha0, rfl⟩, by simpa using hnd, fun b hb => .inl (by simpa using hb)⟩
    · rcases hrow with ⟨_, e, _⟩ | ⟨b, C, vs, rfl, rfl, hH, _, hw, hvs, hlC, hCm, hr⟩
      · exact absurd e hl0
      have hlC : l.length ≤ C := hlC
      have hcell : ∀ i, i < l.length → ∀ j, j < t.size → i * t.size + j < vs.size := by
        intro i hi j hj
        have h3 : (i + 1) * t.size ≤ C * t.size := Nat.mul_le_mul_right _ (by omega)
        rw [Nat.succ_mul] at h3
        omega
      let mk : (i : Fin l.length) → LE H t l := fun i => ⟨(List.range t.size).map (fun j => vs[i.1 * t.size + j]?.getD undef), l[i.1], List.getElem_mem _, by simp, by
        refine Ty.rd_congr t _ _ _ (fun j hj => ?_) (hr i.1 l[i.1] (List.getElem?_eq_getElem i.2))
        rw [List.getElem?_map, List.getElem?_range hj, Option.map_some, Array.getElem?_eq_getElem (hcell i.1 i.2 j hj)]
        rfl⟩
      haveI : Inhabited (LE H t l) := ⟨mk ⟨0, Nat.pos_of_ne_zero (fun e => hl0 (List.eq_nil_of_length_eq_zero e))⟩⟩
      obtain ⟨d, hds, hdm, hdc⟩ : ∃ d : Array (LE H t l), d.size = l.length ∧ d.toList.map LE.d = l ∧ ∀ (i : Nat) (y : LE H t l), d[i]? = some y → ∀ j, j < t.size → vs[i * t.size + j]? = y.cs[j]? := by
        refine ⟨Array.ofFn mk, by simp, ?_, fun i y hy j hj => ?_⟩
        · apply List.ext_getElem
          · simp
          · intro i hi1 hi2
            simp [mk]
        · have hi : i < l.length := by have := (Array.getElem?_eq_some_iff.1 hy).1; simpa using this
          have : mk ⟨i, hi⟩ = y := by
            have := (Array.getElem?_eq_some_iff.1 hy).2
            simpa using this
          subst this
          show _ = ((List.range t.size).map (fun j => vs[i * t.size + j]?.getD undef))[j]?
          rw [List.getElem?_map, List.getElem?_range hj, Option.map_some, Array.getElem?_eq_getElem (hcell i hi j hj)]
          rfl
      have key := Go.Proofs.AnyQ.slices_SortFunc L t.size aE zE (LE.cs : LE H t l → List Value) LE.len (fun x => x.one) (cfL u.F) (swoL h2) g cb b 0 C d w hge (cmpL_ok ht hg hH hcall h1) (holdsL hsz hw hdc) (Array.getElem?_eq_some_iff.1 hw).1 (by rw [hds]; exact hlen)
      rw [hds] at key
      refine Calls.mono (R := _) key fun e w' he => ?_
      obtain ⟨rfl, d', n, os, hp, hs, rfl⟩ := he
      rw [← hds] at hp hs
      have hone := sorted_oneL h2 hdm hp hs
      have hd's : d'.size = d.size := hp.1
      obtain ⟨vs2, k1, k2, k3⟩ := sorted_rowL (n := n) (os := os) (d := d') hsz hw (by
        rw [hd's, hds, hvs]
        exact Nat.mul_le_mul_right _ hlC)
      have hgr := sort_worldL (w := w) (b := b) (n := n) (d := d') (os := os)
      have hlen' : (U.sortBy (U.lessF t u.F) l).length = l.length := (sortBy_perm _).length_eq
      refine ⟨[], H, [], [b], rfl, ⟨hgr.os, hgr.tape, hgr.output, sort_drawnL, hgr.size, fun k hk hb => hgr.block k hk (fun e => by simp at e; subst e; simp at hb), fun _ _ _ => rfl, good_sort hg hH⟩, ⟨rfl, rfl⟩, ⟨[b], [], rfl, ?_, rfl⟩, by simp, fun b' hb' => .inl (by simpa using hb')⟩
      show ClV H _ (.row E t .unk) _ (U.sortBy (U.lessF t u.F) l) [b]
      refine ⟨by rw [hlen']; exact hlen, .inr ⟨b, C, vs2, by rw [hlen'], rfl, hH, (fun e => by cases e), k1, by rw [k2]; exact hvs, by rw [hlen']; exact hlC, hCm, fun i y hy => ?_⟩⟩
      rw [← hone, List.getElem?_map, Array.getElem?_toList] at hy
      cases hx : d'[i]? with
      | none => rw [hx] at hy; cases hy
      | some x =>
        rw [hx] at hy
        simp at hy
        subst hy
        exact Ty.rd_congr t _ _ _ (fun j hj => (k3 i x hx j hj).symm) x.rd

end Go.X
/-
  slices.Sort at ints, by the kit's contract of it.
-/
namespace Go.X
open Go.RowKit (Below)
open Go.Sort (Holds putRow)

namespace U
def sortI (l : List Int) : List Int := l.mergeSort fun x y => decide (x ≤ y)
end U

theorem sortI_perm (l : List Int) : (U.sortI l).Perm l := List.mergeSort_perm l _
theorem sortI_asc (l : List Int) : (U.sortI l).Pairwise (fun a b => a ≤ b) := by
  have := List.pairwise_mergeSort (le := fun (x y : Int) => decide (x ≤ y)) (fun a b c h1 h2 => by simp at *; omega) (fun a b => by simp; omega) l
  exact this.imp (fun h => by simpa using h)
theorem asc_int_unique : ∀ {a b : List Int}, a.Perm b → a.Pairwise (fun x y => x ≤ y) → b.Pairwise (fun x y => x ≤ y) → a = b
  | [], b, hp, _, _ => (List.perm_nil.1 hp.symm).symm
  | x :: r, [], hp, _, _ => absurd hp.length_eq (by simp)
  | x :: r, y :: s, hp, ha, hb => by
    have ha' := List.pairwise_cons.1 ha
    have hb' := List.pairwise_cons.1 hb
    have hy : y ∈ x :: r := hp.mem_iff.2 (by simp)
    have hx : x ∈ y :: s := hp.mem_iff.1 (by simp)
    have e : x = y := by
      rcases List.mem_cons.1 hy with e | hy'
      · exact e.symm
      · rcases List.mem_cons.1 hx with e | hx'
        · exact e
        · have h1 := ha'.1 y hy'
          have h2 := hb'.1 x hx'
          omega
    subst e
    rw [asc_int_unique (List.Perm.cons_inv hp) ha'.2 hb'.2]
theorem sortI_congr {a b : List Int} (h : a.Perm b) : U.sortI a = U.sortI b :=
  asc_int_unique ((sortI_perm a).trans (h.trans (sortI_perm b).symm)) (sortI_asc a) (sortI_asc b)

def soSortI (E : Nat) : OSpec := ⟨[.own (.cl (.row E .int .unk)) true], [], fun _ => [], fun d => ((), (U.sortI d.1, ()))⟩

theorem sortI_ok {P : Program} {ren : Go.Shelf.Ren} (L : Go.Proofs.Lays.n189 P ren) (E : Nat) (hen : enters P (ren.f 189)) : OFnOK P (ren.f 189) (soSortI E) := by
  refine ⟨hen, fun H w vals d bs hg ha hnd _ => ?_⟩
  obtain ⟨l, ⟨⟩⟩ := d
  match vals, ha with
  | [], ha => exact ha.elim
  | v :: fv :: _, ha =>
    obtain ⟨_, _, _, _, ha⟩ := ha
    have := ha.1
    cases this
  | [v], ha =>
    obtain ⟨b1, b2, rfl, ha1, _, rfl⟩ := ha
    simp only [List.append_nil] at hnd ⊢
    have ha0 : ClV H w (.row E .int .unk) v l b1 := ha1
    obtain ⟨hlen, hrow⟩ := ha1
    have hlen : l.length < 4611686018427387904 := hlen
    by_cases hl0 : l = []
    · subst hl0
      obtain ⟨p, cap, rfl⟩ : ∃ p cap, v = .slice p 0 cap := by
        rcases hrow with ⟨rfl, _⟩ | ⟨b, C, vs, rfl, _⟩
        · exact ⟨_, _, rfl⟩
        · exact ⟨_, _, rfl⟩
      refine (Go.Proofs.Any.slices_Sort_int_none L p cap w).mono fun e w' he => ?_
      obtain ⟨rfl, rfl⟩ := he
      exact ⟨[], H, [], b1, rfl, ⟨rfl, rfl, rfl, Nat.le_refl _, Nat.le_refl _, fun _ _ _ => rfl, fun _ _ _ => rfl, hg⟩, ⟨rfl, rfl⟩, ⟨b1, [], by simp, (by
        have e0 : U.sortI [] = [] := List.perm_nil.1 (sortI_perm [])
        show ClV H _ (.row E .int .unk) _ (U.sortI []) b1
        rw [e0]; exact ha0), rfl⟩, by simpa using hnd, fun b hb => .inl (by simpa using hb)⟩
    · rcases hrow with ⟨_, e, _⟩ | ⟨b, C, vs, rfl, rfl, hH, _, hw, hvs, hlC, hCm, hr⟩
      · exact absurd e hl0
      have hlC : l.length ≤ C := hlC
      have hvs : vs.size = C := by rw [hvs]; exact Nat.mul_one C
      have hcell : ∀ (i : Nat) (y : Int), l[i]? = some y → vs[i]? = some (.int .i64 y) := fun i y hy => by
        have := hr i y hy
        simpa [Ty.rd, Ty.size] using this
      have hlt : b < w.heap.size := (Array.getElem?_eq_some_iff.1 hw).1
      refine Calls.mono (R := _) (Go.Proofs.Any.slices_Sort_int L b 0 C l w ?_ hlt hlen) fun e w' he => ?_
      · intro i hi
        have hi : i < l.length := by simpa using hi
        have h1 := hcell i l[i] (List.getElem?_eq_getElem hi)
        rw [Nat.zero_add, cell_at hw, h1]
        refine ⟨?_, by simp [World.frozen?, hw]⟩
        simp [getElem!_pos l.toArray i (by simpa using hi)]
      · obtain ⟨rfl, n, os, rfl⟩ := he
        have hlen' : (U.sortI l).length = l.length := (sortI_perm _).length_eq
        obtain ⟨d, hd⟩ : ∃ d, d = U.sortI l := ⟨_, rfl⟩
        have hd' : (l.mergeSort fun x y => decide (x ≤ y)) = d := by rw [hd]; rfl
        rw [hd']
        rw [← hd] at hlen'
        obtain ⟨W, hW⟩ : ∃ W, W = Go.Sort.grow (putRow (Value.int .i64) (Go.Sort.ahead w n) b 0 d.toArray) os := ⟨_, rfl⟩
        rw [← hW]
        have hgr : w.grownBy W (some b) ∧ w.drawn ≤ W.drawn := by
          rw [hW]
          refine ⟨⟨rfl, rfl, rfl, ?_, fun k hk hb => ?_⟩, ?_⟩
          · unfold Go.Sort.grow Go.Sort.putRow Go.Sort.mapBlock Go.Sort.ahead
            simp
          · have hne : b ≠ k := fun e => hb (by rw [e])
            unfold Go.Sort.grow Go.Sort.putRow Go.Sort.mapBlock Go.Sort.ahead
            simp only
            rw [Array.getElem?_append_left (by simpa using hk), Array.getElem?_modify, if_neg hne]
          · unfold Go.Sort.grow Go.Sort.putRow Go.Sort.mapBlock Go.Sort.ahead
            simp
        have hvs2 : ∃ vs' : Array Value, W.heap[b]? = some (.cells vs' E (0, 0)) ∧ vs'.size = vs.size ∧ ∀ (i : Nat) (y : Int), d[i]? = some y → vs'[i]? = some (.int .i64 y) := by
          rw [hW]
          refine ⟨Go.Sort.putCells (Value.int .i64) 0 d.toArray vs, ?_, by simp [Go.Sort.putCells], fun i y hy => ?_⟩
          · unfold Go.Sort.grow Go.Sort.putRow Go.Sort.mapBlock Go.Sort.ahead
            simp only
            rw [Array.getElem?_append_left (by simpa using hlt), Array.getElem?_modify, if_pos rfl, hw]
            rfl
          · have hi : i < d.length := (List.getElem?_eq_some_iff.1 hy).1
            unfold Go.Sort.putCells
            rw [Array.getElem?_mapIdx, Array.getElem?_eq_getElem (show i < vs.size by omega)]
            have e : d.toArray[i]! = y := by
              rw [getElem!_pos d.toArray i (by simpa using hi)]
              rw [List.getElem?_eq_getElem hi] at hy
              simpa using hy
            simp [hi]
            rw [List.getElem?_eq_getElem hi] at hy
            simpa using hy
        obtain ⟨vs2, k1, k2, k3⟩ := hvs2
        have hgood : Good H W := by
          intro k c hkc
          have hne : b ≠ k := fun e => by subst e; rw [hH] at hkc; cases hkc
          rw [hgr.1.block k (hg.lt hkc) (fun e => hne (by simp at e; exact e.symm))]
          exact hg k c hkc
        refine ⟨[], H, [], [b], rfl, ⟨hgr.1.os, hgr.1.tape, hgr.1.output, hgr.2, hgr.1.size, fun k hk hb => hgr.1.block k hk (fun e => by simp at e; subst e; simp at hb), fun _ _ _ => rfl, hgood⟩, ⟨rfl, rfl⟩, ⟨[b], [], rfl, ?_, rfl⟩, by simp, fun b' hb' => .inl (by simpa using hb')⟩
        show ClV H _ (.row E .int .unk) _ (U.sortI l) [b]
        rw [← hd]
        refine ⟨by rw [hlen']; exact hlen, .inr ⟨b, C, vs2, by rw [hlen'], rfl, hH, (fun e => by cases e), k1, by rw [k2, hvs]; exact (Nat.mul_one C).symm, by rw [hlen']; exact hlC, hCm, fun i y hy => ?_⟩⟩
        have := k3 i y hy
        simpa [Ty.rd, Ty.size] using this

end Go.X
