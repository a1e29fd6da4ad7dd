/-
  Things of a call's own that are handed over to another: shapes; what is known of them without names.
-/
import Derived.Test.YtafidkjlgchbbaaGreatK4
namespace Go.X
open Go.RowKit (Below)

/-- a cell, or a variable: data, a slice of the call's own, a map of its own -/
inductive Cl where
  | dat (t : Ty)
  | row (E : Nat) (t : Ty) (nl : Nl)
  | map (kt vt : Ty)

@[reducible] def Cl.D : Cl → Type
  | .dat t => t.Data
  | .row _ t _ => List t.Data
  | .map k v => List (k.Data × v.Data)

@[reducible] def Cl.Ds : List Cl → Type
  | [] => Unit
  | c :: r => c.D × Cl.Ds r

/-- a thing that is handed over: a cell's worth, or a pointer to a block of such cells -/
inductive Sh where
  | cl (c : Cl)
  | box (T : Nat) (cs : List Cl)

@[reducible] def Sh.D : Sh → Type
  | .cl c => c.D
  | .box _ cs => Cl.Ds cs

/-! ### What a state holds of a shape: its data, the objects, what is to be frozen -/

def subNl2 : Nl → Nl → Bool
  | .unk, _ => true
  | .no, .no => true
  | _, _ => false

def getCl (σ : St) : (c : Cl) → SV → Option (c.D × List Nat × List Nat)
  | .dat t, v => match toDat σ t v with
    | some (x, f) => some (x, [], f)
    | none => none
  | .row E t nl, .own o _ => match σ.obj o with
    | some (.row E' t' false nl' l) => match Nat.beq E E', subNl nl nl', cast? (.slice t') (.slice t) l with
      | true, true, some l' => some (l', [o], [])
      | _, _, _ => none
    | _ => none
  | .row E t nl, .osl o _ 0 n => match σ.obj o with
    | some (.row E' t' false nl' l) => match Nat.beq E E', subNl2 nl nl', cast? (.slice t') (.slice t) l with
      | true, true, some l' => some (l'.take n, [o], [])
      | _, _, _ => none
    | _ => none
  | .row _ _ nl, .lit v => match isNilSlice v, nl with
    | true, .no => none
    | true, _ => some ([], [], [])
    | false, _ => none
  | .map kt vt, .mp o => match σ.obj o with
    | some (.map false kt' vt' l) => match cast? (.map kt' vt') (.map kt vt) l with
      | some l' => some (l', [o], [])
      | none => none
    | _ => none
  | _, _ => none

def getCls (σ : St) : (cs : List Cl) → List SV → Option (Cl.Ds cs × List Nat × List Nat)
  | [], [] => some ((), [], [])
  | c :: cs, v :: vs => match getCl σ c v with
    | some (x, os, f) => match getCls σ cs vs with
      | some (y, os', f') => some ((x, y), os ++ os', f ++ f')
      | none => none
    | none => none
  | _, _ => none

def getSh (σ : St) : (s : Sh) → SV → Option (s.D × List Nat × List Nat)
  | .cl c, v => getCl σ c v
  | .box T cs, .bp o 0 => match σ.obj o with
    | some (.box T' false vs) => match Nat.beq T T', getCls σ cs vs with
      | true, some (x, os, f) => some (x, o :: os, f)
      | _, _ => none
    | _ => none
  | _, _ => none

/-! ### The same, without names -/

def ClV (H : Imm) (w : World) : (c : Cl) → Value → c.D → List Nat → Prop
  | .dat t, v, x, bs => t.rv H v x ∧ bs = []
  | .row E t nl, v, x, bs => x.length < 4611686018427387904 ∧ ((v = .slice none 0 0 ∧ x = [] ∧ nl ≠ .no ∧ bs = []) ∨
      ∃ b C vs, v = .slice (some ⟨b, 0, none⟩) x.length C ∧ bs = [b] ∧ H b = none ∧ (nl = .yes → x ≠ []) ∧ w.heap[b]? = some (.cells vs E (0, 0)) ∧ vs.size = C * t.size ∧ x.length ≤ C ∧ C ≤ maxLen ∧
        ∀ i y, x[i]? = some y → t.rd H (fun j => vs[i * t.size + j]?) y)
  | .map kt vt, v, x, bs => ∃ b es clock, v = .map (some b) ∧ bs = [b] ∧ H b = none ∧ w.heap[b]? = some (.map es clock) ∧ MapRd H kt vt es clock x

def ClVs (H : Imm) (w : World) : (cs : List Cl) → List Value → Cl.Ds cs → List Nat → Prop
  | [], vs, _, bs => vs = [] ∧ bs = []
  | c :: cs, v :: vs, d, bs => ∃ b1 b2, bs = b1 ++ b2 ∧ ClV H w c v d.1 b1 ∧ v.oneCell' = true ∧ ClVs H w cs vs d.2 b2
  | _ :: _, [], _, _ => False

def ShV (H : Imm) (w : World) : (s : Sh) → Value → s.D → List Nat → Prop
  | .cl c, v, x, bs => ClV H w c v x bs
  | .box T cs, v, x, bs => ∃ b vs bs', v = .pointer (some ⟨b, 0, none⟩) ∧ bs = b :: bs' ∧ H b = none ∧ w.heap[b]? = some (.cells vs T (0, 0)) ∧ ClVs H w cs vs.toList x bs'

/-! ### From a state to what is known without names -/

section
variable {P : Program} {B : Base} {σ τ : St} {ρ : Env} {w : World}

theorem borOf_append (ρ : Env) : ∀ (a b : List Nat), borOf ρ (a ++ b) = borOf ρ a ++ borOf ρ b
  | [], b => rfl
  | o :: a, b => by
    simp only [List.cons_append, borOf]
    split <;> simp [borOf_append ρ a b]

theorem borOf_nodup (hS : Sat P B ρ τ.obj w) : ∀ (os : List Nat), os.Nodup → (borOf ρ os).Nodup
  | [], _ => by simp [borOf]
  | o :: r, h => by
    rw [List.nodup_cons] at h
    simp only [borOf]
    split
    · rename_i b C hb
      rw [List.nodup_cons]
      refine ⟨fun hm => ?_, borOf_nodup hS r h.2⟩
      obtain ⟨o', C', h1, h2⟩ := (mem_borOf r).1 hm
      have := hS.inj o o' b C C' hb h2
      subst this
      exact h.1 h1
    · exact borOf_nodup hS r h.2

/-- what is not frozen stays as it is -/
def Keeps (σ τ : St) (os : List Nat) : Prop := ∀ o, o ∈ os → τ.obj o = σ.obj o

theorem getCl_sound (hS : Sat P B ρ τ.obj w) {fz : List Nat} (hF : Frz σ τ fz) {c : Cl} {sv : SV} {x : c.D} {os f : List Nat} (h : getCl σ c sv = some (x, os, f)) (hf : ∀ o, o ∈ f → o ∈ fz) (hk : Keeps σ τ os)
    {v : Value} (hv : SV.den P ρ sv v) : ClV ρ.H w c v x (borOf ρ os) := by
  unfold getCl at h
  split at h
  · split at h
    · rename_i x' f' hd
      simp at h
      obtain ⟨rfl, rfl, rfl⟩ := h
      exact ⟨toDat_sound hS hF hd hf hv, rfl⟩
    · cases h
  · rename_i E t nl o u
    split at h
    case h_2 => cases h
    rename_i E' t' nl' l ho
    split at h
    case h_2 => cases h
    rename_i l' h1 h2 h3
    simp at h
    obtain ⟨rfl, rfl, rfl⟩ := h
    have e1 := Nat.eq_of_beq_eq_true h1
    subst e1
    obtain ⟨e, rfl⟩ := cast?_some h3
    have e' : t' = t := by injection e
    subst e'
    have ho' : τ.obj o = some (.row E t' false nl' l) := by rw [hk o (by simp), ho]
    obtain ⟨p, hp, k1, k0, k2⟩ := hS.obs o _ ho'
    simp only [SV.den] at hv
    have hv := hv p hp
    show ClV ρ.H w (.row E t' nl) v l _
    refine ⟨k0, ?_⟩
    cases p with
    | none =>
      obtain ⟨v1, v2⟩ := hv
      refine .inl ⟨v1, k2.1, ?_, by simp [borOf, hp]⟩
      cases nl <;> cases nl' <;> simp_all [subNl]
    | some q =>
      obtain ⟨b, C⟩ := q
      obtain ⟨v1, v2⟩ := hv
      obtain ⟨k3, vs, k4, k5, k6, k7, k9, k10⟩ := k2
      refine .inr ⟨b, C, vs, by rw [v1, k1], by simp [borOf, hp], by simpa [fzH] using k10, fun hn => k3 ?_, k4, k5, k6, k7, k9⟩
      cases nl <;> cases nl' <;> simp_all [subNl]
  · rename_i E t nl o u n
    split at h
    case h_2 => cases h
    rename_i E' t' nl' l ho
    split at h
    case h_2 => cases h
    rename_i l' h1 h2 h3
    simp at h
    obtain ⟨rfl, rfl, rfl⟩ := h
    have e1 := Nat.eq_of_beq_eq_true h1
    subst e1
    obtain ⟨e, rfl⟩ := cast?_some h3
    have e' : t' = t := by injection e
    subst e'
    have ho' : τ.obj o = some (.row E t' false nl' l) := by rw [hk o (by simp), ho]
    obtain ⟨p, hp, k1, k0, k2⟩ := hS.obs o _ ho'
    simp only [SV.den] at hv
    have hv := hv p hp
    show ClV ρ.H w (.row E t' nl) v (l.take n) _
    have hnl : nl ≠ .yes := by cases nl <;> cases nl' <;> simp_all [subNl2]
    cases p with
    | none =>
      obtain ⟨v1, rfl⟩ := hv
      refine ⟨by simp, .inl ⟨v1, by simp, ?_, by simp [borOf, hp]⟩⟩
      cases nl <;> cases nl' <;> simp_all [subNl2]
    | some q =>
      obtain ⟨b, C⟩ := q
      obtain ⟨a, cap, v1, v2, v3, v4, v5⟩ := hv
      obtain ⟨k3, vs, k4, k5, k6, k7, k9, k10⟩ := k2
      have v5 := v5 (.inl trivial)
      simp only [Nat.zero_mul] at v5
      subst v5
      have hcap : cap = C := by omega
      subst hcap
      have hlen : (l.take n).length = n := by rw [List.length_take]; omega
      refine ⟨by omega, .inr ⟨b, cap, vs, by rw [v1, hlen], by simp [borOf, hp], by simpa [fzH] using k10, fun hn => absurd hn hnl, k4, k5, by omega, k7, fun i y hy => k9 i y ?_⟩⟩
      by_cases hi : i < n
      · rw [List.getElem?_take_of_lt hi] at hy; exact hy
      · rw [List.getElem?_eq_none (by omega)] at hy; cases hy
  · rename_i E t nl u
    split at h
    · cases h
    · rename_i hn hne
      simp at h
      obtain ⟨rfl, rfl, rfl⟩ := h
      simp only [SV.den] at hv
      subst hv
      refine ⟨by simp, .inl ⟨nilSlice hn, rfl, ?_, rfl⟩⟩
      intro e; subst e; exact hne rfl
    · cases h
  · rename_i kt vt o
    split at h
    case h_2 => cases h
    rename_i kt' vt' l ho
    split at h
    case h_2 => cases h
    rename_i l' hc
    simp at h
    obtain ⟨rfl, rfl, rfl⟩ := h
    obtain ⟨e, rfl⟩ := cast?_some hc
    obtain ⟨e1, e2⟩ : kt' = kt ∧ vt' = vt := by injection e with a b; exact ⟨a, b⟩
    subst e1
    subst e2
    have ho' : τ.obj o = some (.map false kt' vt' l) := by rw [hk o (by simp), ho]
    obtain ⟨p, hp, hs⟩ := hS.obs o _ ho'
    simp only [ObSat, fzM] at hs
    obtain ⟨b, C, es, clock, rfl, k1, k2, k3⟩ := hs
    simp only [SV.den] at hv
    obtain ⟨b', C', e1, v1⟩ := hv _ hp
    simp at e1
    obtain ⟨rfl, rfl⟩ := e1
    exact ⟨b, es, clock, v1, by simp [borOf, hp], k3, k1, k2⟩
  · cases h

theorem getCls_sound (hS : Sat P B ρ τ.obj w) {fz : List Nat} (hF : Frz σ τ fz) : ∀ {cs : List Cl} {svs : List SV} {x : Cl.Ds cs} {os f : List Nat}, getCls σ cs svs = some (x, os, f) → (∀ o, o ∈ f → o ∈ fz) → Keeps σ τ os →
    ∀ {vs : List Value}, SV.denL P ρ svs vs → (∀ v ∈ vs, v.oneCell' = true) → ClVs ρ.H w cs vs x (borOf ρ os)
  | [], [], x, os, f, h, _, _, vs, hv, _ => by
    simp [getCls] at h
    obtain ⟨rfl, rfl⟩ := h
    simp [SV.denL] at hv
    exact ⟨hv, rfl⟩
  | [], _ :: _, x, os, f, h, _, _, vs, hv, _ => by simp [getCls] at h
  | _ :: _, [], x, os, f, h, _, _, vs, hv, _ => by simp [getCls] at h
  | c :: cs, sv :: svs, x, os, f, h, hf, hk, vs, hv, h1 => by
    simp only [getCls] at h
    split at h
    case h_2 => cases h
    rename_i x1 o1 f1 hc
    split at h
    case h_2 => cases h
    rename_i x2 o2 f2 hcs
    simp at h
    obtain ⟨rfl, rfl, rfl⟩ := h
    simp only [SV.denL] at hv
    obtain ⟨v, r, rfl, v1, v2⟩ := hv
    refine ⟨borOf ρ o1, borOf ρ o2, borOf_append ρ o1 o2, ?_, h1 v (by simp), ?_⟩
    · exact getCl_sound hS hF hc (fun o ho => hf o (List.mem_append_left _ ho)) (fun o ho => hk o (List.mem_append_left _ ho)) v1
    · exact getCls_sound hS hF hcs (fun o ho => hf o (List.mem_append_right _ ho)) (fun o ho => hk o (List.mem_append_right _ ho)) v2 (fun u hu => h1 u (by simp [hu]))

theorem getSh_sound (hS : Sat P B ρ τ.obj w) {fz : List Nat} (hF : Frz σ τ fz) {s : Sh} {sv : SV} {x : s.D} {os f : List Nat} (h : getSh σ s sv = some (x, os, f)) (hf : ∀ o, o ∈ f → o ∈ fz) (hk : Keeps σ τ os)
    {v : Value} (hv : SV.den P ρ sv v) : ShV ρ.H w s v x (borOf ρ os) := by
  unfold getSh at h
  split at h
  · exact getCl_sound hS hF h hf hk hv
  · rename_i T cs o
    split at h
    case h_2 => cases h
    rename_i T' vs ho
    split at h
    case h_2 => cases h
    rename_i x1 o1 f1 h1 h2
    simp at h
    obtain ⟨rfl, rfl, rfl⟩ := h
    have e1 := Nat.eq_of_beq_eq_true h1
    subst e1
    have ho' : τ.obj o = some (.box T false vs) := by rw [hk o (by simp), ho]
    obtain ⟨p, hp, hs⟩ := hS.obs o _ ho'
    simp only [ObSat, fzH] at hs
    obtain ⟨b, C, us, rfl, k1, k2, k3, k4⟩ := hs
    simp only [SV.den] at hv
    obtain ⟨b', C', e1, v1⟩ := hv _ hp
    simp at e1
    obtain ⟨rfl, rfl⟩ := e1
    exact ⟨b, us, borOf ρ o1, v1, by simp [borOf, hp], k4, k1, getCls_sound hS hF h2 hf (fun o ho => hk o (List.mem_cons_of_mem _ ho)) k2 k3⟩
  · cases h

end
end Go.X
/-
  Things that are handed over, taken into a state under names.
-/
namespace Go.X
open Go.RowKit (Below)

def svCl (k : Nat) : (c : Cl) → c.D → SV
  | .dat t, x => .dat t x
  | .row _ t _, _ => .own k t
  | .map _ _, _ => .mp k

def obCl (k : Nat) : (c : Cl) → c.D → List (Nat × Option Ob)
  | .dat _, _ => []
  | .row E t nl, x => [(k, some (.row E t false nl x))]
  | .map kt vt, x => [(k, some (.map false kt vt x))]

def svCls (nm : Nat → Nat) : (cs : List Cl) → Cl.Ds cs → Nat → List SV
  | [], _, _ => []
  | c :: cs, d, j => svCl (nm j) c d.1 :: svCls nm cs d.2 (j + 1)

def obCls (nm : Nat → Nat) : (cs : List Cl) → Cl.Ds cs → Nat → List (Nat × Option Ob)
  | [], _, _ => []
  | c :: cs, d, j => obCls nm cs d.2 (j + 1) ++ obCl (nm j) c d.1

def svSh (k : Nat) : (s : Sh) → s.D → SV
  | .cl c, x => svCl k c x
  | .box _ _, _ => .bp k 0

def obSh (k : Nat) (nm : Nat → Nat) : (s : Sh) → s.D → List (Nat × Option Ob)
  | .cl c, x => obCl k c x
  | .box T cs, x => (k, some (.box T false (svCls nm cs x 0))) :: obCls nm cs x 0

def nmsCl (k : Nat) : Cl → List Nat
  | .dat _ => []
  | _ => [k]
def nmsCls (nm : Nat → Nat) : List Cl → Nat → List Nat
  | [], _ => []
  | c :: r, j => nmsCl (nm j) c ++ nmsCls nm r (j + 1)
def nmsSh (k : Nat) (nm : Nat → Nat) : Sh → List Nat
  | .cl c => nmsCl k c
  | .box _ cs => k :: nmsCls nm cs 0

/-- where a thing lies that is known by its value -/
def pOfCl (Cp : Nat) : Cl → Value → Option (Nat × Nat)
  | .row _ _ _, .slice (some a) _ C => some (a.block, C)
  | .map _ _, .map (some b) => some (b, Cp)
  | _, _ => none
def lOfCl (lp : Nat) : Cl → Value → Nat
  | .row _ _ _, .slice _ n _ => n
  | _, _ => lp
def pOfSh (Cp : Nat) : Sh → Value → Option (Nat × Nat)
  | .cl c, v => pOfCl Cp c v
  | .box _ _, .pointer (some a) => some (a.block, Cp)
  | _, _ => none
def lOfSh (lp : Nat) : Sh → Value → Nat
  | .cl c, v => lOfCl lp c v
  | .box _ _, _ => lp

def oo (ob : List (Nat × Option Ob)) : Nat → Option Ob := (St.mk [] ob).obj

section
variable {P : Program} {B : Base} {ρ : Env} {w : World}

def OkB (B : Base) (ρ : Env) (b : Nat) : Prop := (B.w.heap.size ≤ b ∨ b ∈ B.bor) ∧ ∀ o C, ρ.blk o ≠ some (some (b, C))

theorem adopt1 {obj : Nat → Option Ob} (hS : Sat P B ρ obj w) {k : Nat} (hk : obj k = none) (hn : NoRef obj k) (p : Option (Nat × Nat)) (len : Nat) (x : Ob)
    (hp : ∀ b C, p = some (b, C) → OkB B ρ b) (hx : ∀ ρ' : Env, ρ'.H = ρ.H → ρ'.len k = len → ρ.le ρ' [k] → ObSat P ρ' w k p x) :
    ∃ ρ' : Env, Sat P B ρ' (putO obj k (some x)) w ∧ ρ.le ρ' [k] ∧ ρ'.H = ρ.H ∧ ρ'.blk = (fun o => if o = k then some p else ρ.blk o) ∧ ρ'.len = fun o => if o = k then len else ρ.len o := by
  let ρ' : Env := { H := ρ.H, blk := fun o => if o = k then some p else ρ.blk o, len := fun o => if o = k then len else ρ.len o }
  have hle : ρ.le ρ' [k] := ⟨fun _ _ h => h, fun o p ho hp => by simpa [ρ', show o ≠ k by simpa using ho] using hp, fun o ho => by simp [ρ', show o ≠ k by simpa using ho]⟩
  refine ⟨ρ', ⟨hS.os, hS.tape, hS.output, hS.drawn, hS.size, hS.good, hS.oldH, hS.old, ?_, ?_, ?_, ?_⟩, hle, rfl, rfl, rfl⟩
  · intro o x' hx'
    unfold putO at hx'
    by_cases e : o = k
    · subst e
      rw [if_pos rfl] at hx'
      simp at hx'; subst hx'
      exact ⟨p, by simp [ρ'], hx ρ' rfl (by simp [ρ']) hle⟩
    · rw [if_neg e] at hx'
      obtain ⟨q, hq, hs⟩ := hS.obs o x' hx'
      refine ⟨q, by simp [ρ', e, hq], obSat_mono hle (by simpa using e) (fun T fz cs hcs o' ho' => ?_) (fun b C hpb => ⟨rfl, rfl⟩) hs⟩
      simp at ho'; subst ho'; exact hn o T fz cs (by rw [hx', hcs])
  · intro o ho
    unfold putO at ho
    by_cases e : o = k
    · rw [if_pos e] at ho; cases ho
    · rw [if_neg e] at ho; simp [ρ', e, hS.dead o ho]
  · intro o o' b C1 C2 h1 h2
    by_cases e1 : o = k <;> by_cases e2 : o' = k
    · rw [e1, e2]
    · simp [ρ', e1] at h1; simp [ρ', e2] at h2; exact absurd h2 ((hp b C1 h1).2 o' C2)
    · simp [ρ', e1] at h1; simp [ρ', e2] at h2; exact absurd h1 ((hp b C2 h2).2 o C1)
    · simp [ρ', e1] at h1; simp [ρ', e2] at h2; exact hS.inj o o' b C1 C2 h1 h2
  · intro o b C1 h1
    by_cases e1 : o = k
    · simp [ρ', e1] at h1; exact (hp b C1 h1).1
    · simp [ρ', e1] at h1; exact hS.own o b C1 h1

theorem oo_cons (k : Nat) (x : Option Ob) (ob : List (Nat × Option Ob)) : oo ((k, x) :: ob) = putO (oo ob) k x := obj_wr1 ⟨[], ob⟩ k x

/-- what adoption yields -/
structure Adopted (P : Program) (B : Base) (ρ : Env) (w : World) (ob new : List (Nat × Option Ob)) (nms : List Nat) (bs : List Nat) (ρ' : Env) : Prop where
  sat : Sat P B ρ' (oo (new ++ ob)) w
  le : ρ.le ρ' nms
  H : ρ'.H = ρ.H
  same : ∀ o, o ∉ nms → ρ'.blk o = ρ.blk o ∧ ρ'.len o = ρ.len o
  blk : ∀ o b C, ρ'.blk o = some (some (b, C)) → ρ.blk o = some (some (b, C)) ∨ b ∈ bs

theorem adoptCl {ob : List (Nat × Option Ob)} (hS : Sat P B ρ (oo ob) w) {c : Cl} {k : Nat} {v : Value} {x : c.D} {bs : List Nat} (hv : ClV ρ.H w c v x bs) (hb : ∀ b, b ∈ bs → OkB B ρ b)
    (hk : ∀ n, n ∈ nmsCl k c → oo ob n = none ∧ NoRef (oo ob) n) (Cp lp : Nat) :
    ∃ ρ', Adopted P B ρ w ob (obCl k c x) (nmsCl k c) bs ρ' ∧ SV.den P ρ' (svCl k c x) v ∧ (∀ n, n ∈ nmsCl k c → ρ'.blk n = some (pOfCl Cp c v) ∧ ρ'.len n = lOfCl lp c v) := by
  cases c with
  | dat t =>
    obtain ⟨h1, rfl⟩ := hv
    exact ⟨ρ, ⟨hS, Env.le.refl _ _, rfl, fun _ _ => ⟨rfl, rfl⟩, fun _ _ _ h => .inl h⟩, by simp only [svCl, SV.den]; exact h1, fun n hn => by simp [nmsCl] at hn⟩
  | row E t nl =>
    obtain ⟨k1, k2⟩ := hk k (by simp [nmsCl])
    obtain ⟨hl, hv⟩ := hv
    rcases hv with ⟨rfl, hx0, hnl, rfl⟩ | ⟨b, C, vs, rfl, rfl, hH, g1, g2, g3, g4, g5, g6⟩
    · have hx0' : x = ([] : List t.Data) := hx0
      obtain ⟨ρ', q1, q2, q3, q4, q5⟩ := adopt1 hS k1 k2 none 0 (.row E t false nl x) (fun b C h => by cases h) (fun ρ' _ hlen _ => ⟨by rw [hlen, hx0']; rfl, hl, hx0', hnl⟩)
      refine ⟨ρ', ⟨by simp only [obCl, List.singleton_append]; rw [oo_cons]; exact q1, by simpa [nmsCl] using q2, q3, fun o ho => ?_, fun o b C h => ?_⟩, ?_, fun n hn => ?_⟩
      · have : o ≠ k := by simpa [nmsCl] using ho
        rw [q4, q5]; simp [this]
      · rw [q4] at h
        simp only at h
        split at h
        · simp at h
        · exact .inl h
      · simp only [svCl, SV.den]
        intro p hp
        rw [q4] at hp; simp at hp; subst hp
        exact ⟨trivial, by rw [q5]; simp⟩
      · have : n = k := by simpa [nmsCl] using hn
        subst this
        rw [q4, q5]; simp [pOfCl, lOfCl]
    · obtain ⟨ρ', q1, q2, q3, q4, q5⟩ := adopt1 hS k1 k2 (some (b, C)) x.length (.row E t false nl x) (fun b' C' h => by simp at h; rw [← h.1]; exact hb b (by simp))
        (fun ρ' hH' hlen hle => ⟨by rw [hlen], hl, g1, vs, g2, g3, g4, g5, fun i y hy => t.rd_mono hle.H _ _ (g6 i y hy), by rw [hH', hH]; rfl⟩)
      refine ⟨ρ', ⟨by simp only [obCl, List.singleton_append]; rw [oo_cons]; exact q1, by simpa [nmsCl] using q2, q3, fun o ho => ?_, fun o b' C' h => ?_⟩, ?_, fun n hn => ?_⟩
      · have : o ≠ k := by simpa [nmsCl] using ho
        rw [q4, q5]; simp [this]
      · rw [q4] at h
        simp only at h
        split at h
        · simp at h; exact .inr (by simp [h.1])
        · exact .inl h
      · simp only [svCl, SV.den]
        intro p hp
        rw [q4] at hp; simp at hp; subst hp
        simp only
        rw [q5]; simp only [if_true]
        exact ⟨trivial, g4⟩
      · have : n = k := by simpa [nmsCl] using hn
        subst this
        rw [q4, q5]; simp [pOfCl, lOfCl]
  | map kt vt =>
    obtain ⟨k1, k2⟩ := hk k (by simp [nmsCl])
    obtain ⟨b, es, clock, rfl, rfl, hH, g1, g2⟩ := hv
    obtain ⟨ρ', q1, q2, q3, q4, q5⟩ := adopt1 hS k1 k2 (some (b, Cp)) lp (.map false kt vt x) (fun b' C' h => by simp at h; rw [← h.1]; exact hb b (by simp))
      (fun ρ' hH' _ hle => ⟨b, Cp, es, clock, rfl, g1, g2.mono hle.H, by rw [hH', hH]; rfl⟩)
    refine ⟨ρ', ⟨by simp only [obCl, List.singleton_append]; rw [oo_cons]; exact q1, by simpa [nmsCl] using q2, q3, fun o ho => ?_, fun o b' C' h => ?_⟩, ?_, fun n hn => ?_⟩
    · have : o ≠ k := by simpa [nmsCl] using ho
      rw [q4, q5]; simp [this]
    · rw [q4] at h
      simp only at h
      split at h
      · simp at h; exact .inr (by simp [h.1])
      · exact .inl h
    · simp only [svCl, SV.den]
      intro p hp
      rw [q4] at hp; simp at hp; subst hp
      exact ⟨b, Cp, rfl, rfl⟩
    · have : n = k := by simpa [nmsCl] using hn
      subst this
      rw [q4, q5]; simp [pOfCl, lOfCl]

theorem oo_app_none {new ob : List (Nat × Option Ob)} {n : Nat} (h : n ∉ keys new) : oo (new ++ ob) n = oo ob n := by
  simp only [oo, St.obj]
  rw [look_append, look_none_keys _ _ h]

theorem keys_app {α : Type} (a b : List (Nat × α)) (n : Nat) : n ∈ keys (a ++ b) ↔ n ∈ keys a ∨ n ∈ keys b := by
  induction a with
  | nil => simp [keys]
  | cons x a ih => obtain ⟨j, y⟩ := x; simp only [List.cons_append, keys, List.mem_cons, ih]; exact or_assoc.symm

theorem keys_obCl (k : Nat) (c : Cl) (x : c.D) : keys (obCl k c x) = nmsCl k c := by cases c <;> rfl
theorem keys_obCls (nm : Nat → Nat) : ∀ (cs : List Cl) (x : Cl.Ds cs) (j n : Nat), n ∈ keys (obCls nm cs x j) ↔ n ∈ nmsCls nm cs j
  | [], _, _, n => by simp [obCls, nmsCls, keys]
  | c :: cs, x, j, n => by
    simp only [obCls, nmsCls, keys_app, keys_obCl, List.mem_append, keys_obCls nm cs x.2 (j + 1) n]
    exact or_comm
theorem keys_obSh (k : Nat) (nm : Nat → Nat) (s : Sh) (x : s.D) (n : Nat) : n ∈ keys (obSh k nm s x) ↔ n ∈ nmsSh k nm s := by
  cases s with
  | cl c => simp only [obSh, nmsSh]; rw [keys_obCl]
  | box T cs => simp only [obSh, nmsSh, keys, List.mem_cons, keys_obCls nm cs x 0 n]

/-- no boxes among the new objects: nothing new is named -/
def NoBox (new : List (Nat × Option Ob)) : Prop := ∀ o T fz cs, (o, some (.box T fz cs)) ∉ new

theorem noBox_obCl (k : Nat) (c : Cl) (x : c.D) : NoBox (obCl k c x) := by
  intro o T fz cs h; cases c <;> simp [obCl] at h
theorem noBox_obCls (nm : Nat → Nat) : ∀ (cs : List Cl) (x : Cl.Ds cs) (j : Nat), NoBox (obCls nm cs x j)
  | [], _, _ => by intro o T fz cs h; simp [obCls] at h
  | c :: cs, x, j => by
    intro o T fz cs' h
    simp only [obCls, List.mem_append] at h
    rcases h with h | h
    · exact noBox_obCls nm cs x.2 (j + 1) o T fz cs' h
    · exact noBox_obCl _ _ _ o T fz cs' h

theorem noRef_app {new ob : List (Nat × Option Ob)} {n : Nat} (hb : NoBox new) (h : NoRef (oo ob) n) : NoRef (oo (new ++ ob)) n := by
  intro o T fz cs ho
  simp only [oo, St.obj] at ho
  rw [look_append] at ho
  cases hl : look new o with
  | none => rw [hl] at ho; exact h o T fz cs ho
  | some y => rw [hl] at ho; simp only at ho; subst ho; exact absurd (look_mem _ _ _ hl) (hb o T fz cs)

theorem adoptCls {nm : Nat → Nat} : ∀ (cs : List Cl) (j : Nat) {ob : List (Nat × Option Ob)} {ρ : Env} (_ : Sat P B ρ (oo ob) w) {vs : List Value} {x : Cl.Ds cs} {bs : List Nat} (_ : ClVs ρ.H w cs vs x bs) (_ : bs.Nodup) (_ : ∀ b, b ∈ bs → OkB B ρ b)
    (_ : (nmsCls nm cs j).Nodup) (_ : ∀ n, n ∈ nmsCls nm cs j → oo ob n = none ∧ NoRef (oo ob) n),
    ∃ ρ', Adopted P B ρ w ob (obCls nm cs x j) (nmsCls nm cs j) bs ρ' ∧ SV.denL P ρ' (svCls nm cs x j) vs
  | [], j, ob, ρ, hS, vs, x, bs, hv, _, _, _, _ => by
    obtain ⟨rfl, rfl⟩ := hv
    exact ⟨ρ, ⟨hS, Env.le.refl _ _, rfl, fun _ _ => ⟨rfl, rfl⟩, fun _ _ _ h => .inl h⟩, by simp [svCls, SV.denL]⟩
  | c :: cs, j, ob, ρ, hS, [], x, bs, hv, _, _, _, _ => hv.elim
  | c :: cs, j, ob, ρ, hS, v :: vs, x, bs, hv, hnd, hb, hnn, hk => by
    obtain ⟨b1, b2, rfl, v1, v2, v3⟩ := hv
    simp only [nmsCls] at hnn hk
    rw [List.nodup_append] at hnn hnd
    obtain ⟨n1, n2, n3⟩ := hnn
    obtain ⟨d1, d2, d3⟩ := hnd
    obtain ⟨ρ1, a1, e1, _⟩ := adoptCl hS v1 (fun b hb' => hb b (List.mem_append_left _ hb')) (fun n hn => hk n (List.mem_append_left _ hn)) 0 0
    have hfr : ∀ n, n ∈ nmsCls nm cs (j + 1) → oo (obCl (nm j) c x.1 ++ ob) n = none ∧ NoRef (oo (obCl (nm j) c x.1 ++ ob)) n := by
      intro n hn
      obtain ⟨k1, k2⟩ := hk n (List.mem_append_right _ hn)
      refine ⟨?_, noRef_app (noBox_obCl _ _ _) k2⟩
      rw [oo_app_none, k1]
      rw [keys_obCl]
      exact fun h => n3 n h n hn rfl
    obtain ⟨ρ2, a2, e2⟩ := adoptCls cs (j + 1) a1.sat (vs := vs) (x := x.2) (bs := b2) (by rw [a1.H]; exact v3) d2 (fun b hb' => ⟨(hb b (List.mem_append_right _ hb')).1, fun o C h => by
        rcases a1.blk o b C h with h | h
        · exact (hb b (List.mem_append_right _ hb')).2 o C h
        · exact d3 b h b hb' rfl⟩) n2 hfr
    refine ⟨ρ2, ⟨by simp only [obCls, List.append_assoc]; exact a2.sat, ?_, a2.H.trans a1.H, fun o ho => ?_, fun o b C h => ?_⟩, ?_⟩
    · exact (a1.le.weaken (fun o ho => List.mem_append_left _ ho)).trans (a2.le.weaken (fun o ho => List.mem_append_right _ ho))
    · simp only [nmsCls, List.mem_append, not_or] at ho
      obtain ⟨s1, s2⟩ := a1.same o ho.1
      obtain ⟨s3, s4⟩ := a2.same o ho.2
      exact ⟨s3.trans s1, s4.trans s2⟩
    · rcases a2.blk o b C h with h | h
      · rcases a1.blk o b C h with h | h
        · exact .inl h
        · exact .inr (List.mem_append_left _ h)
      · exact .inr (List.mem_append_right _ h)
    · simp only [svCls, SV.denL]
      refine ⟨v, vs, rfl, SV.den_mono a2.le _ _ (fun o ho => ?_) e1, e2⟩
      cases c with
      | dat t => rfl
      | row E t nl =>
        have hne : nm j ≠ o := fun h => n3 (nm j) (by simp [nmsCl]) o ho h
        simp only [svCl, SV.refs]
        cases hb' : Nat.beq o (nm j) with
        | false => rfl
        | true => exact absurd (Nat.eq_of_beq_eq_true hb').symm hne
      | map kt vt =>
        have hne : nm j ≠ o := fun h => n3 (nm j) (by simp [nmsCl]) o ho h
        simp only [svCl, SV.refs]
        cases hb' : Nat.beq o (nm j) with
        | false => rfl
        | true => exact absurd (Nat.eq_of_beq_eq_true hb').symm hne

theorem svCls_refs {nm : Nat → Nat} {k : Nat} : ∀ (cs : List Cl) (x : Cl.Ds cs) (j : Nat), k ∉ nmsCls nm cs j → SV.refs.refsL k (svCls nm cs x j) = false
  | [], _, _, _ => rfl
  | c :: cs, x, j, h => by
    simp only [nmsCls, List.mem_append, not_or] at h
    simp only [svCls, SV.refs.refsL]
    have h1 : (svCl (nm j) c x.1).refs k = false := by
      cases c with
      | dat t => rfl
      | row E t nl =>
        have hne : k ≠ nm j := fun e => h.1 (by simp [nmsCl, e])
        simp only [svCl, SV.refs]
        cases hb' : Nat.beq k (nm j) with
        | false => rfl
        | true => exact absurd (Nat.eq_of_beq_eq_true hb') hne
      | map kt vt =>
        have hne : k ≠ nm j := fun e => h.1 (by simp [nmsCl, e])
        simp only [svCl, SV.refs]
        cases hb' : Nat.beq k (nm j) with
        | false => rfl
        | true => exact absurd (Nat.eq_of_beq_eq_true hb') hne
    rw [h1]
    exact svCls_refs cs x.2 (j + 1) h.2

theorem oneCls {H : Imm} : ∀ (cs : List Cl) (vs : List Value) (x : Cl.Ds cs) (bs : List Nat), ClVs H w cs vs x bs → ∀ v ∈ vs, v.oneCell' = true
  | [], vs, x, bs, h, v, hv => by obtain ⟨rfl, _⟩ := h; simp at hv
  | c :: cs, [], x, bs, h, v, hv => h.elim
  | c :: cs, u :: vs, x, bs, h, v, hv => by
    obtain ⟨_, _, _, _, h1, h2⟩ := h
    rcases List.mem_cons.1 hv with rfl | hv
    · exact h1
    · exact oneCls cs vs x.2 _ h2 v hv

theorem adoptSh {nm : Nat → Nat} {ob : List (Nat × Option Ob)} (hS : Sat P B ρ (oo ob) w) {s : Sh} {k : Nat} {v : Value} {x : s.D} {bs : List Nat} (hv : ShV ρ.H w s v x bs) (hnd : bs.Nodup) (hb : ∀ b, b ∈ bs → OkB B ρ b)
    (hnn : (nmsSh k nm s).Nodup) (hk : ∀ n, n ∈ nmsSh k nm s → oo ob n = none ∧ NoRef (oo ob) n) (Cp lp : Nat) :
    ∃ ρ', Adopted P B ρ w ob (obSh k nm s x) (nmsSh k nm s) bs ρ' ∧ SV.den P ρ' (svSh k s x) v ∧ (k ∈ nmsSh k nm s → ρ'.blk k = some (pOfSh Cp s v) ∧ ρ'.len k = lOfSh lp s v) := by
  cases s with
  | cl c =>
    obtain ⟨ρ', a, e, r⟩ := adoptCl hS hv hb hk Cp lp
    exact ⟨ρ', a, e, fun h => r k h⟩
  | box T cs =>
    obtain ⟨b, vs, bs', rfl, rfl, hH, hw, hcs⟩ := hv
    simp only [nmsSh, List.nodup_cons] at hnn
    rw [List.nodup_cons] at hnd
    obtain ⟨ρ1, a1, e1⟩ := adoptCls cs 0 hS hcs hnd.2 (fun b' hb' => hb b' (List.mem_cons_of_mem _ hb')) hnn.2 (fun n hn => hk n (List.mem_cons_of_mem _ hn))
    obtain ⟨k1, k2⟩ := hk k (by simp [nmsSh])
    have hk1 : oo (obCls nm cs x 0 ++ ob) k = none := by
      rw [oo_app_none, k1]
      rw [keys_obCls]; exact hnn.1
    obtain ⟨ρ2, q1, q2, q3, q4, q5⟩ := adopt1 a1.sat hk1 (noRef_app (noBox_obCls _ _ _ _) k2) (some (b, Cp)) lp (.box T false (svCls nm cs x 0)) (fun b' C' h => by
        simp at h
        rw [← h.1]
        refine ⟨(hb b (by simp)).1, fun o C h' => ?_⟩
        rcases a1.blk o b C h' with h' | h'
        · exact (hb b (by simp)).2 o C h'
        · exact hnd.1 h') (fun ρ' hH' _ hle => ⟨b, Cp, vs, rfl, hw, SV.denL_mono hle _ _ (fun o ho => by simp at ho; subst ho; exact svCls_refs cs x 0 hnn.1) e1, oneCls cs vs.toList x bs' hcs, by rw [hH', a1.H, hH]; rfl⟩)
    refine ⟨ρ2, ⟨by simp only [obSh, List.cons_append]; rw [oo_cons]; exact q1, ?_, q3.trans a1.H, fun o ho => ?_, fun o b' C' h => ?_⟩, ?_, fun _ => ?_⟩
    · exact (a1.le.weaken (fun o ho => List.mem_cons_of_mem _ ho)).trans (q2.weaken (fun o ho => by simp at ho; subst ho; simp []))
    · simp only [nmsSh, List.mem_cons, not_or] at ho
      obtain ⟨s1, s2⟩ := a1.same o ho.2
      rw [q4, q5]; simp only [ho.1, if_false]; exact ⟨s1, s2⟩
    · rw [q4] at h
      simp only at h
      split at h
      · simp at h; exact .inr (by simp [h.1])
      · rcases a1.blk o b' C' h with h | h
        · exact .inl h
        · exact .inr (List.mem_cons_of_mem _ h)
    · simp only [svSh, SV.den]
      intro p hp
      rw [q4] at hp; simp at hp; subst hp
      exact ⟨b, Cp, rfl, rfl⟩
    · rw [q4, q5]; simp [pOfSh, lOfSh]

end
end Go.X
/-
  Functions to which things are handed over: what is said of them, and that what is asked of the body is enough.
-/
namespace Go.X
open Go.RowKit (Below)

inductive OPar where
  | val (t : Ty)
  | ref (t : Ty)
  | nil
  | clo (f : Nat)
  | fn (ps rs : List Ty)
  | own (s : Sh) (kept : Bool)

@[reducible] def OPar.Data : OPar → Type
  | .val t => t.Data
  | .ref t => t.Data
  | .nil => Unit
  | .clo _ => Unit
  | .fn ps rs => FnD ps rs
  | .own s _ => s.D

@[reducible] def OD : List OPar → Type
  | [] => Unit
  | p :: ps => p.Data × OD ps

/-- the new contents of what is kept -/
@[reducible] def KD : List OPar → Type
  | [] => Unit
  | .own s true :: ps => s.D × KD ps
  | _ :: ps => KD ps

@[reducible] def RD : List Sh → Type
  | [] => Unit
  | s :: r => s.D × RD r

structure OSpec where
  ps : List OPar
  rs : List Sh
  pre : OD ps → List Prop
  F : OD ps → RD rs × KD ps

/-! ### Without names -/

def OArg (P : Program) (H : Imm) (w : World) : (p : OPar) → Value → p.Data → List Nat → Prop
  | .val t, v, d, bs => t.rv H v d ∧ bs = []
  | .ref t, v, d, bs => refV H t v d ∧ bs = []
  | .nil, v, _, bs => v = .slice none 0 0 ∧ bs = []
  | .clo f, v, _, bs => v = .func (.func f) #[] #[] ∧ bs = []
  | .fn ps rs, v, d, bs => FnV P H ps rs d.pre d.F v ∧ bs = []
  | .own s _, v, d, bs => ShV H w s v d bs

def OArgs (P : Program) (H : Imm) (w : World) : (ps : List OPar) → List Value → OD ps → List Nat → Prop
  | [], vs, _, bs => vs = [] ∧ bs = []
  | p :: ps, v :: vs, d, bs => ∃ b1 b2, bs = b1 ++ b2 ∧ OArg P H w p v d.1 b1 ∧ OArgs P H w ps vs d.2 b2
  | _ :: _, [], _, _ => False

def ORes (H : Imm) (w : World) : (rs : List Sh) → List Value → RD rs → List Nat → Prop
  | [], vs, _, bs => vs = [] ∧ bs = []
  | s :: rs, v :: vs, d, bs => ∃ b1 b2, bs = b1 ++ b2 ∧ ShV H w s v d.1 b1 ∧ ORes H w rs vs d.2 b2
  | _ :: _, [], _, _ => False

/-- the results as one value -/
def oneV : List Value → Value
  | [v] => v
  | vs => .tuple vs.toArray

def OKept (H : Imm) (w : World) : (ps : List OPar) → List Value → KD ps → List Nat → Prop
  | [], _, _, bs => bs = []
  | .own s true :: ps, v :: vs, d, bs => ∃ b1 b2, bs = b1 ++ b2 ∧ ShV H w s v d.1 b1 ∧ OKept H w ps vs d.2 b2
  | .own _ false :: ps, _ :: vs, d, bs => OKept H w ps vs d bs
  | .val _ :: ps, _ :: vs, d, bs => OKept H w ps vs d bs
  | .ref _ :: ps, _ :: vs, d, bs => OKept H w ps vs d bs
  | .nil :: ps, _ :: vs, d, bs => OKept H w ps vs d bs
  | .clo _ :: ps, _ :: vs, d, bs => OKept H w ps vs d bs
  | .fn _ _ :: ps, _ :: vs, d, bs => OKept H w ps vs d bs
  | _ :: _, [], _, _ => False

def OPost (H : Imm) (w : World) (bs : List Nat) (s : OSpec) (vals : List Value) (d : OD s.ps) : Ending → World → Prop :=
  fun e w' => ∃ vs H' rb kb, e = .returned (oneV vs) ∧ HExtB bs H w H' w' ∧ ORes H' w' s.rs vs (s.F d).1 rb ∧ OKept H' w' s.ps vals (s.F d).2 kb ∧ (rb ++ kb).Nodup ∧ ∀ b, b ∈ rb ++ kb → b ∈ bs ∨ w.heap.size ≤ b

structure OFnOK (P : Program) (f : Nat) (s : OSpec) : Prop where
  enters : enters P f
  calls : ∀ H w vals d bs, Good H w → OArgs P H w s.ps vals d bs → bs.Nodup → AllP (s.pre d) → Calls P f vals.toArray w (OPost H w bs s vals d)

/-! ### A body's beginning and end -/

def rootN (i : Nat) : Nat := 1000000 + i
def nestN (i j : Nat) : Nat := 1000000000 + 1000 * i + j

def oSl : (ps : List OPar) → OD ps → Nat → List (Nat × SV)
  | [], _, _ => []
  | .val t :: ps, d, i => (i, .dat t d.1) :: oSl ps d.2 (i + 1)
  | .ref t :: ps, d, i => (i, .ep t d.1) :: oSl ps d.2 (i + 1)
  | .nil :: ps, d, i => (i, .lit (.slice none 0 0)) :: oSl ps d.2 (i + 1)
  | .clo f :: ps, d, i => (i, .clo f []) :: oSl ps d.2 (i + 1)
  | .fn qs rs :: ps, d, i => (i, .fn qs rs d.1.pre d.1.F) :: oSl ps d.2 (i + 1)
  | .own s _ :: ps, d, i => (i, svSh (rootN i) s d.1) :: oSl ps d.2 (i + 1)

def oOb : (ps : List OPar) → OD ps → Nat → List (Nat × Option Ob)
  | [], _, _ => []
  | .own s _ :: ps, d, i => oOb ps d.2 (i + 1) ++ obSh (rootN i) (nestN i) s d.1
  | .val _ :: ps, d, i => oOb ps d.2 (i + 1)
  | .ref _ :: ps, d, i => oOb ps d.2 (i + 1)
  | .nil :: ps, d, i => oOb ps d.2 (i + 1)
  | .clo _ :: ps, d, i => oOb ps d.2 (i + 1)
  | .fn _ _ :: ps, d, i => oOb ps d.2 (i + 1)

def oNms : List OPar → Nat → List Nat
  | [], _ => []
  | .own s _ :: ps, i => nmsSh (rootN i) (nestN i) s ++ oNms ps (i + 1)
  | _ :: ps, i => oNms ps (i + 1)

def rootSV (k : Nat) : Sh → SV
  | .cl (.row _ t _) => .own k t
  | .cl (.map _ _) => .mp k
  | .cl (.dat _) => .any
  | .box _ _ => .bp k 0

/-- what is handed over is no plain data -/
def notDat : Sh → Bool
  | .cl (.dat _) => false
  | _ => true

def noDats : List OPar → Bool
  | [] => true
  | .own s _ :: ps => match notDat s with | true => noDats ps | false => false
  | _ :: ps => noDats ps

def getRes (σ : St) : (rs : List Sh) → List ResultVar → Option (RD rs × List Nat × List Nat)
  | [], [] => some ((), [], [])
  | s :: rs, .tmp t :: rv => match getSh σ s (σ.get t) with
    | some (x, os, f) => match getRes σ rs rv with
      | some (y, os', f') => some ((x, y), os ++ os', f ++ f')
      | none => none
    | none => none
  | _, _ => none

def getKept (σ : St) : (ps : List OPar) → Nat → Option (KD ps × List Nat × List Nat)
  | [], _ => some ((), [], [])
  | .own s true :: ps, i => match getSh σ s (rootSV (rootN i) s) with
    | some (x, os, f) => match getKept σ ps (i + 1) with
      | some (y, os', f') => some ((x, y), os ++ os', f ++ f')
      | none => none
    | none => none
  | .own _ false :: ps, i => getKept σ ps (i + 1)
  | .val _ :: ps, i => getKept σ ps (i + 1)
  | .ref _ :: ps, i => getKept σ ps (i + 1)
  | .nil :: ps, i => getKept σ ps (i + 1)
  | .clo _ :: ps, i => getKept σ ps (i + 1)
  | .fn _ _ :: ps, i => getKept σ ps (i + 1)

def nodupB : List Nat → Bool
  | [] => true
  | o :: r => match memb r o with | true => false | false => nodupB r

def finishO (fn : Func) (s : OSpec) (want : RD s.rs × KD s.ps) : Ex → St → Prop
  | .exit _, _ => False
  | _, σ => match getRes σ s.rs fn.results.toList, getKept σ s.ps 0 with
    | some (r, o1, f1), some (k, o2, f2) => match nodupB (o1 ++ o2), meets (f1 ++ f2) (o1 ++ o2) with
      | true, false => r = want.1 ∧ k = want.2
      | _, _ => False
    | _, _ => False

@[irreducible] def ofnVC (C : Ctx) (A : Ann) (fn : Func) (body : Code) (s : OSpec) : Prop :=
  ∀ d : OD s.ps, gives (s.pre d) (vcg C A body ⟨oSl s.ps d 0, oOb s.ps d 0⟩ (finishO fn s (s.F d)))

section
variable {P : Program} {B : Base} {C : Ctx} {ρ : Env} {w : World}

theorem nodupB_nodup : ∀ (l : List Nat), nodupB l = true → l.Nodup
  | [], _ => List.nodup_nil
  | o :: r, h => by
    simp only [nodupB] at h
    split at h
    · cases h
    · rename_i hm
      rw [List.nodup_cons]
      exact ⟨memb_false hm, nodupB_nodup r h⟩

theorem noRef_sh {k : Nat} {nm : Nat → Nat} {s : Sh} {x : s.D} {ob : List (Nat × Option Ob)} {n : Nat} (hn : n ∉ nmsSh k nm s) (h : NoRef (oo ob) n) : NoRef (oo (obSh k nm s x ++ ob)) n := by
  cases s with
  | cl c => exact noRef_app (noBox_obCl k c x) h
  | box T cs =>
    intro o T' fz cs' ho
    simp only [nmsSh, List.mem_cons, not_or] at hn
    simp only [obSh, List.cons_append] at ho
    rw [oo_cons] at ho
    unfold putO at ho
    split at ho
    · simp at ho
      obtain ⟨rfl, rfl, rfl⟩ := ho
      exact svCls_refs cs x 0 hn.2
    · exact noRef_app (noBox_obCls nm cs x 0) h o T' fz cs' ho

theorem oSl_ge : ∀ (ps : List OPar) (d : OD ps) (i s : Nat) (v : SV), look (oSl ps d i) s = some v → i ≤ s
  | [], _, _, _, _, h => by simp [oSl, look] at h
  | p :: ps, d, i, s, v, h => by
    have : ∃ sv, oSl (p :: ps) d i = (i, sv) :: oSl ps d.2 (i + 1) := by cases p <;> exact ⟨_, rfl⟩
    obtain ⟨sv, e⟩ := this
    rw [e] at h
    simp only [look] at h
    cases hb : Nat.beq i s with
    | true => have := Nat.eq_of_beq_eq_true hb; omega
    | false => rw [hb] at h; have := oSl_ge ps d.2 (i + 1) s v h; omega

theorem oSl_lt : ∀ (ps : List OPar) (d : OD ps) (i s : Nat) (v : SV), look (oSl ps d i) s = some v → s < i + ps.length
  | [], _, _, _, _, h => by simp [oSl, look] at h
  | p :: ps, d, i, s, v, h => by
    have : ∃ sv, oSl (p :: ps) d i = (i, sv) :: oSl ps d.2 (i + 1) := by cases p <;> exact ⟨_, rfl⟩
    obtain ⟨sv, e⟩ := this
    rw [e] at h
    simp only [look] at h
    cases hb : Nat.beq i s with
    | true => have := Nat.eq_of_beq_eq_true hb; simp; omega
    | false => rw [hb] at h; have := oSl_lt ps d.2 (i + 1) s v h; simp; omega

/-- the beginning: what is handed over has its names -/
theorem init_sat : ∀ (ps : List OPar) (i : Nat) {ob : List (Nat × Option Ob)} {ρ : Env} (_ : Sat P B ρ (oo ob) w) {vs : List Value} {d : OD ps} {bs : List Nat} (_ : OArgs P ρ.H w ps vs d bs) (_ : bs.Nodup) (_ : ∀ b, b ∈ bs → OkB B ρ b)
    (_ : (oNms ps i).Nodup) (_ : ∀ n, n ∈ oNms ps i → oo ob n = none ∧ NoRef (oo ob) n),
    ∃ ρ', Adopted P B ρ w ob (oOb ps d i) (oNms ps i) bs ρ' ∧ ∀ s v, look (oSl ps d i) s = some v → ∃ x, vs[s - i]? = some x ∧ SV.den P ρ' v x
  | [], i, ob, ρ, hS, vs, d, bs, hv, _, _, _, _ => by
    obtain ⟨rfl, rfl⟩ := hv
    exact ⟨ρ, ⟨hS, Env.le.refl _ _, rfl, fun _ _ => ⟨rfl, rfl⟩, fun _ _ _ h => .inl h⟩, fun s v h => by simp [oSl, look] at h⟩
  | p :: ps, i, ob, ρ, hS, [], d, bs, hv, _, _, _, _ => hv.elim
  | p :: ps, i, ob, ρ, hS, v :: vs, d, bs, hv, hnd, hb, hnn, hk => by
    obtain ⟨b1, b2, rfl, v1, v2⟩ := hv
    -- one that is no thing of the call's own
    have plain : ∀ (sv : SV), b1 = [] → SV.den P ρ sv v → (∀ o, sv.refs o = false) → oSl (p :: ps) d i = (i, sv) :: oSl ps d.2 (i + 1) → oOb (p :: ps) d i = oOb ps d.2 (i + 1) → oNms (p :: ps) i = oNms ps (i + 1) →
        ∃ ρ', Adopted P B ρ w ob (oOb (p :: ps) d i) (oNms (p :: ps) i) (b1 ++ b2) ρ' ∧ ∀ s u, look (oSl (p :: ps) d i) s = some u → ∃ x, (v :: vs)[s - i]? = some x ∧ SV.den P ρ' u x := by
      intro sv e1 hden hr e2 e3 e4
      subst e1
      rw [e4] at hnn hk ⊢
      rw [e3, e2]
      obtain ⟨ρ', a, hs⟩ := init_sat ps (i + 1) hS v2 (by simpa using hnd) (fun b hb' => hb b (by simpa using hb')) hnn hk
      refine ⟨ρ', by simpa using a, fun s u hu => ?_⟩
      simp only [look] at hu
      cases hbq : Nat.beq i s with
      | true =>
        have := Nat.eq_of_beq_eq_true hbq; subst this
        rw [hbq] at hu; simp at hu; subst hu
        exact ⟨v, by simp, SV.den_mono a.le _ _ (fun o _ => hr o) hden⟩
      | false =>
        rw [hbq] at hu
        have hge := oSl_ge ps d.2 (i + 1) s u hu
        obtain ⟨x, x1, x2⟩ := hs s u hu
        exact ⟨x, by rw [show s - i = (s - (i + 1)) + 1 by omega]; simpa using x1, x2⟩
    cases p with
    | val t => exact plain (.dat t d.1) v1.2 (by simp only [SV.den]; exact v1.1) (fun _ => rfl) rfl rfl rfl
    | ref t => exact plain (.ep t d.1) v1.2 (by simp only [SV.den]; exact v1.1) (fun _ => rfl) rfl rfl rfl
    | nil => exact plain (.lit (.slice none 0 0)) v1.2 (by simp only [SV.den]; exact v1.1) (fun _ => rfl) rfl rfl rfl
    | clo f => exact plain (.clo f []) v1.2 (by simp only [SV.den, SV.denL]; exact ⟨#[], v1.1, rfl⟩) (fun _ => rfl) rfl rfl rfl
    | fn qs rs => exact plain (.fn qs rs d.1.pre d.1.F) v1.2 (by simp only [SV.den]; exact v1.1) (fun _ => rfl) rfl rfl rfl
    | own s kp =>
      simp only [oNms] at hnn hk ⊢
      rw [List.nodup_append] at hnn hnd
      obtain ⟨n1, n2, n3⟩ := hnn
      obtain ⟨d1, d2, d3⟩ := hnd
      obtain ⟨ρ1, a1, e1, _⟩ := adoptSh hS (s := s) (k := rootN i) (nm := nestN i) v1 d1 (fun b hb' => hb b (List.mem_append_left _ hb')) n1 (fun n hn => hk n (List.mem_append_left _ hn)) 0 0
      obtain ⟨ρ2, a2, hs⟩ := init_sat ps (i + 1) a1.sat (vs := vs) (d := d.2) (bs := b2) (by
          -- the other arguments read as before
          rw [a1.H]; exact v2) d2 (fun b hb' => ⟨(hb b (List.mem_append_right _ hb')).1, fun o C' h => by
          rcases a1.blk o b C' h with h | h
          · exact (hb b (List.mem_append_right _ hb')).2 o C' h
          · exact d3 b h b hb' rfl⟩) n2 (fun n hn => by
          obtain ⟨k1, k2⟩ := hk n (List.mem_append_right _ hn)
          have hnn : n ∉ nmsSh (rootN i) (nestN i) s := fun h => n3 n h n hn rfl
          exact ⟨by rw [oo_app_none (by rw [keys_obSh]; exact hnn)]; exact k1, noRef_sh hnn k2⟩)
      refine ⟨ρ2, ⟨by simp only [oOb, List.append_assoc]; exact a2.sat, ?_, a2.H.trans a1.H, fun o ho => ?_, fun o b C' h => ?_⟩, fun s' u hu => ?_⟩
      · exact (a1.le.weaken (fun o ho => List.mem_append_left _ ho)).trans (a2.le.weaken (fun o ho => List.mem_append_right _ ho))
      · simp only [List.mem_append, not_or] at ho
        obtain ⟨s1, s2⟩ := a1.same o ho.1
        obtain ⟨s3, s4⟩ := a2.same o ho.2
        exact ⟨s3.trans s1, s4.trans s2⟩
      · rcases a2.blk o b C' h with h | h
        · rcases a1.blk o b C' h with h | h
          · exact .inl h
          · exact .inr (List.mem_append_left _ h)
        · exact .inr (List.mem_append_right _ h)
      · simp only [oSl, look] at hu
        cases hbq : Nat.beq i s' with
        | true =>
          have := Nat.eq_of_beq_eq_true hbq; subst this
          rw [hbq] at hu; simp at hu; subst hu
          refine ⟨v, by simp, SV.den_mono a2.le _ _ (fun o ho => ?_) e1⟩
          -- later names are others
          have : o ∉ nmsSh (rootN i) (nestN i) s := fun h => n3 o h o ho rfl
          cases s with
          | cl c =>
            cases c with
            | dat t => rfl
            | row E t nl =>
              have hne : o ≠ rootN i := fun e => this (by simp [nmsSh, nmsCl, e])
              simp only [svSh, svCl, SV.refs]
              cases hb' : Nat.beq o (rootN i) with
              | false => rfl
              | true => exact absurd (Nat.eq_of_beq_eq_true hb') hne
            | map kt vt =>
              have hne : o ≠ rootN i := fun e => this (by simp [nmsSh, nmsCl, e])
              simp only [svSh, svCl, SV.refs]
              cases hb' : Nat.beq o (rootN i) with
              | false => rfl
              | true => exact absurd (Nat.eq_of_beq_eq_true hb') hne
          | box T cs =>
            have hne : o ≠ rootN i := fun e => this (by simp [nmsSh, e])
            simp only [svSh, SV.refs]
            cases hb' : Nat.beq o (rootN i) with
            | false => rfl
            | true => exact absurd (Nat.eq_of_beq_eq_true hb') hne
        | false =>
          rw [hbq] at hu
          have hge := oSl_ge ps d.2 (i + 1) s' u hu
          obtain ⟨x, x1, x2⟩ := hs s' u hu
          exact ⟨x, by rw [show s' - i = (s' - (i + 1)) + 1 by omega]; simpa using x1, x2⟩

theorem oArgs_length {H : Imm} : ∀ (ps : List OPar) (vs : List Value) (d : OD ps) (bs : List Nat), OArgs P H w ps vs d bs → vs.length = ps.length
  | [], vs, d, bs, h => by obtain ⟨rfl, _⟩ := h; rfl
  | p :: ps, [], d, bs, h => h.elim
  | p :: ps, v :: vs, d, bs, h => by
    obtain ⟨_, b2, _, _, h⟩ := h
    simp [oArgs_length ps vs d.2 b2 h]

theorem sat_base {B' : Base} {obj : Nat → Option Ob} (h : Sat P B ρ obj w) (h1 : B'.w = B.w) (h2 : B'.H = B.H) (h3 : B'.bor = B.bor) : Sat P B' ρ obj w :=
  ⟨by rw [h1]; exact h.os, by rw [h1]; exact h.tape, by rw [h1]; exact h.output, by rw [h1]; exact h.drawn, by rw [h1]; exact h.size, h.good, by rw [h1, h2, h3]; exact h.oldH, by rw [h1, h3]; exact h.old, h.obs, h.dead, h.inj, by rw [h1, h3]; exact h.own⟩

theorem den_pin {ρ' : Env} {k : Nat} {s : Sh} {x : s.D} {v : Value} (hp : ∀ p, ρ'.blk k = some p → ρ.blk k = some p ∧ ρ'.len k = ρ.len k) (h : SV.den P ρ (svSh k s x) v) : SV.den P ρ' (rootSV k s) v := by
  cases s with
  | cl c =>
    cases c with
    | dat t => simp [rootSV, SV.den]
    | row E t nl =>
      simp only [svSh, svCl, rootSV, SV.den] at h ⊢
      intro p hq
      obtain ⟨h1, h2⟩ := hp p hq
      rw [h2]; exact h p h1
    | map kt vt =>
      simp only [svSh, svCl, rootSV, SV.den] at h ⊢
      intro p hq
      exact h p (hp p hq).1
  | box T cs =>
    simp only [svSh, rootSV, SV.den] at h ⊢
    intro p hq
    exact h p (hp p hq).1

theorem getRes_sound {σ τ : St} {fz : List Nat} (hS : Sat P B ρ τ.obj w) (hF : Frz σ τ fz) {tmps : Array Value} (hd : ∀ s, SV.den P ρ (σ.get s) (tmps.getD s undef)) :
    ∀ (rs : List Sh) (rv : List ResultVar) (r : RD rs) (os f : List Nat), getRes σ rs rv = some (r, os, f) → (∀ o, o ∈ f → o ∈ fz) → Keeps σ τ os →
      ∃ ss : List Nat, rv = ss.map ResultVar.tmp ∧ ORes ρ.H w rs (ss.map fun s => tmps.getD s undef) r (borOf ρ os)
  | [], [], r, os, f, h, _, _ => by
    simp [getRes] at h
    obtain ⟨rfl, rfl⟩ := h
    exact ⟨[], rfl, rfl, rfl⟩
  | [], _ :: _, r, os, f, h, _, _ => by simp [getRes] at h
  | _ :: _, [], r, os, f, h, _, _ => by simp [getRes] at h
  | s :: rs, .cell _ _ :: rv, r, os, f, h, _, _ => by simp [getRes] at h
  | s :: rs, .tmp t :: rv, r, os, f, h, hf, hk => by
    simp only [getRes] at h
    split at h
    case h_2 => cases h
    rename_i x o1 f1 hx
    split at h
    case h_2 => cases h
    rename_i y o2 f2 hy
    simp at h
    obtain ⟨rfl, rfl, rfl⟩ := h
    obtain ⟨ss, e, hr⟩ := getRes_sound hS hF hd rs rv y o2 f2 hy (fun o ho => hf o (List.mem_append_right _ ho)) (fun o ho => hk o (List.mem_append_right _ ho))
    exact ⟨t :: ss, by simp [e], borOf ρ o1, borOf ρ o2, borOf_append ρ o1 o2, getSh_sound hS hF hx (fun o ho => hf o (List.mem_append_left _ ho)) (fun o ho => hk o (List.mem_append_left _ ho)) (hd t), hr⟩

theorem getKept_sound {σ τ : St} {fz : List Nat} (hS : Sat P B ρ τ.obj w) (hF : Frz σ τ fz) :
    ∀ (ps : List OPar) (i : Nat) (vs : List Value) (k : KD ps) (os f : List Nat), getKept σ ps i = some (k, os, f) → vs.length = ps.length → (∀ (j : Nat) s b v, ps[j]? = some (.own s b) → vs[j]? = some v → SV.den P ρ (rootSV (rootN (i + j)) s) v) →
      (∀ o, o ∈ f → o ∈ fz) → Keeps σ τ os → OKept ρ.H w ps vs k (borOf ρ os)
  | [], i, vs, k, os, f, h, _, _, _, _ => by
    simp [getKept] at h
    obtain ⟨rfl, rfl⟩ := h
    exact rfl
  | p :: ps, i, [], k, os, f, h, hl, _, _, _ => by simp at hl
  | p :: ps, i, v :: vs, k, os, f, h, hl, hd, hf, hk => by
    have hd' : ∀ (j : Nat) s b u, ps[j]? = some (.own s b) → vs[j]? = some u → SV.den P ρ (rootSV (rootN (i + 1 + j)) s) u := fun j s b u h1 h2 => by
      have := hd (j + 1) s b u (by simpa using h1) (by simpa using h2)
      rwa [show i + (j + 1) = i + 1 + j by omega] at this
    have hl' : vs.length = ps.length := by simpa using hl
    cases p with
    | val t => exact getKept_sound hS hF ps (i + 1) vs k os f h hl' hd' hf hk
    | ref t => exact getKept_sound hS hF ps (i + 1) vs k os f h hl' hd' hf hk
    | nil => exact getKept_sound hS hF ps (i + 1) vs k os f h hl' hd' hf hk
    | clo _ => exact getKept_sound hS hF ps (i + 1) vs k os f h hl' hd' hf hk
    | fn qs rs => exact getKept_sound hS hF ps (i + 1) vs k os f h hl' hd' hf hk
    | own s b =>
      cases b with
      | false => exact getKept_sound hS hF ps (i + 1) vs k os f h hl' hd' hf hk
      | true =>
        simp only [getKept] at h
        split at h
        case h_2 => cases h
        rename_i x o1 f1 hx
        split at h
        case h_2 => cases h
        rename_i y o2 f2 hy
        simp at h
        obtain ⟨rfl, rfl, rfl⟩ := h
        have h0 := hd 0 s true v rfl rfl
        exact ⟨borOf ρ o1, borOf ρ o2, borOf_append ρ o1 o2, getSh_sound hS hF hx (fun o ho => hf o (List.mem_append_left _ ho)) (fun o ho => hk o (List.mem_append_left _ ho)) h0,
          getKept_sound hS hF ps (i + 1) vs y o2 f2 hy hl' hd' (fun o ho => hf o (List.mem_append_right _ ho)) (fun o ho => hk o (List.mem_append_right _ ho))⟩

theorem own_slot : ∀ (ps : List OPar) (d : OD ps) (i j : Nat) s b, ps[j]? = some (.own s b) → ∃ x : s.D, look (oSl ps d i) (i + j) = some (svSh (rootN (i + j)) s x)
  | [], d, i, j, s, b, h => by simp at h
  | p :: ps, d, i, j, s, b, h => by
    have : ∃ sv, oSl (p :: ps) d i = (i, sv) :: oSl ps d.2 (i + 1) := by cases p <;> exact ⟨_, rfl⟩
    obtain ⟨sv, e⟩ := this
    cases j with
    | zero =>
      simp at h
      subst h
      exact ⟨d.1, by simp [oSl, look]⟩
    | succ j =>
      obtain ⟨x, hx⟩ := own_slot ps d.2 (i + 1) j s b (by simpa using h)
      refine ⟨x, ?_⟩
      rw [e, look_cons_ne (by omega), show i + (j + 1) = i + 1 + j by omega]
      exact hx

theorem ofn_ok (hC : C.ok P) (hm : P.follows .mixedOrders = true) {f : Nat} {fn : Func} {body : Code} {s : OSpec} (hf : P.funcs[f]? = some fn) (hb : fn.body = some body)
    (hname : (fn.name == "runtime.NumGoroutine") = false) (hn : fn.ntmps = C.n) (hps : s.ps.length ≤ C.n) (hnm : nodupB (oNms s.ps 0) = true) (A : Ann) (h : ofnVC C A fn body s) : OFnOK P f s := by
  unfold ofnVC at h
  refine ⟨enters_of hf hb hname, fun H w vals d bs hg hargs hnd hpre => ?_⟩
  have hlen := oArgs_length s.ps vals d bs hargs
  refine calls_of_wp hf hb ?_
  have hv := gives_all _ _ (h d) hpre
  let B0 : Base := ⟨w, H, bs, fun _ => none, fun _ => 0⟩
  let ρ0 : Env := ⟨H, fun _ => none, fun _ => 0⟩
  have hS0 : Sat P B0 ρ0 (oo []) w := by
    refine ⟨rfl, rfl, rfl, Nat.le_refl _, Nat.le_refl _, hg, fun _ _ _ => rfl, fun _ _ _ => rfl, ?_, fun _ _ => rfl, ?_, ?_⟩
    · intro o x hx; simp [oo, St.obj, look] at hx
    · intro o o' b C1 C2 h1; simp [ρ0] at h1
    · intro o b C1 h1; simp [ρ0] at h1
  obtain ⟨ρf, a, hsl⟩ := init_sat s.ps 0 hS0 (d := d) hargs hnd (fun b hb => ⟨.inr hb, fun o C' h => by simp [ρ0] at h⟩) (nodupB_nodup _ hnm)
    (fun n _ => ⟨by simp [oo, St.obj, look], fun o T fz cs h => by simp [oo, St.obj, look] at h⟩)
  let B : Base := ⟨w, H, bs, ρf.blk, ρf.len⟩
  have hSf : Sat P B ρf (⟨oSl s.ps d 0, oOb s.ps d 0⟩ : St).obj w := by
    have := sat_base (B' := B) a.sat rfl rfl rfl
    rw [List.append_nil] at this
    exact this
  have hR : Rel P B C.n ⟨oSl s.ps d 0, oOb s.ps d 0⟩ { tmps := vals.toArray ++ Array.replicate (fn.ntmps - vals.toArray.size) undef, defers := [] } w := by
    refine ⟨rfl, by simp; omega, ρf, hSf, ?_, fun o p _ hp => ⟨hp, rfl⟩, fun _ _ hb => by rw [a.H]; exact hb⟩
    intro k v hk
    obtain ⟨x, h1, h2⟩ := hsl k v hk
    have hlt := (List.getElem?_eq_some_iff.1 h1).1
    simp only [Nat.sub_zero] at h1 hlt
    have : (vals.toArray ++ Array.replicate (fn.ntmps - vals.toArray.size) undef).getD k undef = x := by
      rw [Array.getD_eq_getD_getElem?, Array.getElem?_append_left (by simpa using hlt)]
      simp [h1]
    rw [this]; exact h2
  refine vcg_sound hC hm A body _ _ _ _ w hv hR (fun e σ a' w' _ hK hR' => ?_)
  have main : (match getRes σ s.rs fn.results.toList, getKept σ s.ps 0 with
    | some (r, o1, f1), some (k, o2, f2) => match nodupB (o1 ++ o2), meets (f1 ++ f2) (o1 ++ o2) with
      | true, false => r = (s.F d).1 ∧ k = (s.F d).2
      | _, _ => False
    | _, _ => False) → a'.defers = [] ∧ ∃ v, (Go.results fn a'.tmps).run P w' = .ok v w' ∧ OPost H w bs s vals d (.returned v) w' := by
    intro hr
    split at hr
    case h_2 => exact hr.elim
    rename_i r o1 f1 k o2 f2 hres hkept
    split at hr
    case h_2 => exact hr.elim
    rename_i hno hme
    obtain ⟨hr1, hr2⟩ := hr
    obtain ⟨h1, h2, ρ', hS', hSl, hPin⟩ := hR'
    obtain ⟨ρ2, hS2, hle, hblk, hln⟩ := freeze_sat (σ := σ) (f1 ++ f2) hS'
    have hd : ∀ k, SV.den P ρ2 (σ.get k) (a'.tmps.getD k undef) := by
      intro k
      have := den_opnd (P := P) (a := a') hSl (.tmp k)
      exact SV.den_mono hle _ _ (fun o ho => by simp at ho) this
    have hkeep : Keeps σ (σ.frz (f1 ++ f2)) (o1 ++ o2) := by
      intro o ho
      rw [obj_frz, if_neg]
      exact fun hm => meets_false _ _ hme o hm ho
    obtain ⟨ss, e1, e2⟩ := getRes_sound hS2 (fz_frz σ _) hd s.rs _ _ _ _ hres (fun o ho => List.mem_append_left _ ho) (fun o ho => hkeep o (List.mem_append_left _ ho))
    have e3 := getKept_sound hS2 (fz_frz σ _) s.ps 0 vals k o2 f2 hkept hlen (fun j sh b v hj hvj => by
      obtain ⟨x, hx⟩ := own_slot s.ps d 0 j sh b hj
      obtain ⟨y, y1, y2⟩ := hsl (0 + j) _ hx
      have : y = v := by
        rw [show 0 + j - 0 = j by omega, hvj] at y1
        simpa using y1.symm
      subst this
      refine den_pin (fun p hp => ?_) y2
      rw [hblk] at hp
      obtain ⟨q1, q2⟩ := hPin.1 (rootN (0 + j)) p (by unfold rootN; omega) hp
      exact ⟨q1, by rw [hln]; exact q2⟩) (fun o ho => List.mem_append_right _ ho) (fun o ho => hkeep o (List.mem_append_right _ ho))
    refine ⟨h1, _, run_results e1 a'.tmps w', ss.map (fun s => a'.tmps.getD s undef), ρ2.H, borOf ρ2 o1, borOf ρ2 o2, rfl, ?_, by rw [← hr1]; exact e2, by rw [← hr2]; exact e3, ?_, ?_⟩
    · exact ⟨hS2.os, hS2.tape, hS2.output, hS2.drawn, hS2.size, fun b hb hbs => hS2.old b hb hbs, fun b hb hbs => hS2.oldH b hb hbs, hS2.good⟩
    · rw [← borOf_append]
      exact borOf_nodup hS2 _ (nodupB_nodup _ hno)
    · rw [← borOf_append]
      intro b hb
      obtain ⟨o, Cp, _, h3⟩ := (mem_borOf _).1 hb
      rcases hS2.own o b Cp h3 with h | h
      · exact .inr h
      · exact .inl h
  cases e with
  | normal => exact main hK
  | ret => exact main hK
  | exit id => exact hK.elim

end
end Go.X
/-
  Calls to which things are handed over: sound.
-/
namespace Go.X
open Go.RowKit (Below)

def rootOf : SV → Option Nat
  | .own o _ => some o
  | .mp o => some o
  | .bp o 0 => some o
  | _ => none

/-- one argument: its data, the objects that are handed over, what is frozen -/
def argOf (C : Ctx) (σ : St) : (p : OPar) → SV → Option (p.Data × List Nat × List Nat)
  | .val t, v => match toDat σ t v with | some (x, f) => some (x, [], f) | none => none
  | .ref t, v => match toRef σ t v with | some (x, f) => some (x, [], f) | none => none
  | .nil, v => match v with | .lit u => (match isNilSlice u with | true => some ((), [], []) | false => none) | _ => none
  | .clo f, v => match v with | .clo g [] => (match Nat.beq g f with | true => some ((), [], []) | false => none) | _ => none
  | .fn ps rs, v => match toFn C σ ps rs v with | some (x, f) => some (x, [], f) | none => none
  | .own s true, v => match notDat s, rootOf v with
    | true, some _ => getSh σ s v
    | _, _ => none
  | .own s false, v => match notDat s with | true => getSh σ s v | false => none

def zipO (C : Ctx) (σ : St) : (ps : List OPar) → List SV → Option (OD ps × List Nat × List Nat)
  | [], [] => some ((), [], [])
  | p :: ps, v :: vs => match argOf C σ p v with
    | some (x, os, f) => match zipO C σ ps vs with
      | some (y, os', f') => some ((x, y), os ++ os', f ++ f')
      | none => none
    | none => none
  | _, _ => none

def rootD (v : SV) : Nat := match rootOf v with | some o => o | none => 0
def kn (dst i j : Nat) : Nat := 1000 * (dst + 1) + 50 * i + j
def rn (dst j : Nat) : Nat := match j with | 0 => dst | _ => 1000 * (dst + 1) + 900 + j
def rnn (dst j i : Nat) : Nat := 1000 * (dst + 1) + 500 + 50 * j + i

def keptOb (dst : Nat) : (ps : List OPar) → List SV → KD ps → Nat → List (Nat × Option Ob)
  | .own s true :: ps, v :: vs, d, i => keptOb dst ps vs d.2 (i + 1) ++ obSh (rootD v) (kn dst i) s d.1
  | .own _ false :: ps, _ :: vs, d, i => keptOb dst ps vs d (i + 1)
  | .val _ :: ps, _ :: vs, d, i => keptOb dst ps vs d (i + 1)
  | .ref _ :: ps, _ :: vs, d, i => keptOb dst ps vs d (i + 1)
  | .nil :: ps, _ :: vs, d, i => keptOb dst ps vs d (i + 1)
  | .clo _ :: ps, _ :: vs, d, i => keptOb dst ps vs d (i + 1)
  | .fn _ _ :: ps, _ :: vs, d, i => keptOb dst ps vs d (i + 1)
  | _, _, _, _ => []

def keptNms (dst : Nat) : List OPar → List SV → Nat → List Nat
  | .own s true :: ps, v :: vs, i => nmsSh (rootD v) (kn dst i) s ++ keptNms dst ps vs (i + 1)
  | .own _ false :: ps, _ :: vs, i => keptNms dst ps vs (i + 1)
  | .val _ :: ps, _ :: vs, i => keptNms dst ps vs (i + 1)
  | .ref _ :: ps, _ :: vs, i => keptNms dst ps vs (i + 1)
  | .nil :: ps, _ :: vs, i => keptNms dst ps vs (i + 1)
  | .clo _ :: ps, _ :: vs, i => keptNms dst ps vs (i + 1)
  | .fn _ _ :: ps, _ :: vs, i => keptNms dst ps vs (i + 1)
  | _, _, _ => []

/-- the names within what is kept -/
def keptNw (dst : Nat) : List OPar → List SV → Nat → List Nat
  | .own (.box _ cs) true :: ps, _ :: vs, i => nmsCls (kn dst i) cs 0 ++ keptNw dst ps vs (i + 1)
  | .own _ _ :: ps, _ :: vs, i => keptNw dst ps vs (i + 1)
  | .val _ :: ps, _ :: vs, i => keptNw dst ps vs (i + 1)
  | .ref _ :: ps, _ :: vs, i => keptNw dst ps vs (i + 1)
  | .nil :: ps, _ :: vs, i => keptNw dst ps vs (i + 1)
  | .clo _ :: ps, _ :: vs, i => keptNw dst ps vs (i + 1)
  | .fn _ _ :: ps, _ :: vs, i => keptNw dst ps vs (i + 1)
  | _, _, _ => []

def resOb (dst : Nat) : (rs : List Sh) → RD rs → Nat → List (Nat × Option Ob)
  | [], _, _ => []
  | s :: rs, d, j => resOb dst rs d.2 (j + 1) ++ obSh (rn dst j) (rnn dst j) s d.1

def resNms (dst : Nat) : List Sh → Nat → List Nat
  | [], _ => []
  | s :: rs, j => nmsSh (rn dst j) (rnn dst j) s ++ resNms dst rs (j + 1)

def resSVs (dst : Nat) : (rs : List Sh) → RD rs → Nat → List SV
  | [], _, _ => []
  | s :: rs, d, j => svSh (rn dst j) s d.1 :: resSVs dst rs d.2 (j + 1)

def oneSV : List SV → SV
  | [v] => v
  | vs => .tup vs

def killsOf : List Nat → List (Nat × Option Ob)
  | [] => []
  | o :: r => (o, none) :: killsOf r

/-- nothing is there under these names, and no box names them -/
def freshAll (σ : St) : List Nat → Bool
  | [] => true
  | n :: r => match σ.obj n, freshOb n σ.ob with
    | none, true => freshAll σ r
    | _, _ => false

def oCall (C : Ctx) (s : OSpec) (dst : Nat) (σ : St) (svs : List SV) : Option Out :=
  match zipO C σ s.ps svs with
  | none => none
  | some (d, os, fz) => match nodupB os, meets fz os, nodupB (resNms dst s.rs 0 ++ keptNms dst s.ps svs 0), freshAll σ (resNms dst s.rs 0 ++ keptNw dst s.ps svs 0) with
    | true, false, true, true => some ⟨s.pre d, [], oneSV (resSVs dst s.rs (s.F d).1 0), fz, keptOb dst s.ps svs (s.F d).2 0 ++ (resOb dst s.rs (s.F d).1 0 ++ killsOf os), resNms dst s.rs 0 ++ keptNw dst s.ps svs 0⟩
    | _, _, _, _ => none

/-- the stateful functions that are known -/
def oEff (C : Ctx) (l : List (Nat × OSpec)) (f dst : Nat) (σ : St) (svs : List SV) : Option Out :=
  match look l f with
  | some s => oCall C s dst σ svs
  | none => none

section
variable {P : Program} {B : Base} {C : Ctx} {σ τ : St} {ρ : Env} {w : World}

theorem argOf_sound (hC : C.ok P) (hS : Sat P B ρ τ.obj w) {fz : List Nat} (hF : Frz σ τ fz) {p : OPar} {sv : SV} {x : p.Data} {os f : List Nat} (h : argOf C σ p sv = some (x, os, f)) (hf : ∀ o, o ∈ f → o ∈ fz) (hk : Keeps σ τ os)
    {v : Value} (hv : SV.den P ρ sv v) : OArg P ρ.H w p v x (borOf ρ os) := by
  cases p with
  | val t =>
    simp only [argOf] at h
    split at h
    · rename_i y f' hd
      simp at h
      obtain ⟨rfl, rfl, rfl⟩ := h
      exact ⟨toDat_sound hS hF hd hf hv, rfl⟩
    · cases h
  | ref t =>
    simp only [argOf] at h
    split at h
    · rename_i y f' hd
      simp at h
      obtain ⟨rfl, rfl, rfl⟩ := h
      exact ⟨toRef_sound hS hF hd hf hv, rfl⟩
    · cases h
  | nil =>
    simp only [argOf] at h
    split at h
    case h_2 => cases h
    split at h
    case h_2 => cases h
    rename_i hn
    simp at h
    obtain ⟨rfl, rfl⟩ := h
    simp only [SV.den] at hv
    exact ⟨by rw [hv, nilSlice hn], rfl⟩
  | clo f =>
    simp only [argOf] at h
    split at h
    case h_2 => cases h
    split at h
    case h_2 => cases h
    rename_i hg
    simp at h
    obtain ⟨rfl, rfl⟩ := h
    simp only [SV.den, SV.denL] at hv
    obtain ⟨vs, rfl, hvs⟩ := hv
    have hvs : vs = #[] := Array.toList_inj.1 (by simpa using hvs)
    have := Nat.eq_of_beq_eq_true hg
    subst this
    subst hvs
    exact ⟨rfl, rfl⟩
  | fn ps rs =>
    simp only [argOf] at h
    split at h
    · rename_i y f' hd
      simp at h
      obtain ⟨rfl, rfl, rfl⟩ := h
      exact ⟨toFn_sound hC hS hF hd hf hv, rfl⟩
    · cases h
  | own s b =>
    cases b with
    | true =>
      simp only [argOf] at h
      split at h
      · exact getSh_sound hS hF h hf hk hv
      · cases h
    | false =>
      simp only [argOf] at h
      split at h
      · exact getSh_sound hS hF h hf hk hv
      · cases h

theorem zipO_sound (hC : C.ok P) (hS : Sat P B ρ τ.obj w) {fz : List Nat} (hF : Frz σ τ fz) : ∀ {ps : List OPar} {svs : List SV} {d : OD ps} {os f : List Nat}, zipO C σ ps svs = some (d, os, f) → (∀ o, o ∈ f → o ∈ fz) → Keeps σ τ os →
    ∀ {vs : List Value}, SV.denL P ρ svs vs → OArgs P ρ.H w ps vs d (borOf ρ os)
  | [], [], d, os, f, h, _, _, vs, hv => by
    simp [zipO] at h
    obtain ⟨rfl, rfl⟩ := h
    simp [SV.denL] at hv
    exact ⟨hv, rfl⟩
  | [], _ :: _, d, os, f, h, _, _, vs, hv => by simp [zipO] at h
  | _ :: _, [], d, os, f, h, _, _, vs, hv => by simp [zipO] at h
  | p :: ps, sv :: svs, d, os, f, h, hf, hk, vs, hv => by
    simp only [zipO] at h
    split at h
    case h_2 => cases h
    rename_i x o1 f1 hx
    split at h
    case h_2 => cases h
    rename_i y o2 f2 hy
    simp at h
    obtain ⟨rfl, rfl, rfl⟩ := h
    simp only [SV.denL] at hv
    obtain ⟨v, r, rfl, v1, v2⟩ := hv
    exact ⟨borOf ρ o1, borOf ρ o2, borOf_append ρ o1 o2, argOf_sound hC hS hF hx (fun o ho => hf o (List.mem_append_left _ ho)) (fun o ho => hk o (List.mem_append_left _ ho)) v1,
      zipO_sound hC hS hF hy (fun o ho => hf o (List.mem_append_right _ ho)) (fun o ho => hk o (List.mem_append_right _ ho)) v2⟩

/-! What is handed over is not frozen -/

theorem clV_H {H : Imm} {c : Cl} {v : Value} {x : c.D} {bs : List Nat} (h : ClV H w c v x bs) : ∀ b, b ∈ bs → H b = none := by
  intro b hb
  cases c with
  | dat t => obtain ⟨_, rfl⟩ := h; simp at hb
  | row E t nl =>
    rcases h.2 with ⟨_, _, _, rfl⟩ | ⟨b', _, _, _, rfl, hH, _⟩
    · simp at hb
    · simp at hb; subst hb; exact hH
  | map kt vt => obtain ⟨b', _, _, _, rfl, hH, _⟩ := h; simp at hb; subst hb; exact hH

theorem clVs_H {H : Imm} : ∀ (cs : List Cl) (vs : List Value) (x : Cl.Ds cs) (bs : List Nat), ClVs H w cs vs x bs → ∀ b, b ∈ bs → H b = none
  | [], vs, x, bs, h, b, hb => by obtain ⟨_, rfl⟩ := h; simp at hb
  | c :: cs, [], x, bs, h, b, hb => h.elim
  | c :: cs, v :: vs, x, bs, h, b, hb => by
    obtain ⟨b1, b2, rfl, h1, _, h2⟩ := h
    rcases List.mem_append.1 hb with hb | hb
    · exact clV_H h1 b hb
    · exact clVs_H cs vs x.2 b2 h2 b hb

theorem shV_H {H : Imm} {s : Sh} {v : Value} {x : s.D} {bs : List Nat} (h : ShV H w s v x bs) : ∀ b, b ∈ bs → H b = none := by
  intro b hb
  cases s with
  | cl c => exact clV_H h b hb
  | box T cs =>
    obtain ⟨b', vs, bs', _, rfl, hH, _, hcs⟩ := h
    rcases List.mem_cons.1 hb with rfl | hb
    · exact hH
    · exact clVs_H cs _ x bs' hcs b hb

theorem oArgs_H {H : Imm} : ∀ (ps : List OPar) (vs : List Value) (d : OD ps) (bs : List Nat), OArgs P H w ps vs d bs → ∀ b, b ∈ bs → H b = none
  | [], vs, d, bs, h, b, hb => by obtain ⟨_, rfl⟩ := h; simp at hb
  | p :: ps, [], d, bs, h, b, hb => h.elim
  | p :: ps, v :: vs, d, bs, h, b, hb => by
    obtain ⟨b1, b2, rfl, h1, h2⟩ := h
    rcases List.mem_append.1 hb with hb | hb
    · cases p with
      | val t => obtain ⟨_, rfl⟩ := h1; simp at hb
      | ref t => obtain ⟨_, rfl⟩ := h1; simp at hb
      | nil => obtain ⟨_, rfl⟩ := h1; simp at hb
      | clo _ => obtain ⟨_, rfl⟩ := h1; simp at hb
      | fn qs rs => obtain ⟨_, rfl⟩ := h1; simp at hb
      | own s k => exact shV_H h1 b hb
    · exact oArgs_H ps vs d.2 b2 h2 b hb

/-! The roots of what is kept lie where they lay -/

def KRoots (ρ : Env) : List OPar → List SV → List Value → Prop
  | .own s true :: ps, sv :: svs, v :: vs => (∃ Cp lp, ρ.blk (rootD sv) = some (pOfSh Cp s v) ∧ ρ.len (rootD sv) = lOfSh lp s v) ∧ KRoots ρ ps svs vs
  | .own _ false :: ps, _ :: svs, _ :: vs => KRoots ρ ps svs vs
  | .val _ :: ps, _ :: svs, _ :: vs => KRoots ρ ps svs vs
  | .ref _ :: ps, _ :: svs, _ :: vs => KRoots ρ ps svs vs
  | .nil :: ps, _ :: svs, _ :: vs => KRoots ρ ps svs vs
  | .clo _ :: ps, _ :: svs, _ :: vs => KRoots ρ ps svs vs
  | .fn _ _ :: ps, _ :: svs, _ :: vs => KRoots ρ ps svs vs
  | _, _, _ => True

theorem root_at (hS : Sat P B ρ τ.obj w) {s : Sh} {sv : SV} {x : s.D} {os f : List Nat} (h : getSh σ s sv = some (x, os, f)) (hn : notDat s = true) {r : Nat} (hr : rootOf sv = some r) (hk : Keeps σ τ os) {v : Value} (hv : SV.den P ρ sv v) :
    r ∈ os ∧ ∃ Cp lp, ρ.blk r = some (pOfSh Cp s v) ∧ ρ.len r = lOfSh lp s v := by
  unfold getSh at h
  split at h
  · rename_i c
    unfold getCl at h
    split at h
    · cases hn
    · rename_i E t nl o u
      simp [rootOf] at hr
      subst hr
      split at h
      case h_2 => cases h
      rename_i E' t' nl' l ho
      split at h
      case h_2 => cases h
      simp at h
      obtain ⟨_, rfl, _⟩ := h
      have ho' := hk o (by simp)
      rw [ho] at ho'
      obtain ⟨p, hp, _⟩ := hS.obs o _ ho'
      simp only [SV.den] at hv
      have hv := hv p hp
      refine ⟨by simp, 0, 0, ?_⟩
      cases p with
      | none => obtain ⟨v1, v2⟩ := hv; subst v1; exact ⟨hp, v2⟩
      | some q => obtain ⟨v1, _⟩ := hv; subst v1; exact ⟨hp, rfl⟩
    · rename_i E t nl o u n; simp [rootOf] at hr
    · rename_i E t nl u; simp [rootOf] at hr
    · rename_i kt vt o
      simp [rootOf] at hr
      subst hr
      split at h
      case h_2 => cases h
      rename_i kt' vt' l ho
      split at h
      case h_2 => cases h
      simp at h
      obtain ⟨_, rfl, _⟩ := h
      have ho' := hk o (by simp)
      rw [ho] at ho'
      obtain ⟨p, hp, hs⟩ := hS.obs o _ ho'
      simp only [SV.den] at hv
      obtain ⟨b, Cp, rfl, rfl⟩ := hv p hp
      exact ⟨by simp, Cp, ρ.len o, hp, rfl⟩
    · cases h
  · rename_i T cs o
    simp [rootOf] at hr
    subst hr
    split at h
    case h_2 => cases h
    rename_i T' vs ho
    split at h
    case h_2 => cases h
    simp at h
    obtain ⟨_, rfl, _⟩ := h
    have ho' := hk o (by simp)
    rw [ho] at ho'
    obtain ⟨p, hp, hs⟩ := hS.obs o _ ho'
    simp only [SV.den] at hv
    obtain ⟨b, Cp, rfl, rfl⟩ := hv p hp
    exact ⟨by simp, Cp, ρ.len o, hp, rfl⟩
  · cases h

theorem zipO_roots (hS : Sat P B ρ τ.obj w) : ∀ {ps : List OPar} {svs : List SV} {d : OD ps} {os f : List Nat}, zipO C σ ps svs = some (d, os, f) → Keeps σ τ os →
    ∀ {vs : List Value}, SV.denL P ρ svs vs → KRoots ρ ps svs vs ∧ ∀ dst i n, n ∈ keptNms dst ps svs i → n ∈ os ∨ n ∈ keptNw dst ps svs i
  | [], [], d, os, f, h, _, vs, hv => ⟨trivial, fun dst i n hn => by simp [keptNms] at hn⟩
  | [], _ :: _, d, os, f, h, _, vs, hv => by simp [zipO] at h
  | _ :: _, [], d, os, f, h, _, vs, hv => by simp [zipO] at h
  | p :: ps, sv :: svs, d, os, f, h, hk, vs, hv => by
    simp only [zipO] at h
    split at h
    case h_2 => cases h
    rename_i x o1 f1 hx
    split at h
    case h_2 => cases h
    rename_i y o2 f2 hy
    simp at h
    obtain ⟨rfl, rfl, rfl⟩ := h
    simp only [SV.denL] at hv
    obtain ⟨v, r, rfl, v1, v2⟩ := hv
    obtain ⟨i1, i2⟩ := zipO_roots hS hy (fun o ho => hk o (List.mem_append_right _ ho)) v2
    have skip : ∀ dst i n, n ∈ keptNms dst ps svs (i + 1) → n ∈ o1 ++ o2 ∨ n ∈ keptNw dst ps svs (i + 1) := fun dst i n hn => by
      rcases i2 dst (i + 1) n hn with h | h
      · exact .inl (List.mem_append_right _ h)
      · exact .inr h
    cases p with
    | val t => exact ⟨i1, fun dst i n hn => skip dst i n hn⟩
    | ref t => exact ⟨i1, fun dst i n hn => skip dst i n hn⟩
    | nil => exact ⟨i1, fun dst i n hn => skip dst i n hn⟩
    | clo _ => exact ⟨i1, fun dst i n hn => skip dst i n hn⟩
    | fn qs rs => exact ⟨i1, fun dst i n hn => skip dst i n hn⟩
    | own s b =>
      cases b with
      | false => exact ⟨i1, fun dst i n hn => by
          have := skip dst i n hn
          cases s <;> exact this⟩
      | true =>
        simp only [argOf] at hx
        split at hx
        case h_2 => cases hx
        rename_i rt hnd hrt
        obtain ⟨r1, r2⟩ := root_at hS hx hnd hrt (fun o ho => hk o (List.mem_append_left _ ho)) v1
        have hrd : rootD sv = rt := by unfold rootD; rw [hrt]
        refine ⟨⟨by rw [hrd]; exact r2, i1⟩, fun dst i n hn => ?_⟩
        simp only [keptNms, List.mem_append] at hn
        rcases hn with hn | hn
        · cases s with
          | cl c =>
            have : n = rt := by
              cases c with
              | dat t => cases hnd
              | row E t nl => simpa [nmsSh, nmsCl, hrd] using hn
              | map kt vt => simpa [nmsSh, nmsCl, hrd] using hn
            subst this
            exact .inl (List.mem_append_left _ r1)
          | box T cs =>
            simp only [nmsSh, List.mem_cons] at hn
            rcases hn with hn | hn
            · rw [hrd] at hn; subst hn; exact .inl (List.mem_append_left _ r1)
            · exact .inr (by simp only [keptNw]; exact List.mem_append_left _ hn)
        · rcases skip dst i n hn with h | h
          · exact .inl h
          · refine .inr ?_
            cases s with
            | cl c => exact h
            | box T cs => simp only [keptNw]; exact List.mem_append_right _ h

/-! Behind the call: the results and what is kept, in a state of their own -/

theorem adoptRes (dst : Nat) : ∀ (rs : List Sh) (j : Nat) {ob : List (Nat × Option Ob)} {ρ : Env} (_ : Sat P B ρ (oo ob) w) {vs : List Value} {d : RD rs} {bs : List Nat} (_ : ORes ρ.H w rs vs d bs) (_ : bs.Nodup) (_ : ∀ b, b ∈ bs → OkB B ρ b)
    (_ : (resNms dst rs j).Nodup) (_ : ∀ n, n ∈ resNms dst rs j → oo ob n = none ∧ NoRef (oo ob) n),
    ∃ ρ', Adopted P B ρ w ob (resOb dst rs d j) (resNms dst rs j) bs ρ' ∧ SV.denL P ρ' (resSVs dst rs d j) vs
  | [], j, ob, ρ, hS, vs, d, bs, hv, _, _, _, _ => by
    obtain ⟨rfl, rfl⟩ := hv
    exact ⟨ρ, ⟨hS, Env.le.refl _ _, rfl, fun _ _ => ⟨rfl, rfl⟩, fun _ _ _ h => .inl h⟩, by simp [resSVs, SV.denL]⟩
  | s :: rs, j, ob, ρ, hS, [], d, bs, hv, _, _, _, _ => hv.elim
  | s :: rs, j, ob, ρ, hS, v :: vs, d, bs, hv, hnd, hb, hnn, hk => by
    obtain ⟨b1, b2, rfl, v1, v2⟩ := hv
    simp only [resNms] at hnn hk
    rw [List.nodup_append] at hnn hnd
    obtain ⟨n1, n2, n3⟩ := hnn
    obtain ⟨d1, d2, d3⟩ := hnd
    obtain ⟨ρ1, a1, e1, _⟩ := adoptSh hS (s := s) (k := rn dst j) (nm := rnn dst j) v1 d1 (fun b hb' => hb b (List.mem_append_left _ hb')) n1 (fun n hn => hk n (List.mem_append_left _ hn)) 0 0
    obtain ⟨ρ2, a2, e2⟩ := adoptRes dst rs (j + 1) a1.sat (vs := vs) (d := d.2) (bs := b2) (by rw [a1.H]; exact v2) d2 (fun b hb' => ⟨(hb b (List.mem_append_right _ hb')).1, fun o C' h => by
        rcases a1.blk o b C' h with h | h
        · exact (hb b (List.mem_append_right _ hb')).2 o C' h
        · exact d3 b h b hb' rfl⟩) n2 (fun n hn => by
        obtain ⟨k1, k2⟩ := hk n (List.mem_append_right _ hn)
        have hnn : n ∉ nmsSh (rn dst j) (rnn dst j) s := fun h => n3 n h n hn rfl
        exact ⟨by rw [oo_app_none (by rw [keys_obSh]; exact hnn)]; exact k1, noRef_sh hnn k2⟩)
    refine ⟨ρ2, ⟨by simp only [resOb, List.append_assoc]; exact a2.sat, ?_, a2.H.trans a1.H, fun o ho => ?_, fun o b C' h => ?_⟩, ?_⟩
    · exact (a1.le.weaken (fun o ho => List.mem_append_left _ ho)).trans (a2.le.weaken (fun o ho => List.mem_append_right _ ho))
    · simp only [resNms, List.mem_append, not_or] at ho
      obtain ⟨s1, s2⟩ := a1.same o ho.1
      obtain ⟨s3, s4⟩ := a2.same o ho.2
      exact ⟨s3.trans s1, s4.trans s2⟩
    · rcases a2.blk o b C' h with h | h
      · rcases a1.blk o b C' h with h | h
        · exact .inl h
        · exact .inr (List.mem_append_left _ h)
      · exact .inr (List.mem_append_right _ h)
    · simp only [resSVs, SV.denL]
      refine ⟨v, vs, rfl, SV.den_mono a2.le _ _ (fun o ho => ?_) e1, e2⟩
      exact svSh_refs (fun h => n3 o h o ho rfl)
where
  svSh_refs {o k : Nat} {nm : Nat → Nat} {s : Sh} {x : s.D} (h : o ∉ nmsSh k nm s) : (svSh k s x).refs o = false := by
    cases s with
    | cl c =>
      cases c with
      | dat t => rfl
      | row E t nl =>
        have hne : o ≠ k := fun e => h (by simp [nmsSh, nmsCl, e])
        simp only [svSh, svCl, SV.refs]
        cases hb' : Nat.beq o k with
        | false => rfl
        | true => exact absurd (Nat.eq_of_beq_eq_true hb') hne
      | map kt vt =>
        have hne : o ≠ k := fun e => h (by simp [nmsSh, nmsCl, e])
        simp only [svSh, svCl, SV.refs]
        cases hb' : Nat.beq o k with
        | false => rfl
        | true => exact absurd (Nat.eq_of_beq_eq_true hb') hne
    | box T cs =>
      have hne : o ≠ k := fun e => h (by simp [nmsSh, e])
      simp only [svSh, SV.refs]
      cases hb' : Nat.beq o k with
      | false => rfl
      | true => exact absurd (Nat.eq_of_beq_eq_true hb') hne

theorem adoptKept {ρ1 : Env} (dst : Nat) : ∀ (ps : List OPar) (i : Nat) {ob : List (Nat × Option Ob)} {ρ : Env} (_ : Sat P B ρ (oo ob) w) {svs : List SV} {vs : List Value} {d : KD ps} {bs : List Nat} (_ : svs.length = vs.length) (_ : OKept ρ.H w ps vs d bs) (_ : bs.Nodup)
    (_ : ∀ b, b ∈ bs → OkB B ρ b) (_ : (keptNms dst ps svs i).Nodup) (_ : ∀ n, n ∈ keptNms dst ps svs i → oo ob n = none ∧ NoRef (oo ob) n) (_ : KRoots ρ1 ps svs vs),
    ∃ ρ', Adopted P B ρ w ob (keptOb dst ps svs d i) (keptNms dst ps svs i) bs ρ' ∧ ∀ n, n ∈ keptNms dst ps svs i → n ∈ keptNw dst ps svs i ∨ (ρ'.blk n = ρ1.blk n ∧ ρ'.len n = ρ1.len n)
  | [], i, ob, ρ, hS, svs, vs, d, bs, _, hv, _, _, _, _, _ => by
    have : bs = [] := hv
    subst this
    have e1 : keptOb dst [] svs d i = [] := rfl
    have e2 : keptNms dst [] svs i = [] := rfl
    rw [e1, e2]
    exact ⟨ρ, ⟨hS, Env.le.refl _ _, rfl, fun _ _ => ⟨rfl, rfl⟩, fun _ _ _ h => .inl h⟩, fun n hn => by simp at hn⟩
  | p :: ps, i, ob, ρ, hS, [], [], d, bs, _, hv, _, _, _, _, _ => by
    cases p with
    | own s b => cases b <;> exact hv.elim
    | _ => exact hv.elim
  | p :: ps, i, ob, ρ, hS, [], v :: vs, d, bs, hl, _, _, _, _, _, _ => by simp at hl
  | p :: ps, i, ob, ρ, hS, sv :: svs, [], d, bs, hl, _, _, _, _, _, _ => by simp at hl
  | p :: ps, i, ob, ρ, hS, sv :: svs, v :: vs, d, bs, hl, hv, hnd, hb, hnn, hk, hr => by
    have hl' : svs.length = vs.length := by simpa using hl
    cases p with
    | val t => exact adoptKept dst ps (i + 1) hS hl' hv hnd hb hnn hk hr
    | ref t => exact adoptKept dst ps (i + 1) hS hl' hv hnd hb hnn hk hr
    | nil => exact adoptKept dst ps (i + 1) hS hl' hv hnd hb hnn hk hr
    | clo _ => exact adoptKept dst ps (i + 1) hS hl' hv hnd hb hnn hk hr
    | fn qs rs => exact adoptKept dst ps (i + 1) hS hl' hv hnd hb hnn hk hr
    | own s b =>
      cases b with
      | false =>
        obtain ⟨ρ', a, h⟩ := adoptKept dst ps (i + 1) hS hl' hv hnd hb hnn hk hr
        exact ⟨ρ', a, fun n hn => by
          have := h n hn
          cases s <;> exact this⟩
      | true =>
        obtain ⟨b1, b2, rfl, v1, v2⟩ := hv
        obtain ⟨⟨Cp, lp, r1, r2⟩, r3⟩ := hr
        simp only [keptNms] at hnn hk
        rw [List.nodup_append] at hnn hnd
        obtain ⟨n1, n2, n3⟩ := hnn
        obtain ⟨d1, d2, d3⟩ := hnd
        obtain ⟨ρ2, a1, _, e1⟩ := adoptSh hS (s := s) (k := rootD sv) (nm := kn dst i) v1 d1 (fun b hb' => hb b (List.mem_append_left _ hb')) n1 (fun n hn => hk n (List.mem_append_left _ hn)) Cp lp
        obtain ⟨ρ3, a2, e2⟩ := adoptKept (ρ1 := ρ1) dst ps (i + 1) a1.sat (svs := svs) (vs := vs) (d := d.2) (bs := b2) hl' (by rw [a1.H]; exact v2) d2 (fun b hb' => ⟨(hb b (List.mem_append_right _ hb')).1, fun o C' h => by
            rcases a1.blk o b C' h with h | h
            · exact (hb b (List.mem_append_right _ hb')).2 o C' h
            · exact d3 b h b hb' rfl⟩) n2 (fun n hn => by
            obtain ⟨k1, k2⟩ := hk n (List.mem_append_right _ hn)
            have hnn : n ∉ nmsSh (rootD sv) (kn dst i) s := fun h => n3 n h n hn rfl
            exact ⟨by rw [oo_app_none (by rw [keys_obSh]; exact hnn)]; exact k1, noRef_sh hnn k2⟩) r3
        refine ⟨ρ3, ⟨by simp only [keptOb, List.append_assoc]; exact a2.sat, ?_, a2.H.trans a1.H, fun o ho => ?_, fun o b C' h => ?_⟩, fun n hn => ?_⟩
        · exact (a1.le.weaken (fun o ho => List.mem_append_left _ ho)).trans (a2.le.weaken (fun o ho => List.mem_append_right _ ho))
        · simp only [keptNms, List.mem_append, not_or] at ho
          obtain ⟨s1, s2⟩ := a1.same o ho.1
          obtain ⟨s3, s4⟩ := a2.same o ho.2
          exact ⟨s3.trans s1, s4.trans s2⟩
        · rcases a2.blk o b C' h with h | h
          · rcases a1.blk o b C' h with h | h
            · exact .inl h
            · exact .inr (List.mem_append_left _ h)
          · exact .inr (List.mem_append_right _ h)
        · simp only [keptNms, List.mem_append] at hn
          rcases hn with hn | hn
          · by_cases hroot : n = rootD sv
            · subst hroot
              obtain ⟨q1, q2⟩ := e1 hn
              obtain ⟨q3, q4⟩ := a2.same (rootD sv) (fun h => n3 _ hn _ h rfl)
              exact .inr ⟨by rw [q3, q1, r1], by rw [q4, q2, r2]⟩
            · cases s with
              | cl c =>
                cases c with
                | dat t => simp [nmsSh, nmsCl] at hn
                | row E t nl => exact absurd (by simpa [nmsSh, nmsCl] using hn) hroot
                | map kt vt => exact absurd (by simpa [nmsSh, nmsCl] using hn) hroot
              | box T cs =>
                simp only [nmsSh, List.mem_cons] at hn
                rcases hn with hn | hn
                · exact absurd hn hroot
                · exact .inl (by simp only [keptNw]; exact List.mem_append_left _ hn)
          · rcases e2 n hn with h | h
            · refine .inl ?_
              cases s with
              | cl c => exact h
              | box T cs => simp only [keptNw]; exact List.mem_append_right _ h
            · exact .inr h

end
end Go.X
/-
  Calls to which things are handed over: sound (the whole).
-/
namespace Go.X
open Go.RowKit (Below)

section
variable {P : Program} {B : Base} {C : Ctx} {σ τ : St} {ρ : Env} {w : World}

theorem keys_keptOb (dst : Nat) : ∀ (ps : List OPar) (svs : List SV) (d : KD ps) (i n : Nat), n ∈ keys (keptOb dst ps svs d i) ↔ n ∈ keptNms dst ps svs i
  | [], svs, d, i, n => by
    have e1 : keptOb dst [] svs d i = [] := rfl
    have e2 : keptNms dst [] svs i = [] := rfl
    rw [e1, e2]; simp [keys]
  | p :: ps, [], d, i, n => by
    cases p with
    | own s b => cases b <;> simp [keptOb, keptNms, keys]
    | _ => simp [keptOb, keptNms, keys]
  | p :: ps, sv :: svs, d, i, n => by
    cases p with
    | val t => exact keys_keptOb dst ps svs d (i + 1) n
    | ref t => exact keys_keptOb dst ps svs d (i + 1) n
    | nil => exact keys_keptOb dst ps svs d (i + 1) n
    | clo _ => exact keys_keptOb dst ps svs d (i + 1) n
    | fn qs rs => exact keys_keptOb dst ps svs d (i + 1) n
    | own s b =>
      cases b with
      | false => exact keys_keptOb dst ps svs d (i + 1) n
      | true =>
        simp only [keptOb, keptNms, keys_app, List.mem_append, keys_obSh, keys_keptOb dst ps svs d.2 (i + 1) n]
        exact or_comm

theorem keys_resOb (dst : Nat) : ∀ (rs : List Sh) (d : RD rs) (j n : Nat), n ∈ keys (resOb dst rs d j) ↔ n ∈ resNms dst rs j
  | [], d, j, n => by simp [resOb, resNms, keys]
  | s :: rs, d, j, n => by
    simp only [resOb, resNms, keys_app, List.mem_append, keys_obSh, keys_resOb dst rs d.2 (j + 1) n]
    exact or_comm

theorem keptNw_sub (dst : Nat) : ∀ (ps : List OPar) (svs : List SV) (i n : Nat), n ∈ keptNw dst ps svs i → n ∈ keptNms dst ps svs i
  | [], svs, i, n, h => by
    have e1 : keptNw dst [] svs i = [] := rfl
    rw [e1] at h; simp at h
  | p :: ps, [], i, n, h => by
    cases p with
    | own s b => cases s <;> cases b <;> simp [keptNw] at h
    | _ => simp [keptNw] at h
  | p :: ps, sv :: svs, i, n, h => by
    cases p with
    | val t => exact keptNw_sub dst ps svs (i + 1) n h
    | ref t => exact keptNw_sub dst ps svs (i + 1) n h
    | nil => exact keptNw_sub dst ps svs (i + 1) n h
    | clo _ => exact keptNw_sub dst ps svs (i + 1) n h
    | fn qs rs => exact keptNw_sub dst ps svs (i + 1) n h
    | own s b =>
      cases b with
      | false => cases s <;> exact keptNw_sub dst ps svs (i + 1) n h
      | true =>
        simp only [keptNms, List.mem_append]
        cases s with
        | cl c => exact .inr (keptNw_sub dst ps svs (i + 1) n h)
        | box T cs =>
          simp only [keptNw, List.mem_append] at h
          rcases h with h | h
          · exact .inl (by simp [nmsSh, h])
          · exact .inr (keptNw_sub dst ps svs (i + 1) n h)

/-- what new boxes name is new -/
theorem box_sh {k : Nat} {nm : Nat → Nat} {s : Sh} {x : s.D} {o T : Nat} {fz : Bool} {cs : List SV} (h : (o, some (.box T fz cs)) ∈ obSh k nm s x) {r : Nat} (hr : SV.refs.refsL r cs = true) :
    ∃ T' cl, s = .box T' cl ∧ r ∈ nmsCls nm cl 0 := by
  cases s with
  | cl c => exact absurd h (noBox_obCl k c x o T fz cs)
  | box T' cl =>
    simp only [obSh, List.mem_cons] at h
    rcases h with h | h
    · simp at h
      obtain ⟨_, _, _, rfl⟩ := h
      refine ⟨T', cl, rfl, Classical.byContradiction fun hn => ?_⟩
      rw [svCls_refs cl x 0 hn] at hr; cases hr
    · exact absurd h (noBox_obCls nm cl x 0 o T fz cs)

theorem box_res (dst : Nat) : ∀ (rs : List Sh) (d : RD rs) (j : Nat) {o T : Nat} {fz : Bool} {cs : List SV}, (o, some (.box T fz cs)) ∈ resOb dst rs d j → ∀ r, SV.refs.refsL r cs = true → r ∈ resNms dst rs j
  | [], d, j, o, T, fz, cs, h, r, hr => by simp [resOb] at h
  | s :: rs, d, j, o, T, fz, cs, h, r, hr => by
    simp only [resOb, List.mem_append] at h
    simp only [resNms, List.mem_append]
    rcases h with h | h
    · exact .inr (box_res dst rs d.2 (j + 1) h r hr)
    · obtain ⟨T', cl, rfl, hm⟩ := box_sh h hr
      exact .inl (by simp [nmsSh, hm])

theorem box_kept (dst : Nat) : ∀ (ps : List OPar) (svs : List SV) (d : KD ps) (i : Nat) {o T : Nat} {fz : Bool} {cs : List SV}, (o, some (.box T fz cs)) ∈ keptOb dst ps svs d i → ∀ r, SV.refs.refsL r cs = true → r ∈ keptNw dst ps svs i
  | [], svs, d, i, o, T, fz, cs, h, r, hr => by
    have e1 : keptOb dst [] svs d i = [] := rfl
    rw [e1] at h; simp at h
  | p :: ps, [], d, i, o, T, fz, cs, h, r, hr => by
    cases p with
    | own s b => cases b <;> simp [keptOb] at h
    | _ => simp [keptOb] at h
  | p :: ps, sv :: svs, d, i, o, T, fz, cs, h, r, hr => by
    cases p with
    | val t => exact box_kept dst ps svs d (i + 1) h r hr
    | ref t => exact box_kept dst ps svs d (i + 1) h r hr
    | nil => exact box_kept dst ps svs d (i + 1) h r hr
    | clo _ => exact box_kept dst ps svs d (i + 1) h r hr
    | fn qs rs => exact box_kept dst ps svs d (i + 1) h r hr
    | own s b =>
      cases b with
      | false => cases s <;> exact box_kept dst ps svs d (i + 1) h r hr
      | true =>
        simp only [keptOb, List.mem_append] at h
        rcases h with h | h
        · have := box_kept dst ps svs d.2 (i + 1) h r hr
          cases s with
          | cl c => exact this
          | box T' cl => simp only [keptNw]; exact List.mem_append_right _ this
        · obtain ⟨T', cl, e, hm⟩ := box_sh h hr
          subst e
          simp only [keptNw]; exact List.mem_append_left _ hm

theorem freshAll_spec : ∀ (l : List Nat), freshAll σ l = true → ∀ n, n ∈ l → σ.obj n = none ∧ freshOb n σ.ob = true
  | [], _, n, h => by simp at h
  | m :: r, h, n, hm => by
    simp only [freshAll] at h
    split at h
    · rename_i h1 h2
      rcases List.mem_cons.1 hm with rfl | hm
      · exact ⟨h1, h2⟩
      · exact freshAll_spec r h n hm
    · cases h

theorem look_kills : ∀ (os : List Nat) (o : Nat), look (killsOf os) o = if o ∈ os then some none else none
  | [], o => by simp [killsOf, look]
  | k :: r, o => by
    simp only [killsOf, look]
    cases hb : Nat.beq k o with
    | true => have := Nat.eq_of_beq_eq_true hb; subst this; simp
    | false =>
      have hne := beq_of_refs hb
      rw [look_kills r o]
      simp [List.mem_cons, Ne.symm hne]

theorem denL_one {vs : List Value} : ∀ {svs : List SV}, SV.denL P ρ svs vs → SV.den P ρ (oneSV svs) (oneV vs) := by
  intro svs h
  cases svs with
  | nil =>
    simp only [SV.denL] at h
    subst h
    simp only [oneSV, oneV, SV.den]
    exact ⟨_, rfl, by simp [SV.denL]⟩
  | cons a r =>
    have h' := h
    simp only [SV.denL] at h
    obtain ⟨v, us, rfl, h1, h2⟩ := h
    cases r with
    | nil =>
      simp only [SV.denL] at h2
      subst h2
      exact h1
    | cons b r =>
      have h2' := h2
      simp only [SV.denL] at h2
      obtain ⟨u, us', rfl, _, _⟩ := h2
      simp only [oneSV, oneV, SV.den]
      exact ⟨_, rfl, by simpa using h'⟩

theorem refs_res (dst : Nat) : ∀ (rs : List Sh) (d : RD rs) (j r : Nat), SV.refs.refsL r (resSVs dst rs d j) = true → r ∈ resNms dst rs j
  | [], d, j, r, h => by simp [resSVs, SV.refs.refsL] at h
  | s :: rs, d, j, r, h => by
    simp only [resSVs, SV.refs.refsL] at h
    simp only [resNms, List.mem_append]
    split at h
    · rename_i h1
      refine .inl (Classical.byContradiction fun hn => ?_)
      rw [adoptRes.svSh_refs hn] at h1; cases h1
    · exact .inr (refs_res dst rs d.2 (j + 1) r h)

theorem refs_one {r : Nat} : ∀ {svs : List SV}, (oneSV svs).refs r = true → SV.refs.refsL r svs = true := by
  intro svs h
  cases svs with
  | nil => simpa [oneSV, SV.refs] using h
  | cons a l =>
    cases l with
    | nil => simp only [oneSV] at h; simp [SV.refs.refsL, h]
    | cons b l => simpa [oneSV, SV.refs] using h

theorem oKept_len {H : Imm} : ∀ (ps : List OPar) (vs : List Value) (d : KD ps) (bs : List Nat), OKept H w ps vs d bs → True := fun _ _ _ _ _ => trivial

/-- a call with things handed over: how it begins, and what its end leaves -/
theorem oCall_split (hC : C.ok P) {dst : Nat} {ps : List OPar} {rs : List Sh} {pre : OD ps → List Prop} {svs : List SV} {d : OD ps} {os fz : List Nat} (hz : zipO C σ ps svs = some (d, os, fz)) (hno : nodupB os = true) (hme : meets fz os = false)
    {vals : List Value} (hS : Sat P B ρ σ.obj w) (hd : SV.denL P ρ svs vals) :
    ∃ ρ1, ρ.le ρ1 [] ∧ Sat P B ρ1 (σ.frz fz).obj w ∧ ρ1.blk = ρ.blk ∧ OArgs P ρ1.H w ps vals d (borOf ρ1 os) ∧ (borOf ρ1 os).Nodup ∧
      ∀ (F : OD ps → RD rs × KD ps) (out : Out), oCall C ⟨ps, rs, pre, F⟩ dst σ svs = some out → ∀ e w', OPost ρ1.H w (borOf ρ1 os) ⟨ps, rs, pre, F⟩ vals d e w' → ∃ v, e = .returned v ∧ Leaves P B ρ σ out v w' := by
  obtain ⟨ρ1, hS1, hle1, hb1, hn1⟩ := freeze_sat (σ := σ) fz hS
  have hkeep : Keeps σ (σ.frz fz) os := by
    intro o ho
    rw [obj_frz, if_neg]
    exact fun hm => meets_false _ _ hme o hm ho
  have hd1 := SV.denL_mono hle1 _ _ (fun o ho => by simp at ho) hd
  have hargs := zipO_sound hC hS1 (fz_frz σ fz) hz (fun o ho => ho) hkeep hd1
  obtain ⟨hroots, hknms⟩ := zipO_roots hS1 hz hkeep hd1
  have hbn := borOf_nodup hS1 os (nodupB_nodup _ hno)
  have hlen : svs.length = vals.length := denL_length _ _ hd
  refine ⟨ρ1, hle1, hS1, hb1, hargs, hbn, fun F out h e w' he => ?_⟩
  let s : OSpec := ⟨ps, rs, pre, F⟩
  have h : oCall C s dst σ svs = some out := h
  have he : OPost ρ1.H w (borOf ρ1 os) s vals d e w' := he
  unfold oCall at h
  rw [show zipO C σ s.ps svs = some (d, os, fz) from hz] at h
  simp only at h
  split at h
  case h_2 => cases h
  rename_i _ _ hnn hfr
  simp at h; subst h
  have hnn := nodupB_nodup _ hnn
  rw [List.nodup_append] at hnn
  obtain ⟨hn1', hn2', hn3'⟩ := hnn
  have hfr := freshAll_spec _ hfr
  obtain ⟨vs, H', rb, kb, rfl, hE, hres, hkept, hndB, hownB⟩ := he
  rw [List.nodup_append] at hndB
  obtain ⟨hnd1, hnd2, hnd3⟩ := hndB
  let Bx : Base := ⟨w, ρ1.H, borOf ρ1 os, fun _ => none, fun _ => 0⟩
  let ρe : Env := ⟨H', fun _ => none, ρ1.len⟩
  have hSe : Sat P Bx ρe (oo []) w' := by
    refine ⟨hE.os, hE.tape, hE.output, hE.drawn, hE.size, hE.good, hE.old, hE.block, ?_, fun _ _ => rfl, ?_, ?_⟩
    · intro o x hx; simp [oo, St.obj, look] at hx
    · intro o o' b C1 C2 h1; simp [ρe] at h1
    · intro o b C1 h1; simp [ρe] at h1
  have okB : ∀ b, b ∈ rb ++ kb → (Bx.w.heap.size ≤ b ∨ b ∈ Bx.bor) := fun b hb => (hownB b hb).symm
  obtain ⟨ρ2, a1, e1⟩ := adoptRes dst s.rs 0 hSe hres hnd1 (fun b hb => ⟨okB b (List.mem_append_left _ hb), fun o C' h => by simp [ρe] at h⟩) hn1'
    (fun n _ => ⟨by simp [oo, St.obj, look], fun o T fz cs h => by simp [oo, St.obj, look] at h⟩)
  have fresh2 : ∀ n, n ∈ keptNms dst s.ps svs 0 → oo (resOb dst s.rs (s.F d).1 0 ++ []) n = none ∧ NoRef (oo (resOb dst s.rs (s.F d).1 0 ++ [])) n := by
    intro n hn
    have hnr : n ∉ resNms dst s.rs 0 := fun hm => hn3' n hm n hn rfl
    refine ⟨by rw [oo_app_none (by rw [keys_resOb]; exact hnr)]; simp [oo, St.obj, look], fun o T fz' cs ho => ?_⟩
    rw [List.append_nil] at ho
    simp only [oo, St.obj] at ho
    split at ho
    · rename_i y hy
      subst ho
      cases hc : SV.refs.refsL n cs with
      | false => rfl
      | true => exact absurd (box_res dst s.rs _ 0 (look_mem _ _ _ hy) n hc) hnr
    · cases ho
  obtain ⟨ρ3, a2, e2⟩ := adoptKept (ρ1 := ρ1) dst s.ps 0 a1.sat (svs := svs) (vs := vals) hlen (by rw [a1.H]; exact hkept) hnd2 (fun b hb => ⟨okB b (List.mem_append_right _ hb), fun o C' h => by
      rcases a1.blk o b C' h with h | h
      · simp [ρe] at h
      · exact hnd3 b h b hb rfl⟩) hn2' fresh2 hroots
  have hH3 : ρ3.H = H' := a2.H.trans a1.H
  let nw := resNms dst s.rs 0 ++ keptNw dst s.ps svs 0
  have hfrz_none : ∀ n, n ∈ nw → NoRef (σ.frz fz).obj n := by
    intro n hn r T f cs hr
    obtain ⟨_, q2⟩ := hfr n hn
    rw [obj_frz] at hr
    have base : ∀ T f cs, σ.obj r = some (.box T f cs) → SV.refs.refsL n cs = false := by
      intro T f cs hx
      simp only [St.obj] at hx
      split at hx
      · rename_i y hy; subst hx; exact freshOb_mem _ _ _ _ _ _ q2 (look_mem _ _ _ hy)
      · cases hx
    split at hr
    · cases hx : σ.obj r with
      | none => rw [hx] at hr; cases hr
      | some y =>
        rw [hx] at hr
        cases y <;> simp [frozenOb] at hr
        obtain ⟨rfl, _, rfl⟩ := hr
        exact base _ _ _ hx
    · exact base _ _ _ hr
  have others : ∀ o, o ∉ nw → o ∉ keptNms dst s.ps svs 0 → ρ3.blk o = none ∧ ρ3.len o = ρ1.len o := by
    intro o ho hk
    obtain ⟨q1, q2⟩ := a2.same o hk
    obtain ⟨q3, q4⟩ := a1.same o (fun h => ho (List.mem_append_left _ h))
    exact ⟨q1.trans q3, q2.trans q4⟩
  have hle : (onlyE os ρ1).le ρ3 nw := by
    refine ⟨fun b c hb => ?_, fun o p ho hp => ?_, fun o ho => ?_⟩
    · have hb : ρ1.H b = some c := hb
      have hnb : b ∉ borOf ρ1 os := fun hm => by
        have := oArgs_H s.ps vals d _ hargs b hm
        rw [this] at hb; cases hb
      rw [hH3, hE.old b (hS1.good.lt hb) hnb]; exact hb
    · by_cases hk : o ∈ keptNms dst s.ps svs 0
      · rcases e2 o hk with h | ⟨h, _⟩
        · exact absurd (List.mem_append_right _ h) ho
        · rcases hknms dst 0 o hk with hm | hm
          · simp only [onlyE]; rw [if_pos hm, ← h]; exact hp
          · exact absurd (List.mem_append_right _ hm) ho
      · rw [(others o ho hk).1] at hp; cases hp
    · by_cases hk : o ∈ keptNms dst s.ps svs 0
      · rcases e2 o hk with h | ⟨_, h⟩
        · exact absurd (List.mem_append_right _ h) ho
        · exact h
      · exact (others o ho hk).2
  have hkeys : ∀ o, o ∈ keys (keptOb dst s.ps svs (s.F d).2 0 ++ resOb dst s.rs (s.F d).1 0) → o ∈ nw ∨ o ∈ os := by
    intro o ho
    rw [keys_app, keys_keptOb, keys_resOb] at ho
    rcases ho with h | h
    · rcases hknms dst 0 o h with h | h
      · exact .inr h
      · exact .inl (List.mem_append_right _ h)
    · exact .inl (List.mem_append_left _ h)
  have hsat3 : Sat P Bx ρ3 (oo (keptOb dst s.ps svs (s.F d).2 0 ++ resOb dst s.rs (s.F d).1 0)) w' := by
    have := a2.sat
    rwa [List.append_nil] at this
  obtain ⟨ρ4, g1, g2, g3⟩ := frame_out (σ := σ.frz fz) hS1 os nw hfrz_none hsat3 hle (fun o T f cs ho r hr => by
    simp only [oo, St.obj] at ho
    split at ho
    · rename_i y hy
      subst ho
      have hm := look_mem _ _ _ hy
      rcases List.mem_append.1 hm with hm | hm
      · exact .inl (List.mem_append_right _ (box_kept dst _ _ _ _ hm r hr))
      · exact .inl (List.mem_append_left _ (box_res dst _ _ _ hm r hr))
    · cases ho)
  refine ⟨_, rfl, ρ4, ?_, (hle1.weaken (fun o ho => by simp at ho)).trans g2, ?_, trivial⟩
  · have : (fun o => if o ∈ nw ∨ o ∈ os then oo (keptOb dst s.ps svs (s.F d).2 0 ++ resOb dst s.rs (s.F d).1 0) o else (σ.frz fz).obj o) =
        ({ σ with ob := (keptOb dst s.ps svs (s.F d).2 0 ++ (resOb dst s.rs (s.F d).1 0 ++ killsOf os)) ++ (doFz σ fz ++ σ.ob) } : St).obj := by
      funext o
      have e0 : (keptOb dst s.ps svs (s.F d).2 0 ++ (resOb dst s.rs (s.F d).1 0 ++ killsOf os)) ++ (doFz σ fz ++ σ.ob) =
          (keptOb dst s.ps svs (s.F d).2 0 ++ resOb dst s.rs (s.F d).1 0) ++ (killsOf os ++ (doFz σ fz ++ σ.ob)) := by simp only [List.append_assoc]
      rw [e0]
      generalize hnew : keptOb dst s.ps svs (s.F d).2 0 ++ resOb dst s.rs (s.F d).1 0 = new
      rw [hnew] at hkeys
      simp only [oo, St.obj, look_append (a := new)]
      cases hl : look new o with
      | some y =>
        have hk : o ∈ keys new := look_keys (by rw [hl]; simp)
        rw [if_pos (hkeys o hk)]
      | none =>
        simp only
        rw [look_append, look_kills]
        by_cases hos : o ∈ os
        · rw [if_pos (.inr hos), if_pos hos]
        · rw [if_neg hos]
          have hnw' : o ∉ nw := by
            intro hm
            have : o ∈ keys new := by
              rw [← hnew, keys_app, keys_keptOb, keys_resOb]
              rcases List.mem_append.1 hm with h | h
              · exact .inr h
              · exact .inl (keptNw_sub dst _ _ _ _ h)
            exact look_none_not hl this
          rw [if_neg (by rintro (h | h); exact hnw' h; exact hos h)]
          rfl
    rw [← this]
    exact g1
  · refine g3 _ _ (fun r hr => .inl (List.mem_append_left _ (refs_res dst _ _ _ r (refs_one hr)))) ?_
    refine denL_one (SV.denL_mono a2.le _ _ (fun o ho => ?_) e1)
    cases hc : SV.refs.refsL o (resSVs dst s.rs (s.F d).1 0) with
    | false => rfl
    | true => exact absurd rfl (hn3' o (refs_res dst _ _ _ o hc) o ho)
where
  look_none_not {α : Type} : ∀ {l : List (Nat × α)} {k : Nat}, look l k = none → k ∈ keys l → False
    | [], k, _, h => by simp [keys] at h
    | (j, x) :: r, k, h, hm => by
      simp only [look] at h
      cases hb : Nat.beq j k with
      | true => rw [hb] at h; cases h
      | false =>
        rw [hb] at h
        simp only [keys, List.mem_cons] at hm
        rcases hm with rfl | hm
        · exact absurd rfl (beq_of_refs hb)
        · exact look_none_not h hm

theorem oCall_sound (hC : C.ok P) {f dst : Nat} {s : OSpec} {svs : List SV} {out : Out} (hf : OFnOK P f s) (h : oCall C s dst σ svs = some out) {vals : List Value} (hS : Sat P B ρ σ.obj w) (hd : SV.denL P ρ svs vals) (hvc : AllP out.vc) :
    Calls P f vals.toArray w (fun e w' => ∃ v, e = .returned v ∧ Leaves P B ρ σ out v w') := by
  have h0 := h
  unfold oCall at h0
  split at h0
  · cases h0
  rename_i d os fz hz
  split at h0
  case h_2 => cases h0
  rename_i hno hme _ _
  simp at h0
  obtain ⟨ρ1, _, hS1, _, hargs, hbn, hk⟩ := oCall_split (dst := dst) (rs := s.rs) (pre := s.pre) hC hz hno hme hS hd
  exact (hf.calls ρ1.H w vals d (borOf ρ1 os) hS1.good hargs hbn (by rw [← h0] at hvc; exact hvc)).mono fun e w' he => hk s.F out h e w' he

/-- the stateful functions that are known: sound -/
theorem oEff_sound (hC : C.ok P) {l : List (Nat × OSpec)} (hl : ∀ f s, look l f = some s → OFnOK P f s) {f dst : Nat} {svs : List SV} {out : Out} (h : oEff C l f dst σ svs = some out) :
    enters P f ∧ ∀ B ρ w vals, Sat P B ρ σ.obj w → SV.denL P ρ svs vals → AllP out.vc → σ.obj dst = none → NoRef σ.obj dst →
      Calls P f vals.toArray w (fun e w' => ∃ v, e = .returned v ∧ Leaves P B ρ σ out v w') := by
  unfold oEff at h
  split at h
  · rename_i s hs
    exact ⟨(hl f s hs).enters, fun B ρ w vals hS hd hvc _ _ => oCall_sound hC (hl f s hs) h hS hd hvc⟩
  · cases h

end
end Go.X
/-
  Bodies that are handed a function value that may change one variable of the caller's.
-/
namespace Go.X
open Go.RowKit (Below)

/-- the name of the variable -/
def root0 : Nat := 1000000

/-- what such a body leaves: its result, and the variable's new contents -/
def finishE (C : Ctx) (fn : Func) (T : Nat) (st : Ty) (rs : List Ty) (want : (Ty.st rs).Data × st.Data) : Ex → St → Prop
  | .exit _, _ => False
  | _, σ => match resOf C σ rs fn.results.toList, σ.obj root0 with
    | some r, some (.box T' false [c]) => match Nat.beq T T', memb (resFz C σ rs fn.results.toList) root0, toDat σ st c with
      | true, false, some (x, []) => r = want.1 ∧ x = want.2
      | _, _, _ => False
    | _, _ => False

section
variable {P : Program} {C : Ctx} {w : World}

/-- a call that may write one variable of the caller's -/
theorem callE_leaves {B : Base} {σ : St} {ρ : Env} (hS : Sat P B ρ σ.obj w) (fz : List Nat) {ob T : Nat} {sc : SV} {st : Ty} {rs : List Ty} {r : (Ty.st rs).Data × st.Data} {vc : List Prop} {k : FuncId} {args : Array Value}
    (hm : memb fz ob = false) (hx : σ.obj ob = some (.box T false [sc])) (hst : st.agg = false)
    (h : ∀ ρ1 b Cp u, Sat P B ρ1 (σ.frz fz).obj w → ρ.le ρ1 [] → ρ1.blk = ρ.blk → ρ1.blk ob = some (some (b, Cp)) → ρ1.H b = none → w.heap[b]? = some (.cells #[u] T (0, 0)) → SV.den P ρ1 sc u → Calls P k args w (PostE ρ1.H w b T st rs r)) :
    Calls P k args w (fun e w' => ∃ v, e = .returned v ∧ Leaves P B ρ σ ⟨vc, [], resSV rs r.1, fz, [(ob, some (.box T false [.dat st r.2]))], []⟩ v w') := by
  obtain ⟨ρ1, hS1, hle1, hblk1, _⟩ := freeze_sat fz hS
  have hx1 : (σ.frz fz).obj ob = some (.box T false [sc]) := by rw [obj_frz, if_neg (memb_false hm)]; exact hx
  obtain ⟨p, hp, b, Cp, vs, rfl, hw, hdl, h1, hHb⟩ := hS1.obs ob _ hx1
  have hHb : ρ1.H b = none := hHb
  simp only [SV.denL] at hdl
  obtain ⟨u, r', evs, hdu, rfl⟩ := hdl
  have evs : vs = #[u] := Array.toList_inj.1 (by simpa using evs)
  subst evs
  refine (h ρ1 b Cp u hS1 hle1 hblk1 hp hHb hw hdu).mono fun e w' he => ?_
  obtain ⟨v, H', u', rfl, hE, hH', hw', hu', hr⟩ := he
  obtain ⟨hS2, hle2⟩ := sat_callE hS1 (fun o b Cp hb => (blk_lt (σ := σ.frz fz) hS1 hb).1) hx1 hp hE hH' hw' (sv := .dat st r.2) (by simp only [SV.den]; exact hu') (one_of_rv hst hu')
  refine ⟨v, rfl, { ρ1 with H := H' }, ?_, hle1.trans hle2, resSV_den rfl hr, trivial⟩
  show Sat P B _ ({ (σ.frz fz) with ob := (ob, some (.box T false [.dat st r.2])) :: (σ.frz fz).ob } : St).obj w'
  rw [obj_wr1]
  exact hS2

theorem res_one {H : Imm} : ∀ {rs : List Ty} {vs : List Value} {r : (Ty.st rs).Data}, rvs H rs vs r → resV H rs (oneRes vs) r
  | [], _, _, h => by simp only [rvs] at h; subst h; exact ⟨_, rfl, rfl⟩
  | _ :: _, [], _, h => h.elim
  | [_], [_], _, h => h.1
  | [_], _ :: _ :: _, _, h => by have := h.2; simp [rvs] at this
  | _ :: _ :: _, [_], _, h => h.2.elim
  | _ :: _ :: _, _ :: _ :: _, _, h => ⟨_, rfl, h⟩

theorem fe_ok (hC : C.ok P) (hm : P.follows .mixedOrders = true) {f : Nat} {fn : Func} {body : Code} (hf : P.funcs[f]? = some fn) (hb : fn.body = some body)
    (hn : fn.ntmps = C.n) (A : Ann) {T : Nat} {st : Ty} {rs : List Ty} {want : (Ty.st rs).Data × st.Data} {s : st.Data} {sl : List (Nat × SV)} {vals : List Value} (hlen : vals.length ≤ C.n)
    (hv : vcg C A body ⟨sl, [(root0, some (.box T false [.dat st s]))]⟩ (finishE C fn T st rs want))
    {H : Imm} {b : Nat} {u : Value} (hg : Good H w) (hH : H b = none) (hw : w.heap[b]? = some (.cells #[u] T (0, 0))) (hst : st.agg = false) (hu : st.rv H u s)
    (hsl : ∀ ρ : Env, ρ.H = H → ρ.blk root0 = some (some (b, 0)) → ∀ k v, look sl k = some v → ∃ x, vals[k]? = some x ∧ SV.den P ρ v x) :
    Calls P f vals.toArray w (PostE H w b T st rs want) := by
  refine calls_of_wp hf hb ?_
  let ρ0 : Env := ⟨H, fun o => if o = root0 then some (some (b, 0)) else none, fun _ => 0⟩
  let B : Base := ⟨w, H, [b], ρ0.blk, ρ0.len⟩
  let σ0 : St := ⟨sl, [(root0, some (.box T false [.dat st s]))]⟩
  have hblk : ρ0.blk root0 = some (some (b, 0)) := by simp [ρ0]
  have hobj : ∀ o x, σ0.obj o = some x → o = root0 ∧ x = .box T false [.dat st s] := by
    intro o x hx
    simp only [σ0, St.obj, look] at hx
    cases hbq : Nat.beq root0 o with
    | true => rw [hbq] at hx; simp at hx; exact ⟨(Nat.eq_of_beq_eq_true hbq).symm, hx.symm⟩
    | false => rw [hbq] at hx; simp at hx
  have hS0 : Sat P B ρ0 σ0.obj w := by
    refine ⟨rfl, rfl, rfl, Nat.le_refl _, Nat.le_refl _, hg, fun _ _ _ => rfl, fun _ _ _ => rfl, ?_, ?_, ?_, ?_⟩
    · intro o x hx
      obtain ⟨rfl, rfl⟩ := hobj o x hx
      refine ⟨_, hblk, b, 0, #[u], rfl, hw, ?_, by simpa using one_of_rv hst hu, hH⟩
      simp only [SV.denL, SV.den]
      exact ⟨u, [], rfl, hu, rfl⟩
    · intro o hx
      show (if o = root0 then some (some (b, 0)) else none) = none
      split
      · rename_i e
        subst e
        simp [σ0, St.obj, look] at hx
      · rfl
    · intro o o' b1 C1 C2 h1 h2
      simp only [ρ0] at h1 h2
      split at h1
      · rename_i e1
        split at h2
        · rename_i e2; rw [e1, e2]
        · cases h2
      · cases h1
    · intro o b1 C1 h1
      simp only [ρ0] at h1
      split at h1
      · simp at h1; obtain ⟨rfl, rfl⟩ := h1; exact .inr (by simp [B])
      · cases h1
  have hR : Rel P B C.n σ0 { tmps := vals.toArray ++ Array.replicate (fn.ntmps - vals.toArray.size) undef, defers := [] } w := by
    refine ⟨rfl, by simp; omega, ρ0, hS0, ?_, fun o p _ hp => ⟨hp, rfl⟩, fun _ _ hb => hb⟩
    intro k v hk
    obtain ⟨x, h1, h2⟩ := hsl ρ0 rfl hblk k v hk
    have hlt := (List.getElem?_eq_some_iff.1 h1).1
    have : (vals.toArray ++ Array.replicate (fn.ntmps - vals.toArray.size) undef).getD k undef = x := by
      rw [Array.getD_eq_getD_getElem?, Array.getElem?_append_left (by simpa using hlt)]
      simp [h1]
    rw [this]; exact h2
  refine vcg_sound hC hm A body _ _ _ _ w hv hR (fun e σ a' w' _ hK hR' => ?_)
  have main : (match resOf C σ rs fn.results.toList, σ.obj root0 with
    | some r, some (.box T' false [c]) => match Nat.beq T T', memb (resFz C σ rs fn.results.toList) root0, toDat σ st c with
      | true, false, some (x, []) => r = want.1 ∧ x = want.2
      | _, _, _ => False
    | _, _ => False) → a'.defers = [] ∧ ∃ v, (Go.results fn a'.tmps).run P w' = .ok v w' ∧ PostE H w b T st rs want (.returned v) w' := by
    intro hr
    split at hr
    case h_2 => exact hr.elim
    rename_i r T' c hres hobj'
    split at hr
    case h_2 => exact hr.elim
    rename_i x hT hm' hx
    obtain ⟨hr1, hr2⟩ := hr
    have := Nat.eq_of_beq_eq_true hT; subst this
    obtain ⟨h1, h2, ρ', hS', hSl, hPin⟩ := hR'
    obtain ⟨ρ2, hS2, hle, hblk2, _⟩ := freeze_sat (σ := σ) (resFz C σ rs fn.results.toList) hS'
    have hd : ∀ k, SV.den P ρ2 (σ.get k) (a'.tmps.getD k undef) := by
      intro k
      have := den_opnd (P := P) (a := a') hSl (.tmp k)
      exact SV.den_mono hle _ _ (fun o ho => by simp at ho) this
    obtain ⟨vs, e1, e2⟩ := resOf_sound hC hS2 (fz_frz σ _) hd rs _ _ hres (fun o ho => ho)
    have hobj2 : (σ.frz (resFz C σ rs fn.results.toList)).obj root0 = some (.box T false [c]) := by rw [obj_frz, if_neg (memb_false hm')]; exact hobj'
    obtain ⟨p, hp, b2, C2, us, rfl, hw2, hdl, _, hH2⟩ := hS2.obs root0 _ hobj2
    have hpp := (hPin.1 root0 _ (Nat.le_refl _) (by rw [← hblk2]; exact hp)).1
    rw [show B.blk0 root0 = some (some (b, 0)) from hblk] at hpp
    simp at hpp
    obtain ⟨rfl, rfl⟩ := hpp
    simp only [SV.denL] at hdl
    obtain ⟨u', r', evs, hdu, rfl⟩ := hdl
    have evs : us = #[u'] := Array.toList_inj.1 (by simpa using evs)
    subst evs
    have hsu := toDat_sound hS2 (fz_frz σ _) hx (fun o ho => by simp at ho) hdu
    refine ⟨h1, _, run_resultsC e1, ⟨_, ρ2.H, u', rfl, ?_, hH2, hw2, by rw [← hr2]; exact hsu, ?_⟩⟩
    · exact ⟨hS2.os, hS2.tape, hS2.output, hS2.drawn, hS2.size, fun b hb hbs => hS2.old b hb hbs, fun b hb hbs => hS2.oldH b hb hbs, hS2.good⟩
    · rw [← hr1]; exact res_one e2
  cases e with
  | normal => exact main hK
  | ret => exact main hK
  | exit id => exact hK.elim

end
end Go.X
