/-
  The table of types: checked by reckoning.
-/
import Derived.Test.YtoijahccalbjiaaK4
import Derived.Laws.StructEq
import Derived.Test.YtoijahccalbjiaaRows
import Derived.WalkKit
import Derived.ProofKit
import Derived.OpenShut
import Derived.JoinedCond
import Derived.Carry
import Derived.ChangeArms
namespace Go.X
open Go.RowKit (Below)

def sameKind (a b : IntKind) : Bool := decide (a = b)

def sameV : Value → Value → Bool
  | .int k n, .int k' n' => (match sameKind k k' with | true => decide (n = n') | false => false)
  | .bool b, .bool b' => (match b, b' with | true, true => true | false, false => true | _, _ => false)
  | .slice none a b, .slice none a' b' => (match Nat.beq a a', Nat.beq b b' with | true, true => true | _, _ => false)
  | .pointer none, .pointer none => true
  | .map none, .map none => true
  | .nilFunc, .nilFunc => true
  | .nilIface, .nilIface => true
  | _, _ => false

theorem sameV_eq {a b : Value} (h : sameV a b = true) : a = b := by
  unfold sameV at h
  split at h
  · split at h
    · rename_i hk; simp [sameKind] at hk h; rw [hk, h]
    · cases h
  · rename_i x y; cases x <;> cases y <;> simp_all
  · split at h
    · rename_i h1 h2; rw [Nat.eq_of_beq_eq_true h1, Nat.eq_of_beq_eq_true h2]
    · cases h
  · rfl
  · rfl
  · rfl
  · rfl
  · cases h

def sameVs : List Value → List Value → Bool
  | [], [] => true
  | a :: r, b :: s => (match sameV a b with | true => sameVs r s | false => false)
  | _, _ => false
theorem sameVs_eq : ∀ {a b : List Value}, sameVs a b = true → a = b
  | [], [], _ => rfl
  | a :: r, b :: s, h => by
    simp only [sameVs] at h
    split at h
    · rename_i h1; rw [sameV_eq h1, sameVs_eq h]
    · cases h
  | [], _ :: _, h => by cases h
  | _ :: _, [], h => by cases h

def beqB : Bool → Bool → Bool
  | true, true => true
  | false, false => true
  | _, _ => false
theorem beqB_eq {a b : Bool} (h : beqB a b = true) : a = b := by cases a <;> cases b <;> simp_all [beqB]

def sameFields : List Field → List (Nat × Nat) → Bool
  | [], [] => true
  | f :: r, p :: s => (match Nat.beq f.offset p.1, Nat.beq f.type p.2 with | true, true => sameFields r s | _, _ => false)
  | _, _ => false
theorem sameFields_eq : ∀ {a : List Field} {b : List (Nat × Nat)}, sameFields a b = true → a.length = b.length ∧ ∀ (k : Nat) (p : Nat × Nat), b[k]? = some p → ∃ f : Field, a[k]? = some f ∧ f.offset = p.1 ∧ f.type = p.2
  | [], [], _ => ⟨rfl, fun k p h => by simp at h⟩
  | f :: r, q :: s, h => by
    simp only [sameFields] at h
    split at h
    · rename_i h1 h2
      obtain ⟨e1, e2⟩ := sameFields_eq h
      refine ⟨by simp [e1], fun k p hk => ?_⟩
      cases k with
      | zero => simp at hk; subst hk; exact ⟨f, by simp, Nat.eq_of_beq_eq_true h1, Nat.eq_of_beq_eq_true h2⟩
      | succ k => simpa using e2 k p (by simpa using hk)
    · cases h
  | [], _ :: _, h => by cases h
  | _ :: _, [], h => by cases h

/-- may values of this type be compared, part by part? -/
def cmpFs (P : Program) (go : Nat → Ty → Bool) : List Field → Nat → Ty → Bool
  | [], _, .unit => true
  | f :: fs, off, .pair a b => match f.name == "_", Nat.beq f.offset off, P.info? f.type, go f.type a with
    | false, true, some i, true => (match Nat.beq i.size a.size with | true => cmpFs P go fs (off + a.size) b | false => false)
    | _, _, _, _ => false
  | _, _, _ => false

def cmpOk (P : Program) : Nat → Nat → Ty → Bool
  | 0, _, _ => false
  | d + 1, T, ty => match ty, P.underlying T with
    | .int, some (.int .i64) => true
    | .bool, some .bool => true
    | .uint k, some (.int k') => sameKind k k'
    | .pair a b, some (.struct fs) => (match P.stoodInHeld T with | false => cmpFs P (cmpOk P d) fs.toList 0 (.pair a b) | true => false)
    | _, _ => false

section
variable {P : Program}

def EqAtTy (P : Program) (D T : Nat) (ty : Ty) : Prop := ∀ (H : Imm) (w : World) (x y : Value) (a b : ty.Data), ty.rv H x a → ty.rv H y b → (Op.equalIn D T x y).run P w = .ok (@decide (a = b) (ty.decEq a b)) w

theorem dec_pair {a b : Ty} (x y : (Ty.pair a b).Data) : @decide (x = y) ((Ty.pair a b).decEq x y) = (@decide (x.1 = y.1) (a.decEq _ _) && @decide (x.2 = y.2) (b.decEq _ _)) := by
  have e := @Prod.ext_iff _ _ x y
  by_cases h1 : x.1 = y.1 <;> by_cases h2 : x.2 = y.2
  · rw [@decide_eq_true _ (_) (e.2 ⟨h1, h2⟩), @decide_eq_true _ (_) h1, @decide_eq_true _ (_) h2]; rfl
  · rw [@decide_eq_false _ (_) (fun h => h2 (e.1 h).2), @decide_eq_true _ (_) h1, @decide_eq_false _ (_) h2]; rfl
  · rw [@decide_eq_false _ (_) (fun h => h1 (e.1 h).1), @decide_eq_false _ (_) h1]; rfl
  · rw [@decide_eq_false _ (_) (fun h => h1 (e.1 h).1), @decide_eq_false _ (_) h1]; rfl

theorem isAgg_cmp {d T : Nat} {ty : Ty} (h : cmpOk P d T ty = true) (w : World) : (isAgg T).run P w = .ok ty.agg w := by
  cases d with
  | zero => cases h
  | succ d =>
    unfold cmpOk at h
    split at h
    · rename_i e; simp [isAgg, run_underlying e, Ty.agg]
    · rename_i e; simp [isAgg, run_underlying e, Ty.agg]
    · rename_i e; simp [isAgg, run_underlying e, Ty.agg]
    · rename_i e; simp [isAgg, run_underlying e, Ty.agg]
    · cases h

theorem part_rv {d T off : Nat} {ty : Ty} {i : TypeInfo} (h : cmpOk P d T ty = true) (hi : P.info? T = some i) (hs : i.size = ty.size) {H : Imm} {xs : Array Value} {x : ty.Data} (hx : ty.rd H (fun j => xs[off + j]?) x)
    (hlen : off + ty.size ≤ xs.size) (w : World) : ∃ v, (part T xs off).run P w = .ok v w ∧ ty.rv H v x := by
  have e1 := isAgg_cmp h w
  have e2 : (sizeOf T).run P w = .ok ty.size w := by simp [sizeOf, typeInfo, hi, hs]
  cases ha : ty.agg with
  | true =>
    refine ⟨.agg (xs.extract off (off + ty.size)), ?_, ?_, ?_, ?_⟩
    · rw [ha] at e1
      simp [part, e1, e2]
    · simp [isAggV, ha]
    · simp [Value.cells]; omega
    · refine Ty.rd_congr ty _ _ _ (fun j hj => ?_) hx
      simp only [Value.cells]
      rw [Array.getElem?_extract]
      rw [if_pos (by omega)]
  | false =>
    have hsz : ty.size = 1 := by
      cases d with
      | zero => cases h
      | succ d =>
        unfold cmpOk at h
        split at h <;> first | (cases h; done) | rfl | (simp [Ty.agg] at ha; done)
    have hget : xs[off]? = some xs[off] := Array.getElem?_eq_getElem (by omega)
    refine ⟨xs[off], ?_, ?_⟩
    · rw [ha] at e1
      simp [part, e1, hget]
    · exact rv_of_scalar ha (Ty.rd_congr ty _ _ _ (fun j hj => by
        have : j = 0 := by omega
        subst this; simp [hget]) hx)

theorem cmpFs_sound {d D : Nat} (hgo : ∀ T ty, cmpOk P d T ty = true → EqAtTy P D T ty) {H : Imm} {xs ys : Array Value} (w : World) : ∀ (fs : List Field) (off : Nat) (ty : Ty), cmpFs P (cmpOk P d) fs off ty = true →
    ∀ x y : ty.Data, ty.rd H (fun j => xs[off + j]?) x → ty.rd H (fun j => ys[off + j]?) y → off + ty.size ≤ xs.size → off + ty.size ≤ ys.size →
      (Op.eqFields D xs ys fs).run P w = .ok (@decide (x = y) (ty.decEq x y)) w
  | [], off, ty, h, x, y, hx, hy, _, _ => by
    cases ty with
    | unit => simp [Op.eqFields]
    | _ => cases h
  | f :: fs, off, ty, h, x, y, hx, hy, hlx, hly => by
    cases ty with
    | pair a b =>
      simp only [cmpFs] at h
      split at h
      case h_2 => cases h
      rename_i i h1 h2 h3 h4
      split at h
      case h_2 => cases h
      rename_i h5
      have e5 := Nat.eq_of_beq_eq_true h5
      have e2 := Nat.eq_of_beq_eq_true h2
      simp only [Ty.size] at hlx hly
      obtain ⟨v, p1, p2⟩ := part_rv (off := off) h4 h3 e5 (xs := xs) (x := x.1) hx.1 (by omega) w
      obtain ⟨u, q1, q2⟩ := part_rv (off := off) h4 h3 e5 (xs := ys) (x := y.1) hy.1 (by omega) w
      have he := hgo _ _ h4 H w v u x.1 y.1 p2 q2
      have hr := cmpFs_sound hgo w fs (off + a.size) b h x.2 y.2 (by
        refine Ty.rd_congr b _ _ _ (fun j _ => ?_) hx.2
        rw [Nat.add_assoc]) (by
        refine Ty.rd_congr b _ _ _ (fun j _ => ?_) hy.2
        rw [Nat.add_assoc]) (by omega) (by omega)
      have hname : f.name ≠ "_" := by simpa using h1
      rw [dec_pair]
      unfold Op.eqFields
      rw [if_pos hname, e2]
      simp only [Sem.run_bind, p1, q1, he, Result.andThen_ok, Sem.run_ite]
      cases hd : @decide (x.1 = y.1) (a.decEq x.1 y.1) with
      | true => simpa using hr
      | false => simp
    | _ => cases h

theorem cmpOk_sound : ∀ (d : Nat) (T : Nat) (ty : Ty) (m : Nat), cmpOk P d T ty = true → EqAtTy P (d + m) T ty
  | 0, _, _, _, h => by cases h
  | d + 1, T, ty, m, h => by
    intro H w x y a b hx hy
    rw [show d + 1 + m = (d + m) + 1 by omega]
    unfold cmpOk at h
    split at h
    · rename_i e
      rw [int_of_rv hx, int_of_rv hy, run_equalIn_int w _ _ _ _ _ _ e]
      congr 1
    · rename_i e
      rw [bool_of_rv hx, bool_of_rv hy, run_equalIn_bool' w _ _ _ _ e]
      congr 1
    · rename_i k k' e
      rw [uint_of_rv hx, uint_of_rv hy, run_equalIn_int w _ _ _ _ _ _ e]
      congr 1
    · rename_i t u fs e
      split at h
      case h_2 => cases h
      rename_i hst
      have e' : P.underlying T = some (.struct (P.fieldsOf T)) := by simp [Program.fieldsOf, e]
      have ef : (P.fieldsOf T) = fs := by simp [Program.fieldsOf, e]
      obtain ⟨x1, x2, x3⟩ := hx
      obtain ⟨y1, y2, y3⟩ := hy
      have agg : ∀ {v : Value}, isAggV v = true → ∃ vs, v = .agg vs := fun {v} h => by cases v <;> simp_all [isAggV]
      obtain ⟨xs, rfl⟩ := agg x1
      obtain ⟨ys, rfl⟩ := agg y1
      rw [run_equalIn_struct w _ _ _ _ e' hst, ef]
      simp only [Value.cells] at x2 x3 y2 y3
      exact cmpFs_sound (D := d + m) (fun T ty h => cmpOk_sound d T ty m h) w fs.toList 0 _ h a b (by simpa using x3) (by simpa using y3) (by omega) (by omega)
    · cases h

/-! ### Zero values, keys of maps -/

def zIs : Ty → List Value → Option (List Value)
  | .unit, l => some l
  | .pair a b, l => match zIs a l with | some r => zIs b r | none => none
  | .int, v :: r => match sameV v (.int .i64 0) with | true => some r | false => none
  | .uint k, v :: r => match sameV v (.int k 0) with | true => some r | false => none
  | .bool, v :: r => match sameV v (.bool false) with | true => some r | false => none
  | .slice _, v :: r => match sameV v (.slice none 0 0) with | true => some r | false => none
  | .map _ _, v :: r => match sameV v (.map none) with | true => some r | false => none
  | _, [] => none

theorem zIs_rd (H : Imm) : ∀ (t : Ty) (l r : List Value), zIs t l = some r → ∃ us, l = us ++ r ∧ us.length = t.size ∧ t.rd H (fun i => us[i]?) t.dflt
  | .unit, l, r, h => by simp [zIs] at h; subst h; exact ⟨[], rfl, rfl, trivial⟩
  | .pair a b, l, r, h => by
    simp only [zIs] at h
    split at h
    · rename_i r1 h1
      obtain ⟨us, rfl, u1, u2⟩ := zIs_rd H a l r1 h1
      obtain ⟨vs, rfl, v1, v2⟩ := zIs_rd H b r1 r h
      refine ⟨us ++ vs, by simp, by simp [Ty.size, u1, v1], ?_, ?_⟩
      · exact Ty.rd_congr a _ _ _ (fun i hi => by rw [List.getElem?_append_left (by omega)]) u2
      · refine Ty.rd_congr b _ _ _ (fun i hi => ?_) v2
        simp only
        rw [List.getElem?_append_right (by omega)]
        congr 1; omega
    · cases h
  | .int, [], r, h => by cases h
  | .uint _, [], r, h => by cases h
  | .bool, [], r, h => by cases h
  | .slice _, [], r, h => by cases h
  | .map _ _, [], r, h => by cases h
  | .int, v :: l, r, h => by
    simp only [zIs] at h
    split at h
    · rename_i hv; simp at h; subst h; rw [sameV_eq hv]; exact ⟨[_], rfl, rfl, rfl⟩
    · cases h
  | .uint k, v :: l, r, h => by
    simp only [zIs] at h
    split at h
    · rename_i hv; simp at h; subst h; rw [sameV_eq hv]; exact ⟨[_], rfl, rfl, rfl⟩
    · cases h
  | .bool, v :: l, r, h => by
    simp only [zIs] at h
    split at h
    · rename_i hv; simp at h; subst h; rw [sameV_eq hv]; exact ⟨[_], rfl, rfl, rfl⟩
    · cases h
  | .slice _, v :: l, r, h => by
    simp only [zIs] at h
    split at h
    · rename_i hv; simp at h; subst h; rw [sameV_eq hv]; exact ⟨[_], rfl, rfl, rd_nil _⟩
    · cases h
  | .map _ _, v :: l, r, h => by
    simp only [zIs] at h
    split at h
    · rename_i hv; simp at h; subst h; rw [sameV_eq hv]; exact ⟨[_], rfl, rfl, none, rfl, fun _ => rfl, fun b hb => (by cases hb)⟩
    · cases h

/-- cells of a type that may be compared are numbers and truths -/
def plainV : Value → Prop
  | .int _ _ => True
  | .bool _ => True
  | _ => False

theorem sameBits_plain {n : Nat} {v : Value} (h : plainV v) : Instr.sameBits n v v = true := by
  cases v <;> first | exact h.elim | (cases n <;> simp [Instr.sameBits])

section
variable {P : Program}

def Plain (ty : Ty) : Prop := ∀ (H : Imm) (f g : Nat → Option Value) (d : ty.Data), ty.rd H f d → ty.rd H g d → ∀ i, i < ty.size → ∃ v, f i = some v ∧ g i = some v ∧ plainV v

theorem plain_fields {go : Nat → Ty → Bool} (hgo : ∀ T ty, go T ty = true → Plain ty) : ∀ (fs : List Field) (off : Nat) (ty : Ty), cmpFs P go fs off ty = true → Plain ty
  | [], off, ty, h => by
    cases ty with
    | unit => intro H f g d _ _ i hi; simp [Ty.size] at hi
    | _ => cases h
  | f :: fs, off, ty, h => by
    cases ty with
    | pair a b =>
      simp only [cmpFs] at h
      split at h
      case h_2 => cases h
      rename_i i h1 h2 h3 h4
      split at h
      case h_2 => cases h
      intro H f' g d hf hg j hj
      simp only [Ty.size] at hj
      by_cases hja : j < a.size
      · exact hgo _ _ h4 H f' g d.1 hf.1 hg.1 j hja
      · obtain ⟨v, k1, k2, k3⟩ := plain_fields hgo fs _ b h H _ _ d.2 hf.2 hg.2 (j - a.size) (by omega)
        have e : a.size + (j - a.size) = j := by omega
        rw [e] at k1 k2
        exact ⟨v, k1, k2, k3⟩
    | _ => cases h

theorem cmp_plain : ∀ (d T : Nat) (ty : Ty), cmpOk P d T ty = true → Plain ty
  | 0, _, _, h => by cases h
  | d + 1, T, ty, h => by
    unfold cmpOk at h
    split at h
    · intro H f g d hf hg i hi
      have : i = 0 := by simp [Ty.size] at hi; exact hi
      subst this; exact ⟨_, hf, hg, trivial⟩
    · intro H f g d hf hg i hi
      have : i = 0 := by simp [Ty.size] at hi; exact hi
      subst this; exact ⟨_, hf, hg, trivial⟩
    · intro H f g d hf hg i hi
      have : i = 0 := by simp [Ty.size] at hi; exact hi
      subst this; exact ⟨_, hf, hg, trivial⟩
    · split at h
      case h_2 => cases h
      exact plain_fields (fun T ty h => cmp_plain d T ty h) _ _ _ h
    · cases h

/-- a key passes -/
def KeyAt (P : Program) (D T : Nat) (ty : Ty) : Prop := ∀ (H : Imm) (w : World) (x : Value) (a : ty.Data) (e : Bool), ty.rv H x a → (Instr.checkKey e D T x).run P w = .ok () w

theorem key_fields {d D : Nat} (hgo : ∀ T ty, cmpOk P d T ty = true → KeyAt P D T ty) {H : Imm} {xs : Array Value} (e : Bool) (w : World) : ∀ (fs : List Field) (off : Nat) (ty : Ty), cmpFs P (cmpOk P d) fs off ty = true →
    ∀ x : ty.Data, ty.rd H (fun j => xs[off + j]?) x → off + ty.size ≤ xs.size → (forIn (m := Sem) fs PUnit.unit (fun f _ =>
        if f.name ≠ "_" then do
          let l ← part f.type xs f.offset
          Instr.checkKey e D f.type l
          pure (ForInStep.yield PUnit.unit)
        else pure (ForInStep.yield PUnit.unit))).run P w = .ok PUnit.unit w
  | [], off, ty, h, x, hx, _ => by simp
  | f :: fs, off, ty, h, x, hx, hlx => by
    cases ty with
    | pair a b =>
      simp only [cmpFs] at h
      split at h
      case h_2 => cases h
      rename_i i h1 h2 h3 h4
      split at h
      case h_2 => cases h
      rename_i h5
      have e5 := Nat.eq_of_beq_eq_true h5
      have e2 := Nat.eq_of_beq_eq_true h2
      simp only [Ty.size] at hlx
      obtain ⟨v, p1, p2⟩ := part_rv (off := off) h4 h3 e5 (xs := xs) (x := x.1) hx.1 (by omega) w
      have he := hgo _ _ h4 H w v x.1 e p2
      have hr := key_fields hgo e w fs (off + a.size) b h x.2 (by
        refine Ty.rd_congr b _ _ _ (fun j _ => ?_) hx.2
        rw [Nat.add_assoc]) (by omega)
      have hname : f.name ≠ "_" := by simpa using h1
      rw [List.forIn_cons]
      simp only [Sem.run_bind, if_pos hname, e2, p1, Result.andThen_ok, he, Sem.run_pure]
      exact hr
    | _ => cases h

theorem key_sound : ∀ (d : Nat) (T : Nat) (ty : Ty) (m : Nat), cmpOk P d T ty = true → KeyAt P (d + m) T ty
  | 0, _, _, _, h => by cases h
  | d + 1, T, ty, m, h => by
    intro H w x a e hx
    rw [show d + 1 + m = (d + m) + 1 by omega]
    unfold cmpOk at h
    split at h
    · rename_i u
      rw [int_of_rv hx]; simp [Instr.checkKey, run_underlying u]
    · rename_i u
      rw [bool_of_rv hx]; simp [Instr.checkKey, run_underlying u]
    · rename_i u
      rw [uint_of_rv hx]; simp [Instr.checkKey, run_underlying u]
    · rename_i t u fs hu
      split at h
      case h_2 => cases h
      obtain ⟨x1, x2, x3⟩ := hx
      have agg : ∀ {v : Value}, isAggV v = true → ∃ vs, v = .agg vs := fun {v} h => by cases v <;> simp_all [isAggV]
      obtain ⟨xs, rfl⟩ := agg x1
      simp only [Value.cells] at x2 x3
      have := key_fields (D := d + m) (fun T ty h => key_sound d T ty m h) e w fs.toList 0 _ h a (by simpa using x3) (by omega)
      unfold Instr.checkKey
      simp only [Sem.run_bind, run_underlying hu, Result.andThen_ok]
      rw [← Array.forIn_toList, this]
      rfl
    · cases h

theorem findNow_int {H : Imm} (a : Int) : ∀ (es : List MapEntry) (ks : List Int) (i : Nat), KeysRd H .int es ks → Instr.findNow (.int .i64) (.int .i64 a) es i = some (findIx .int a ks es i)
  | [], [], i, _ => rfl
  | [], _ :: _, _, h => h.elim
  | _ :: _, [], _, h => h.elim
  | e :: es, k :: ks, i, h => by
    have he := int_of_rv h.1
    simp only [Instr.findNow, he, Instr.sameNow, if_true, findIx]
    by_cases hk : a = k
    · have : (a == k) = true := by simpa using hk
      rw [this, if_pos (by simpa using hk)]
    · have : (a == k) = false := by simpa using hk
      rw [this, if_neg (by simpa using hk)]
      exact findNow_int a es ks (i + 1) h.2

theorem findAsking_sound {H : Imm} {T : Nat} {ty : Ty} (hc : cmpOk P 20 T ty = true) {x : Value} {a : ty.Data} (hx : ty.rv H x a) (w : World) : ∀ (es : List MapEntry) (ks : List ty.Data) (i : Nat), KeysRd H ty es ks →
    (Instr.findAsking T x es i).run P w = .ok (findIx ty a ks es i) w
  | [], [], i, _ => by simp [Instr.findAsking, findIx]
  | [], _ :: _, _, h => h.elim
  | _ :: _, [], _, h => h.elim
  | e :: es, k :: ks, i, h => by
    have he : (Op.equal T x e.key).run P w = .ok (@decide (a = k) (ty.decEq a k)) w := cmpOk_sound 20 T ty 9980 hc H w x e.key a k hx h.1
    unfold Instr.findAsking findIx
    simp only [Sem.run_bind, he, Result.andThen_ok, Sem.run_ite]
    split
    · simp
    · exact findAsking_sound hc hx w es ks (i + 1) h.2

/-- may a type be a map's key? -/
def keyOk (P : Program) (T : Nat) (ty : Ty) : Bool := match ty, P.underlying T with
  | .int, some (.int .i64) => true
  | .pair _ _, some (.struct _) => cmpOk P 20 T ty
  | _, _ => false

theorem keyOk_sound {T : Nat} {ty : Ty} (h : keyOk P T ty = true) :
    (∀ (H : Imm) (x : Value) (a : ty.Data) (w : World) (e : Bool), ty.rv H x a → (Instr.checkKey e 10000 T x).run P w = .ok () w) ∧
    (∀ (H : Imm) (es : List MapEntry) (ks : List ty.Data) (x : Value) (a : ty.Data) (w : World), ty.rv H x a → KeysRd H ty es ks → (Instr.findKey T x es).run P w = .ok (findIx ty a ks es 0) w) ∧
    (∀ (H : Imm) (x y : Value) (a : ty.Data), ty.rv H x a → ty.rv H y a → Instr.sameBits 10000 x y = true) := by
  unfold keyOk at h
  split at h
  · rename_i hu
    have hc : cmpOk P 20 T .int = true := by unfold cmpOk; rw [hu]
    refine ⟨fun H x a w e hx => key_sound 20 T .int 9980 hc H w x a e hx, fun H es ks x a w hx hk => ?_, fun H x y a hx hy => ?_⟩
    · rw [int_of_rv hx]
      simp only [Instr.findKey, Sem.run_bind, run_underlying hu, Result.andThen_ok, findNow_int a es ks 0 hk, Sem.run_pure]
    · rw [int_of_rv hx, int_of_rv hy]; simp [Instr.sameBits]
  · rename_i t u fs hu
    have hc := h
    refine ⟨fun H x a w e hx => key_sound 20 T _ 9980 hc H w x a e hx, fun H es ks x a w hx hk => ?_, fun H x y a hx hy => ?_⟩
    · have hfa := findAsking_sound hc hx w es ks 0 hk
      simp only [Instr.findKey, Sem.run_bind, run_underlying hu, Result.andThen_ok]
      cases es with
      | nil =>
        cases ks with
        | nil => simp [Instr.findNow, findIx]
        | cons k ks => exact hk.elim
      | cons e es =>
        have : Instr.findNow (.struct fs) x (e :: es) 0 = none := by simp [Instr.findNow, Instr.sameNow]
        rw [this]
        exact hfa
    · have hp := cmp_plain 20 T _ hc H
      have agg : ∀ {v : Value}, isAggV v = true → ∃ vs, v = .agg vs := fun {v} h => by cases v <;> simp_all [isAggV]
      obtain ⟨xs, rfl⟩ := agg hx.1
      obtain ⟨ys, rfl⟩ := agg hy.1
      have x2 := hx.2.1
      have y2 := hy.2.1
      simp only [Value.cells] at x2 y2
      have hpl := hp (fun i => xs[i]?) (fun i => ys[i]?) a hx.2.2 hy.2.2
      have hxy : xs = ys := by
        refine Array.ext (by omega) (fun i h1 h2 => ?_)
        obtain ⟨v, e1, e2, _⟩ := hpl i (by omega)
        rw [Array.getElem?_eq_getElem h1] at e1
        rw [Array.getElem?_eq_getElem h2] at e2
        simp at e1 e2
        rw [e1, e2]
      subst hxy
      unfold Instr.sameBits
      simp only [beq_self_eq_true, Bool.true_and, List.all_eq_true]
      intro p hp'
      obtain ⟨i, hi⟩ := List.getElem?_of_mem hp'
      rw [List.getElem?_zip_eq_some] at hi
      obtain ⟨h1, h2⟩ := hi
      have e : p.1 = p.2 := by rw [h1] at h2; simpa using h2
      rw [← e]
      have hlt := (List.getElem?_eq_some_iff.1 h1).1
      obtain ⟨v, e1, _, e3⟩ := hpl i (by simp at hlt; omega)
      have : xs.toList[i]? = some v := by simpa using e1
      rw [h1] at this
      simp at this
      rw [this]
      exact sameBits_plain e3
  · cases h

end

def isIface : TypeDesc → Bool
  | .struct _ => true
  | .array _ _ => true
  | .interface _ => true
  | _ => false

def isTyInt : Ty → Bool
  | .int => true
  | _ => false

/-- a type's row, checked -/
def tiOk (P : Program) (ti : TI) : Bool :=
  match P.info? ti.id, P.underlying ti.id with
  | some i, some d => match i.zero with
    | some z => (Nat.beq i.size ti.size && Nat.beq i.bytes ti.bytes && sameVs z.cells.toList ti.zero && beqB (isAggV z) ti.agg && ti.zero.all (·.oneCell') && Nat.beq ti.zero.length ti.size) &&
      (ti.fields.all fun p => (P.info? p.2).isSome) &&
      (match ti.agg with
        | true => (match d with | .struct fs => sameFields fs.toList ti.fields | _ => false) && !ti.sl
        | false => !(isIface d) && (match ti.sl, d with | true, .slice e => Nat.beq e ti.elem | true, _ => false | false, _ => true) &&
            (match ti.ty, d with | .int, .int .i64 => true | .int, _ => false | .uint k, .int k' => sameKind k k' | .uint _, _ => false | _, _ => true) && (match ti.fields with | [] => true | _ => false)) &&
      (match tyKnown ti.ty with | true => beqB ti.ty.agg ti.agg && Nat.beq ti.ty.size ti.size && Nat.ble 1 ti.size && Nat.ble 1 ti.bytes | false => true) &&
      (match ti.cmp with
        | true => (match ti.ty with | .pair _ _ => !(P.eqGuardType P.depth ti.id) | .bool => true | _ => false) && cmpOk P 20 ti.id ti.ty
        | false => true) &&
      (match ti.mp, d with | true, .map k e => Nat.beq k ti.key && Nat.beq e ti.elem | true, _ => false | false, _ => true) &&
      (match tyKnown ti.ty with | true => (match zIs ti.ty ti.zero with | some [] => true | _ => false) | false => true) &&
      (match ti.kq with | true => keyOk P ti.id ti.ty | false => true)
    | none => false
  | _, _ => false

theorem tiOk_ok {ti : TI} (h : tiOk P ti = true) : ti.ok P := by
  unfold tiOk at h
  split at h
  case h_2 => cases h
  rename_i i d hi hd
  split at h
  case h_2 => cases h
  rename_i z hz
  simp only [Bool.and_eq_true] at h
  obtain ⟨⟨⟨⟨⟨⟨⟨⟨⟨⟨⟨⟨a1, a2⟩, a3⟩, a4⟩, a5⟩, a6⟩, a7⟩, a8⟩, a9⟩, a10⟩, a11⟩, a12⟩, a13⟩ := h
  refine ⟨⟨i, z, hi, Nat.eq_of_beq_eq_true a1, Nat.eq_of_beq_eq_true a2, hz, sameVs_eq a3, beqB_eq a4⟩, fun v hv => List.all_eq_true.1 a5 v hv, Nat.eq_of_beq_eq_true a6, ?_, ?_, ?_, ?_, ?_, ?_, ?_, ?_, ?_, ?_, ?_⟩
  · intro ha
    rw [ha] at a8
    simp only [Bool.and_eq_true] at a8
    split at a8
    · rename_i fs
      obtain ⟨e1, e2⟩ := sameFields_eq a8.1
      exact ⟨fs, hd, by simpa using e1, fun k p hk => by simpa using e2 k p hk⟩
    · cases a8.1
  · intro k p hk
    have := List.all_eq_true.1 a7 p (List.mem_of_getElem? hk)
    exact Option.isSome_iff_exists.1 this
  · intro ha
    rw [ha] at a8
    simp only [Bool.and_eq_true, Bool.not_eq_true'] at a8
    obtain ⟨⟨⟨b1, b2⟩, b3⟩, b4⟩ := a8
    refine ⟨d, hd, fun fs e => by subst e; simp [isIface] at b1, fun n e he => by subst he; simp [isIface] at b1, fun ms e => by subst e; simp [isIface] at b1, fun hs => ?_, fun ht => ?_, fun k ht => ?_⟩
    · rw [hs] at b2
      split at b2
      · rw [Nat.eq_of_beq_eq_true b2]
      · cases b2
      · contradiction
    · rw [ht] at b3
      cases d with
      | int k => cases k <;> first | rfl | cases b3
      | _ => cases b3
    · rw [ht] at b3
      cases d with
      | int k' => simp [sameKind] at b3; rw [b3]
      | _ => cases b3
  · intro hs
    cases ha : ti.agg with
    | false => rfl
    | true => rw [ha] at a8; simp [hs] at a8
  · intro hm
    rw [hm] at a11
    cases d with
    | map k e => simp only [Bool.and_eq_true] at a11; rw [hd, Nat.eq_of_beq_eq_true a11.1, Nat.eq_of_beq_eq_true a11.2]
    | _ => cases a11
  · intro hk H
    rw [hk] at a12
    simp only at a12
    split at a12
    · rename_i hz
      obtain ⟨us, e1, _, e3⟩ := zIs_rd H _ _ _ hz
      rw [List.append_nil] at e1
      rw [e1]; exact e3
    · cases a12
  · intro hk
    rw [hk] at a13
    exact keyOk_sound a13
  · intro ha
    rw [ha] at a8
    simp only [Bool.and_eq_true] at a8
    have := a8.2
    split at this
    · assumption
    · cases this
  · intro hk
    rw [hk] at a9
    simp only [Bool.and_eq_true] at a9
    exact ⟨beqB_eq a9.1.1.1, Nat.eq_of_beq_eq_true a9.1.1.2⟩
  · intro hk
    rw [hk] at a9
    simp only [Bool.and_eq_true] at a9
    exact ⟨Nat.le_of_ble_eq_true a9.1.2, Nat.le_of_ble_eq_true a9.2⟩
  · intro hc H x y a b w hx hy op X Y hop
    rw [hc] at a10
    simp only [Bool.and_eq_true] at a10
    obtain ⟨c1, c2⟩ := a10
    have he := cmpOk_sound 20 ti.id ti.ty 9980 c2 H w x y a b hx hy
    rcases ti with ⟨id, ty, size, agg, fields, sl, elem, bytes, zero, cmp⟩
    simp only at *
    split at c1
    · rename_i t u
      have agg : ∀ {v : Value}, isAggV v = true → ∃ vs, v = .agg vs := fun {v} h => by cases v <;> simp_all [isAggV]
      obtain ⟨xs, rfl⟩ := agg hx.1
      obtain ⟨ys, rfl⟩ := agg hy.1
      simp only [Bool.not_eq_true'] at c1
      rcases hop with rfl | rfl
      · simp only [Sem.run_bind, run_eqGuard_agg w _ _ _ _ _ _ c1, Result.andThen_ok, run_eql_struct w, he]
      · simp only [Sem.run_bind, run_eqGuard_agg w _ _ _ _ _ _ c1, Result.andThen_ok, run_neq_struct w, he]
    · have ex := bool_of_rv hx
      have ey := bool_of_rv hy
      subst ex
      subst ey
      have he' : (Op.equal id (.bool a) (.bool b)).run P w = .ok (@decide (a = b) (Ty.bool.decEq a b)) w := he
      rcases hop with rfl | rfl
      · have g : (eqGuard .eql id X Y (.bool a) (.bool b)).run P w = .ok () w := by simp [eqGuard]
        have g2 : binOp .eql id (.bool a) (.bool b) = (do pure (.bool (← Op.equal id (.bool a) (.bool b)))) := rfl
        simp only [Sem.run_bind, g, Result.andThen_ok, g2, he', Sem.run_pure]
      · have g : (eqGuard .neq id X Y (.bool a) (.bool b)).run P w = .ok () w := by simp [eqGuard]
        have g2 : binOp .neq id (.bool a) (.bool b) = (do pure (.bool (!(← Op.equal id (.bool a) (.bool b))))) := rfl
        simp only [Sem.run_bind, g, Result.andThen_ok, g2, he', Sem.run_pure]
    · cases c1

theorem ti_all {l : List TI} (h : l.all (tiOk P) = true) : ∀ T x, findTI l T = some x → x.id = T ∧ x.ok P := by
  induction l with
  | nil => intro T x hx; simp [findTI] at hx
  | cons t r ih =>
    intro T x hx
    simp only [List.all_cons, Bool.and_eq_true] at h
    simp only [findTI] at hx
    split at hx
    · rename_i hb
      simp at hx; subst hx
      exact ⟨Nat.eq_of_beq_eq_true hb, tiOk_ok h.1⟩
    · exact ih h.2 T x hx

end
end Go.X
/-
  From a law's arguments, as the statement reads them, to typed data; from the law's result back to the statement.
-/
namespace Go.X
open Go.RowKit (Below)
open Go.Proofs.Ytoijahccalbjiaa

def Hof (w : World) : Imm := fun b => match w.heap[b]? with | some (.cells c _ _) => some (.cells c) | _ => none

theorem good_Hof (w : World) : Good (Hof w) w := by
  intro b c h
  unfold Hof at h
  split at h
  · rename_i c' T fr e; simp at h; subst h; exact ⟨T, fr, e⟩
  · cases h

/-- how large data are: each integer fits its kind; no list is longer than 'N' -/
def Ty.fits (N : Nat) : (t : Ty) → t.Data → Prop
  | .int, x => In64 x
  | .bool, _ => True
  | .uint k, x => k.min ≤ x ∧ x ≤ k.max
  | .slice t, l => l.length ≤ N ∧ ∀ x ∈ l, t.fits N x
  | .unit, _ => True
  | .pair a b, d => a.fits N d.1 ∧ b.fits N d.2
  | .map k v, l => l.length ≤ N ∧ ∀ x ∈ l, k.fits N x.1 ∧ v.fits N x.2

theorem Ty.fits_mono {N M : Nat} (h : N ≤ M) : ∀ (t : Ty) (d : t.Data), t.fits N d → t.fits M d
  | .int, _, k => k
  | .bool, _, k => k
  | .uint _, _, k => k
  | .unit, _, k => k
  | .slice t, _, k => ⟨Nat.le_trans k.1 h, fun x hx => t.fits_mono h x (k.2 x hx)⟩
  | .pair a b, _, k => ⟨a.fits_mono h _ k.1, b.fits_mono h _ k.2⟩
  | .map k v, _, q => ⟨Nat.le_trans q.1 h, fun x hx => ⟨k.fits_mono h _ (q.2 x hx).1, v.fits_mono h _ (q.2 x hx).2⟩⟩

def rdFs (P : Program) (go : Nat → Ty → Bool) : List Field → Nat → Ty → Bool
  | [], _, .unit => true
  | f :: fs, off, .pair a b => Nat.beq f.offset off && Nat.beq (P.cellsOf f.type) a.size && go f.type a && rdFs P go fs (off + a.size) b
  | _, _, _ => false

def rdOk (P : Program) : Nat → Nat → Ty → Bool
  | 0, _, _ => false
  | d + 1, T, ty => match ty, P.underlying T with
    | .int, some (.int .i64) => true
    | .bool, some .bool => true
    | .uint k, some (.int k') => sameKind k k'
    | .slice t, some (.slice e) => Nat.beq (P.cellsOf e) t.size && Nat.ble 1 t.size && rdOk P d e t
    | .pair a b, some (.struct fs) => Nat.beq (P.cellsOf T) (Ty.pair a b).size && rdFs P (rdOk P d) fs.toList 0 (.pair a b)
    | _, _ => false

section
variable {P : Program} {K : Type} {enc : TypeId × Value → K} {w : World}

theorem one_le (d : DataW K) : 1 ≤ Rows.uptoBulk d := by
  cases d with
  | lit l => cases l <;> simp [Rows.uptoBulk]
  | _ => simp [Rows.uptoBulk]

theorem length_le (l : List (DataW K)) : l.length ≤ Rows.uptoBulkAll l := by
  induction l with
  | nil => simp [Rows.uptoBulkAll]
  | cons x r ih => have := one_le x; simp only [Rows.uptoBulkAll, List.length_cons]; omega

theorem part_le {d : DataW K} {l : List (DataW K)} (h : d ∈ l) : Rows.uptoBulk d ≤ Rows.uptoBulkAll l := by
  induction l with
  | nil => cases h
  | cons x r ih =>
    simp only [Rows.uptoBulkAll]
    cases List.mem_cons.1 h with
    | inl e => subst e; omega
    | inr e => have := ih e; omega

theorem list_of {α : Type} {Q : Nat → α → Prop} : ∀ (n : Nat), (∀ i, i < n → ∃ y, Q i y) → ∃ l : List α, l.length = n ∧ ∀ i y, l[i]? = some y → Q i y
  | 0, _ => ⟨[], rfl, fun i y h => by simp at h⟩
  | n + 1, h => by
    obtain ⟨l, h1, h2⟩ := list_of n (fun i hi => h i (by omega))
    obtain ⟨y, hy⟩ := h n (by omega)
    refine ⟨l ++ [y], by simp [h1], fun i z hz => ?_⟩
    by_cases hi : i < l.length
    · rw [List.getElem?_append_left hi] at hz; exact h2 i z hz
    · rw [List.getElem?_append_right (by omega)] at hz
      have : i = n := by
        by_cases e : i - l.length = 0
        · omega
        · obtain ⟨k, hk⟩ : ∃ k, i - l.length = k + 1 := ⟨i - l.length - 1, by omega⟩
          rw [hk] at hz; simp at hz
      subst this
      rw [← h1] at hz
      simp at hz; subst hz
      exact hy

def Reads (P : Program) (w : World) (enc : TypeId × Value → K) (T : Nat) (ty : Ty) : Prop :=
  ∀ (fuel : Nat) (cs : List Value) (x : DataW K × List MemPlace), DataW.trod enc P w 0 (fun _ => true) true fuel T cs = some x → Rows.uptoBulk x.1 ≤ 1048576 →
    ∃ d : ty.Data, ty.rd (Hof w) (fun i => cs[i]?) d ∧ cs.length = ty.size ∧ ty.fits (Rows.uptoBulk x.1) d

theorem wf_i64 {n : Int} (h : (Lit.int .i64 n).wf = true) : In64 n := by
  simp [Lit.wf, IntKind.min, IntKind.max, IntKind.signed, IntKind.bits] at h
  exact h

theorem reads_fields {go : Nat → Ty → Bool} (hgo : ∀ T ty, go T ty = true → Reads P w enc T ty) {n : Nat} {cs : List Value} :
    ∀ (fs : List Field) (off : Nat) (ty : Ty) (xs : List (DataW K × List MemPlace)), rdFs P go fs off ty = true → xs.length = fs.length →
      (∀ (i : Nat) (f : Field), fs[i]? = some f → DataW.trod enc P w 0 (fun _ => true) true n f.type ((cs.drop f.offset).take (P.cellsOf f.type)) = xs[i]?) → Rows.uptoBulkAll (xs.map (·.1)) ≤ 1048576 →
      ∃ d : ty.Data, ty.rd (Hof w) (fun i => cs[off + i]?) d ∧ ty.fits (Rows.uptoBulkAll (xs.map (·.1))) d
  | [], off, ty, xs, h, hl, hf, hb => by
    cases ty <;> simp [rdFs] at h
    exact ⟨(), trivial, trivial⟩
  | f :: fs, off, ty, [], h, hl, hf, hb => by simp at hl
  | f :: fs, off, ty, x :: xs, h, hl, hf, hb => by
    cases ty <;> simp [rdFs] at h
    rename_i a b
    obtain ⟨⟨⟨h1, h2⟩, h3⟩, h4⟩ := h
    simp only [List.map_cons, Rows.uptoBulkAll] at hb
    have h0 := hf 0 f (by simp)
    simp only [List.getElem?_cons_zero] at h0
    obtain ⟨d, k1, k2, k3⟩ := hgo _ _ h3 _ _ _ h0 (by omega)
    obtain ⟨d', g1, g2⟩ := reads_fields hgo fs (off + a.size) b xs h4 (by simpa using hl) (fun i f' hi => by simpa using hf (i + 1) f' (by simpa using hi)) (by omega)
    refine ⟨(d, d'), ⟨?_, ?_⟩, ?_, ?_⟩
    · refine Ty.rd_congr a _ _ _ (fun i hi => ?_) k1
      rw [List.getElem?_take_of_lt (by omega), List.getElem?_drop, h1]
    · refine Ty.rd_congr b _ _ _ (fun i hi => ?_) g1
      rw [Nat.add_assoc]
    · exact a.fits_mono (by simp [Rows.uptoBulkAll]) _ k3
    · exact b.fits_mono (by simp [Rows.uptoBulkAll]) _ g2

theorem reads_sound : ∀ (d T : Nat) (ty : Ty), rdOk P d T ty = true → Reads P w enc T ty
  | 0, _, _, h => by cases h
  | d + 1, T, ty, h => by
    intro fuel cs x hx hbulk
    unfold rdOk at h
    split at h
    · rename_i hu
      obtain ⟨n, rfl, rfl, hw⟩ := DataW.trod_int hu hx
      exact ⟨n, rfl, rfl, wf_i64 hw⟩
    · rename_i hu
      obtain ⟨b, rfl, rfl⟩ := DataW.trod_bool hu hx
      exact ⟨b, rfl, rfl, trivial⟩
    · rename_i k k' hu
      obtain ⟨n, rfl, rfl, hw⟩ := DataW.trod_int hu hx
      have : k = k' := by simpa [sameKind] using h
      subst this
      refine ⟨n, rfl, rfl, ?_⟩
      simp [Lit.wf] at hw
      exact hw
    · rename_i t e hu
      simp only [Bool.and_eq_true] at h
      obtain ⟨⟨h1, h2⟩, h3⟩ := h
      have e1 := Nat.eq_of_beq_eq_true h1
      have e2 := Nat.le_of_ble_eq_true h2
      rcases DataW.trod_slice hu hx with ⟨rfl, rfl⟩ | ⟨a, len, cap, elems, rest, n, _, rfl, rfl, hb, hl, hm, hlen, hel, _, _⟩
      · refine ⟨[], ⟨none, 0, 0, rfl, rfl, Nat.le_refl _, by simp, fun _ => rfl, fun h => absurd rfl h⟩, rfl, by simp, fun x hx => by simp at hx⟩
      · simp only [Rows.uptoBulk] at hbulk
        have key : ∀ i, i < len → ∃ y : t.Data, (∃ blk, Hof w a.block = some (.cells blk) ∧ a.spot = none ∧ t.rd (Hof w) (fun j => blk[a.off + i * t.size + j]?) y) ∧ t.fits (Rows.uptoBulkAll (elems.map (·.1))) y := by
          intro i hi
          have h0 := hel i hi
          have hxi : elems[i]? = some elems[i] := List.getElem?_eq_getElem (by omega)
          rw [hxi, Option.bind_eq_some_iff] at h0
          obtain ⟨cl, c1, c2⟩ := h0
          have hle : Rows.uptoBulk elems[i].1 ≤ Rows.uptoBulkAll (elems.map (·.1)) := part_le (List.mem_map.2 ⟨elems[i], List.getElem_mem _, rfl⟩)
          obtain ⟨y, y1, y2, y3⟩ := reads_sound d e t h3 _ _ _ c2 (by omega)
          unfold World.cells? at c1
          rw [if_pos (Nat.zero_le _), e1] at c1
          have hget : ∀ j, j < t.size → w.cell? ((a.add (i * t.size)).add j) = cl[j]? := fun j hj => by
            have := mapM_some_get c1 j j (by simp [hj])
            simpa using this
          have hclen : cl.length = t.size := by simpa using mapM_some_length c1
          have c00 := hget 0 (by omega)
          have hne : cl[0]? ≠ none := by rw [List.getElem?_eq_getElem (by omega)]; simp
          rw [← c00] at hne
          -- the block
          have hblk : ∃ blk T fr, w.heap[a.block]? = some (.cells blk T fr) := by
            unfold World.cell? at hne
            have hbk : ((a.add (i * t.size)).add 0).block = a.block := by unfold Addr.add; simp; split <;> rfl
            rw [hbk] at hne
            split at hne
            · rename_i c T fr e; exact ⟨c, T, fr, e⟩
            · exact absurd rfl hne
          obtain ⟨blk, T', fr, hblk⟩ := hblk
          have hspot0 : ((a.add (i * t.size)).add 0).spot = none := by
            unfold World.cell? at hne
            have hbk : ((a.add (i * t.size)).add 0).block = a.block := by unfold Addr.add; simp; split <;> rfl
            rw [hbk, hblk] at hne
            simp only at hne
            cases hs : ((a.add (i * t.size)).add 0).spot with
            | none => rfl
            | some s => rw [hs] at hne; simp at hne
          have hH : Hof w a.block = some (.cells blk) := by unfold Hof; rw [hblk]
          refine ⟨y, ⟨blk, hH, ?_, ?_⟩, t.fits_mono hle _ y3⟩
          · -- the first element shows that the address is plain
            have h00 := hel 0 (by omega)
            have hx0 : elems[0]? = some elems[0] := List.getElem?_eq_getElem (by omega)
            rw [hx0, Option.bind_eq_some_iff] at h00
            obtain ⟨cl0, d1, _⟩ := h00
            unfold World.cells? at d1
            rw [if_pos (Nat.zero_le _), e1] at d1
            have g0 := mapM_some_get d1 0 0 (by rw [List.getElem?_range (by omega)])
            have hl0 : cl0.length = t.size := by simpa using mapM_some_length d1
            rw [List.getElem?_eq_getElem (by omega)] at g0
            simp only [Nat.zero_mul] at g0
            have ea : (a.add 0).add 0 = a := by unfold Addr.add; simp
            rw [ea] at g0
            unfold World.cell? at g0
            rw [hblk] at g0
            simp only at g0
            cases hs : a.spot with
            | none => rfl
            | some s => rw [hs] at g0; simp at g0
          · refine Ty.rd_congr t _ _ _ (fun j hj => ?_) y1
            rw [← hget j hj]
            unfold World.cell?
            have hbk : ((a.add (i * t.size)).add j).block = a.block := by unfold Addr.add; split <;> split <;> rfl
            have hoff : ((a.add (i * t.size)).add j).off = a.off + i * t.size + j := by
              unfold Addr.add; split <;> split <;> simp_all
            have hsp : ((a.add (i * t.size)).add j).spot = none := by
              have hs0 : (a.add (i * t.size)).spot = none := by
                have : (a.add (i * t.size)).add 0 = a.add (i * t.size) := by simp [Addr.add]
                rw [this] at hspot0; exact hspot0
              unfold Addr.add at hs0 ⊢
              split <;> split <;> simp_all
            rw [hbk, hblk, hoff, hsp]
            simp
        obtain ⟨l, l1, l2⟩ := list_of len key
        refine ⟨l, ⟨some a, len, cap, rfl, l1.symm, hl, ?_, (fun h => by cases h), fun hne => ?_⟩, rfl, ?_, ?_⟩
        · have := length_le (elems.map (·.1)); simp at this; omega
        · have hz : 0 < l.length := List.length_pos_iff.2 hne
          obtain ⟨blk, q1, q2, _⟩ := (l2 0 l[0] (List.getElem?_eq_getElem hz)).1
          refine ⟨a.block, a.off, blk, ?_, q1, fun i y hy => ?_⟩
          · rcases a with ⟨b, o, s⟩; simp only at q2; subst q2; rfl
          · obtain ⟨blk', q3, _, q4⟩ := (l2 i y hy).1
            rw [q1] at q3
            simp at q3; subst q3
            exact q4
        · simp only [Rows.uptoBulk]
          have := length_le (elems.map (·.1))
          simp at this
          omega
        · intro y hy
          obtain ⟨i, hi⟩ := List.getElem?_of_mem hy
          exact t.fits_mono (by simp only [Rows.uptoBulk]; omega) _ (l2 i y hi).2
    · rename_i a b fs hu
      simp only [Bool.and_eq_true] at h
      obtain ⟨h1, h2⟩ := h
      obtain ⟨xs, n, _, rfl, hlen, hxl, hf⟩ := DataW.trod_struct hu hx
      simp only [Rows.uptoBulk] at hbulk
      obtain ⟨y, y1, y2⟩ := reads_fields (fun T ty h => reads_sound d T ty h) (n := n) (cs := cs) fs.toList 0 (.pair a b) xs h2 (by simpa using hxl) (fun i f hi => hf i f (by simpa using hi)) (by omega)
      refine ⟨y, by simpa using y1, by rw [hlen]; exact Nat.eq_of_beq_eq_true h1, ?_⟩
      exact Ty.fits_mono (by simp only [Rows.uptoBulk]; omega) (.pair a b) _ y2
    · cases h

end
end Go.X
/-
  A law's contract, as its statement wants it, from what is known of its calls.
-/
namespace Go.X
open Go.RowKit (Below)
open Go.ChangeShapes Go.WideShapes Go.ChangeAt Go.RowKit
open Go.Proofs.Ytoijahccalbjiaa

def fitsAll (N : Nat) : (ts : List Ty) → PD (ts.map Par.val) → Prop
  | [], _ => True
  | t :: ts, d => t.fits N d.1 ∧ fitsAll N ts d.2

/-- a law: it returns true -/
def lawSpec (ts : List Ty) : Spec := ⟨ts.map Par.val, [.bool], false, fun d => [fitsAll 1048576 ts d], fun _ => (true, ())⟩

def parsOk (P : Program) : List Nat → List Ty → Bool
  | [], [] => true
  | T :: Ts, t :: ts => rdOk P 20 T t && (P.readableRec T && decide (T < P.types.size)) && parsOk P Ts ts
  | _, _ => false

section
variable {P : Program} {K : Type} {enc : TypeId × Value → K} {W W' : World}

theorem trodAll_below (hl : laidOutB P = true) (hb : Below W.heap.size W W') : ∀ (Ts : List Nat) (ts : List Ty) (vs : List Value) (ds : List (DataW K)) (ps : List MemPlace), parsOk P Ts ts = true →
    DataW.TrodAll enc P W 0 (fun _ => true) true Ts vs ds ps → (∀ x ∈ ps, x.block < W.heap.size) → DataW.TrodAll enc P W' 0 (fun b => decide (b < W.heap.size)) true Ts vs ds ps
  | [], ts, vs, ds, ps, _, h, _ => by
    obtain ⟨rfl, rfl, rfl⟩ := trodAll_nil h
    exact trodAll_mk0
  | T :: Ts, [], vs, ds, ps, hp, _, _ => by cases hp
  | T :: Ts, t :: ts, vs, ds, ps, hp, h, hlt => by
    obtain ⟨v, vs', d, ds', p, q, rfl, rfl, rfl, h1, h2⟩ := trodAll_cons h
    simp only [parsOk, Bool.and_eq_true] at hp
    obtain ⟨⟨_, g1, g2⟩, g3⟩ := hp
    exact trodAll_cons_mk (Below.trod hl g1 (of_decide_eq_true g2) h1 hb (fun x hx => hlt x (List.mem_append_left _ hx)))
      (trodAll_below hl hb Ts ts vs' ds' q g3 h2 (fun x hx => hlt x (List.mem_append_right _ hx)))

theorem aggV_of {T : Nat} {t : Ty} {r : Reach} {b0 : Nat} {v : Value} (h : rdOk P 20 T t = true) (hv : Value.okWide P W r b0 T v) : isAggV v = t.agg := by
  unfold rdOk at h
  split at h
  · rename_i hu; obtain ⟨n, rfl⟩ := okWide_int hu hv; rfl
  · rename_i hu; obtain ⟨n, rfl⟩ := okWide_bool hu hv; rfl
  · rename_i hu; obtain ⟨n, rfl⟩ := okWide_int hu hv; rfl
  · rename_i hu
    unfold Value.okWide at hv
    rw [hu] at hv
    simp only [Cell.okWide, hu] at hv
    cases v with
    | agg vs => simp [Cell.ok, hu] at hv
    | _ => rfl
  · rename_i hu
    unfold Value.okWide at hv
    rw [hu] at hv
    obtain ⟨cs, rfl, _⟩ := hv
    rfl
  · cases h

theorem pvs_of {r : Reach} {b0 : Nat} : ∀ (Ts : List Nat) (ts : List Ty) (vs : List Value) (ds : List (DataW K)) (ps : List MemPlace), parsOk P Ts ts = true →
    DataW.TrodAll enc P W 0 (fun _ => true) true Ts vs ds ps → (∀ (j : Nat) t v, Ts[j]? = some t → vs[j]? = some v → Value.okWide P W r b0 t v) → Rows.uptoBulkAll ds ≤ 1048576 →
    ∃ d : PD (ts.map Par.val), pvs P (Hof W) (ts.map Par.val) vs d ∧ fitsAll 1048576 ts d
  | [], ts, vs, ds, ps, hp, h, _, _ => by
    obtain ⟨rfl, rfl, rfl⟩ := trodAll_nil h
    cases ts with
    | nil => exact ⟨(), rfl, trivial⟩
    | cons t ts => cases hp
  | T :: Ts, [], vs, ds, ps, hp, _, _, _ => by cases hp
  | T :: Ts, t :: ts, vs, ds, ps, hp, h, hv, hb => by
    obtain ⟨v, vs', d, ds', p, q, rfl, rfl, rfl, h1, h2⟩ := trodAll_cons h
    simp only [parsOk, Bool.and_eq_true] at hp
    obtain ⟨⟨g0, _⟩, g3⟩ := hp
    simp only [Rows.uptoBulkAll] at hb
    obtain ⟨fuel, hf⟩ := h1
    obtain ⟨x, x1, x2, x3⟩ := reads_sound 20 T t g0 fuel _ _ hf (by simp only; omega)
    obtain ⟨y, y1, y2⟩ := pvs_of Ts ts vs' ds' q g3 h2 (fun j t v hj hvj => hv (j + 1) t v (by simpa using hj) (by simpa using hvj)) (by omega)
    refine ⟨(x, y), ⟨⟨aggV_of g0 (hv 0 T v rfl rfl), by simpa using x2, ?_⟩, y1⟩, Ty.fits_mono (by simp only; omega) t x x3, y2⟩
    refine Ty.rd_congr t _ _ _ (fun i _ => ?_) x1
    simp

theorem trodAll_len : ∀ (Ts : List Nat) (ts : List Ty) (vs : List Value) (ds : List (DataW K)) (ps : List MemPlace), parsOk P Ts ts = true → DataW.TrodAll enc P W 0 (fun _ => true) true Ts vs ds ps → ds.length = ts.length := by
  intro Ts
  induction Ts with
  | nil => intro ts vs ds ps hp h; obtain ⟨rfl, rfl, rfl⟩ := trodAll_nil h; cases ts with | nil => rfl | cons => cases hp
  | cons T Ts ih => intro ts vs ds ps hp h; cases ts with
    | nil => cases hp
    | cons t ts =>
      obtain ⟨v, vs', d, ds', p, q, rfl, rfl, rfl, h1, h2⟩ := trodAll_cons h
      simp only [parsOk, Bool.and_eq_true] at hp
      simp [ih ts vs' ds' q hp.2 h2]

theorem law_contract {f : Nat} {fn : Func} {s : ChangeSpec} {ts : List Ty} (hl : laidOutB P = true) (hp : parsOk P fn.params.toList ts = true) (hr : fn.resultTypes = #[4]) (hB : P.underlying 4 = some .bool)
    (hvars : s.vars = []) (hs : ∀ (ds : List (DataW K)), ds.length = ts.length → s.fn K (ds ++ []) = { results := [.lit (.bool true)], args := ds })
    (hf : FnOK P f (lawSpec ts)) (base : Nat) (args : Array Value) (ds gs : List (DataW K)) (before : List MemPlace)
    (hval : ∀ (j : Nat) t v, fn.params[j]? = some t → args[j]? = some v → Value.okWide P W .any base t v)
    (hW : DataW.Whole enc P fn.params.toList s.vars false W args.toList ds gs before) (hk : Rows.uptoSmall K (ds ++ gs) = true) :
    Calls P f args W fun e W' => ∃ v, e = .returned v ∧ s.post enc P fn false true false false W args v W' := by
  have hW' := hW
  obtain ⟨p, q, hA, hV, rfl, hfz, hnd⟩ := hW
  rw [hvars] at hV
  obtain ⟨rfl, rfl⟩ := trodVars_none hV
  simp only [List.append_nil] at hW' hk
  have hbulk : Rows.uptoBulkAll ds ≤ 1048576 := of_decide_eq_true hk
  have hval' : ∀ (j : Nat) t v, fn.params.toList[j]? = some t → args.toList[j]? = some v → Value.okWide P W .any base t v := fun j t v h1 h2 => hval j t v (by simpa using h1) (by simpa using h2)
  obtain ⟨d, d1, d2⟩ := pvs_of fn.params.toList ts args.toList ds p hp hA hval' hbulk
  have hc := hf.calls (Hof W) W args.toList d (good_Hof W) d1 ⟨d2, trivial⟩
  simp only [Array.toArray_toList] at hc
  refine hc.mono fun e W' he => ?_
  obtain ⟨v, H', rfl, hE, hv⟩ := he
  have hvb : v = .bool true := bool_of_rv hv
  subst hvb
  refine ⟨_, rfl, ds, [], p, [], p, [], hW', ?_, ?_, ?_, hE.below.frame _, fun h => by cases h⟩
  · rw [hs ds ?_, hr]
    · exact trodAll_cons_mk (shut_bool hB _) trodAll_mk0
    · exact trodAll_len _ _ _ _ _ hp hA
  · rw [hs ds ?_]
    · exact trodAll_below hl hE.below _ ts _ _ _ hp hA (fun x hx => by simpa using hW'.lt x hx)
    · exact trodAll_len _ _ _ _ _ hp hA
  · rw [hvars, hs ds ?_]
    · rfl
    · exact trodAll_len _ _ _ _ _ hp hA

end
end Go.X
