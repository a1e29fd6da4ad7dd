/-
  The table of types: checked by reckoning.
-/
import Derived.Test.YtafidkjlgchbbaaGreatK4
import Derived.Laws.StructEq
import Derived.ChangeKeysEq
namespace Go.X
open Go.RowKit (Below)

def sameKind (a b : IntKind) : Bool := decide (a = b)

def sameV : Value → Value → Bool
  | .int k n, .int k' n' => (match sameKind k k' with | true => decide (n = n') | false => false)
  | .bool b, .bool b' => (match b, b' with | true, true => true | false, false => true | _, _ => false)
  | .slice none a b, .slice none a' b' => (match Nat.beq a a', Nat.beq b b' with | true, true => true | _, _ => false)
  | .pointer none, .pointer none => true
  | .map none, .map none => true
  | .nilFunc, .nilFunc => true
  | .nilIface, .nilIface => true
  | _, _ => false

theorem sameV_eq {a b : Value} (h : sameV a b = true) : a = b := by
  unfold sameV at h
  split at h
  · split at h
    · rename_i hk; simp [sameKind] at hk h; rw [hk, h]
    · cases h
  · rename_i x y; cases x <;> cases y <;> simp_all
  · split at h
    · rename_i h1 h2; rw [Nat.eq_of_beq_eq_true h1, Nat.eq_of_beq_eq_true h2]
    · cases h
  · rfl
  · rfl
  · rfl
  · rfl
  · cases h

def sameVs : List Value → List Value → Bool
  | [], [] => true
  | a :: r, b :: s => (match sameV a b with | true => sameVs r s | false => false)
  | _, _ => false
theorem sameVs_eq : ∀ {a b : List Value}, sameVs a b = true → a = b
  | [], [], _ => rfl
  | a :: r, b :: s, h => by
    simp only [sameVs] at h
    split at h
    · rename_i h1; rw [sameV_eq h1, sameVs_eq h]
    · cases h
  | [], _ :: _, h => by cases h
  | _ :: _, [], h => by cases h

def beqB : Bool → Bool → Bool
  | true, true => true
  | false, false => true
  | _, _ => false
theorem beqB_eq {a b : Bool} (h : beqB a b = true) : a = b := by cases a <;> cases b <;> simp_all [beqB]

def sameFields : List Field → List (Nat × Nat) → Bool
  | [], [] => true
  | f :: r, p :: s => (match Nat.beq f.offset p.1, Nat.beq f.type p.2 with | true, true => sameFields r s | _, _ => false)
  | _, _ => false
theorem sameFields_eq : ∀ {a : List Field} {b : List (Nat × Nat)}, sameFields a b = true → a.length = b.length ∧ ∀ (k : Nat) (p : Nat × Nat), b[k]? = some p → ∃ f : Field, a[k]? = some f ∧ f.offset = p.1 ∧ f.type = p.2
  | [], [], _ => ⟨rfl, fun k p h => by simp at h⟩
  | f :: r, q :: s, h => by
    simp only [sameFields] at h
    split at h
    · rename_i h1 h2
      obtain ⟨e1, e2⟩ := sameFields_eq h
      refine ⟨by simp [e1], fun k p hk => ?_⟩
      cases k with
      | zero => simp at hk; subst hk; exact ⟨f, by simp, Nat.eq_of_beq_eq_true h1, Nat.eq_of_beq_eq_true h2⟩
      | succ k => simpa using e2 k p (by simpa using hk)
    · cases h
  | [], _ :: _, h => by cases h
  | _ :: _, [], h => by cases h

/-- may values of this type be compared, part by part? -/
def cmpFs (P : Program) (go : Nat → Ty → Bool) : List Field → Nat → Ty → Bool
  | [], _, .unit => true
  | f :: fs, off, .pair a b => match f.name == "_", Nat.beq f.offset off, P.info? f.type, go f.type a with
    | false, true, some i, true => (match Nat.beq i.size a.size with | true => cmpFs P go fs (off + a.size) b | false => false)
    | _, _, _, _ => false
  | _, _, _ => false

def cmpOk (P : Program) : Nat → Nat → Ty → Bool
  | 0, _, _ => false
  | d + 1, T, ty => match ty, P.underlying T with
    | .int, some (.int .i64) => true
    | .bool, some .bool => true
    | .uint k, some (.int k') => sameKind k k'
    | .pair a b, some (.struct fs) => (match P.stoodInHeld T with | false => cmpFs P (cmpOk P d) fs.toList 0 (.pair a b) | true => false)
    | _, _ => false

section
variable {P : Program}

def EqAtTy (P : Program) (D T : Nat) (ty : Ty) : Prop := ∀ (H : Imm) (w : World) (x y : Value) (a b : ty.Data), ty.rv H x a → ty.rv H y b → (Op.equalIn D T x y).run P w = .ok (@decide (a = b) (ty.decEq a b)) w

theorem dec_pair {a b : Ty} (x y : (Ty.pair a b).Data) : @decide (x = y) ((Ty.pair a b).decEq x y) = (@decide (x.1 = y.1) (a.decEq _ _) && @decide (x.2 = y.2) (b.decEq _ _)) := by
  have e := @Prod.ext_iff _ _ x y
  by_cases h1 : x.1 = y.1 <;> by_cases h2 : x.2 = y.2
  · rw [@decide_eq_true _ (_) (e.2 ⟨h1, h2⟩), @decide_eq_true _ (_) h1, @decide_eq_true _ (_) h2]; rfl
  · rw [@decide_eq_false _ (_) (fun h => h2 (e.1 h).2), @decide_eq_true _ (_) h1, @decide_eq_false _ (_) h2]; rfl
  · rw [@decide_eq_false _ (_) (fun h => h1 (e.1 h).1), @decide_eq_false _ (_) h1]; rfl
  · rw [@decide_eq_false _ (_) (fun h => h1 (e.1 h).1), @decide_eq_false _ (_) h1]; rfl

theorem isAgg_cmp {d T : Nat} {ty : Ty} (h : cmpOk P d T ty = true) (w : World) : (isAgg T).run P w = .ok ty.agg w := by
  cases d with
  | zero => cases h
  | succ d =>
    unfold cmpOk at h
    split at h
    · rename_i e; simp [isAgg, run_underlying e, Ty.agg]
    · rename_i e; simp [isAgg, run_underlying e, Ty.agg]
    · rename_i e; simp [isAgg, run_underlying e, Ty.agg]
    · rename_i e; simp [isAgg, run_underlying e, Ty.agg]
    · cases h

theorem part_rv {d T off : Nat} {ty : Ty} {i : TypeInfo} (h : cmpOk P d T ty = true) (hi : P.info? T = some i) (hs : i.size = ty.size) {H : Imm} {xs : Array Value} {x : ty.Data} (hx : ty.rd H (fun j => xs[off + j]?) x)
    (hlen : off + ty.size ≤ xs.size) (w : World) : ∃ v, (part T xs off).run P w = .ok v w ∧ ty.rv H v x := by
  have e1 := isAgg_cmp h w
  have e2 : (sizeOf T).run P w = .ok ty.size w := by simp [sizeOf, typeInfo, hi, hs]
  cases ha : ty.agg with
  | true =>
    refine ⟨.agg (xs.extract off (off + ty.size)), ?_, ?_, ?_, ?_⟩
    · rw [ha] at e1
      simp [part, e1, e2]
    · simp [isAggV, ha]
    · simp [Value.cells]; omega
    · refine Ty.rd_congr ty _ _ _ (fun j hj => ?_) hx
      simp only [Value.cells]
      rw [Array.getElem?_extract]
      rw [if_pos (by omega)]
  | false =>
    have hsz : ty.size = 1 := by
      cases d with
      | zero => cases h
      | succ d =>
        unfold cmpOk at h
        split at h <;> first | (cases h; done) | rfl | (simp [Ty.agg] at ha; done)
    have hget : xs[off]? = some xs[off] := Array.getElem?_eq_getElem (by omega)
    refine ⟨xs[off], ?_, ?_⟩
    · rw [ha] at e1
      simp [part, e1, hget]
    · exact rv_of_scalar ha (Ty.rd_congr ty _ _ _ (fun j hj => by
        have : j = 0 := by omega
        subst this; simp [hget]) hx)

theorem cmpFs_sound {d D : Nat} (hgo : ∀ T ty, cmpOk P d T ty = true → EqAtTy P D T ty) {H : Imm} {xs ys : Array Value} (w : World) : ∀ (fs : List Field) (off : Nat) (ty : Ty), cmpFs P (cmpOk P d) fs off ty = true →
    ∀ x y : ty.Data, ty.rd H (fun j => xs[off + j]?) x → ty.rd H (fun j => ys[off + j]?) y → off + ty.size ≤ xs.size → off + ty.size ≤ ys.size →
      (Op.eqFields D xs ys fs).run P w = .ok (@decide (x = y) (ty.decEq x y)) w
  | [], off, ty, h, x, y, hx, hy, _, _ => by
    cases ty with
    | unit => simp [Op.eqFields]
    | _ => cases h
  | f :: fs, off, ty, h, x, y, hx, hy, hlx, hly => by
    cases ty with
    | pair a b =>
      simp only [cmpFs] at h
      split at h
      case h_2 => cases h
      rename_i i h1 h2 h3 h4
      split at h
      case h_2 => cases h
      rename_i h5
      have e5 := Nat.eq_of_beq_eq_true h5
      have e2 := Nat.eq_of_beq_eq_true h2
      simp only [Ty.size] at hlx hly
      obtain ⟨v, p1, p2⟩ := part_rv (off := off) h4 h3 e5 (xs := xs) (x := x.1) hx.1 (by omega) w
      obtain ⟨u, q1, q2⟩ := part_rv (off := off) h4 h3 e5 (xs := ys) (x := y.1) hy.1 (by omega) w
      have he := hgo _ _ h4 H w v u x.1 y.1 p2 q2
      have hr := cmpFs_sound hgo w fs (off + a.size) b h x.2 y.2 (by
        refine Ty.rd_congr b _ _ _ (fun j _ => ?_) hx.2
        rw [Nat.add_assoc]) (by
        refine Ty.rd_congr b _ _ _ (fun j _ => ?_) hy.2
        rw [Nat.add_assoc]) (by omega) (by omega)
      have hname : f.name ≠ "_" := by simpa using h1
      rw [dec_pair]
      unfold Op.eqFields
      rw [if_pos hname, e2]
      simp only [Sem.run_bind, p1, q1, he, Result.andThen_ok, Sem.run_ite]
      cases hd : @decide (x.1 = y.1) (a.decEq x.1 y.1) with
      | true => simpa using hr
      | false => simp
    | _ => cases h

theorem cmpOk_sound : ∀ (d : Nat) (T : Nat) (ty : Ty) (m : Nat), cmpOk P d T ty = true → EqAtTy P (d + m) T ty
  | 0, _, _, _, h => by cases h
  | d + 1, T, ty, m, h => by
    intro H w x y a b hx hy
    rw [show d + 1 + m = (d + m) + 1 by omega]
    unfold cmpOk at h
    split at h
    · rename_i e
      rw [int_of_rv hx, int_of_rv hy, run_equalIn_int w _ _ _ _ _ _ e]
      congr 1
    · rename_i e
      rw [bool_of_rv hx, bool_of_rv hy, run_equalIn_bool' w _ _ _ _ e]
      congr 1
    · rename_i k k' e
      rw [uint_of_rv hx, uint_of_rv hy, run_equalIn_int w _ _ _ _ _ _ e]
      congr 1
    · rename_i t u fs e
      split at h
      case h_2 => cases h
      rename_i hst
      have e' : P.underlying T = some (.struct (P.fieldsOf T)) := by simp [Program.fieldsOf, e]
      have ef : (P.fieldsOf T) = fs := by simp [Program.fieldsOf, e]
      obtain ⟨x1, x2, x3⟩ := hx
      obtain ⟨y1, y2, y3⟩ := hy
      have agg : ∀ {v : Value}, isAggV v = true → ∃ vs, v = .agg vs := fun {v} h => by cases v <;> simp_all [isAggV]
      obtain ⟨xs, rfl⟩ := agg x1
      obtain ⟨ys, rfl⟩ := agg y1
      rw [run_equalIn_struct w _ _ _ _ e' hst, ef]
      simp only [Value.cells] at x2 x3 y2 y3
      exact cmpFs_sound (D := d + m) (fun T ty h => cmpOk_sound d T ty m h) w fs.toList 0 _ h a b (by simpa using x3) (by simpa using y3) (by omega) (by omega)
    · cases h

/-! ### Zero values, keys of maps -/

def zIs : Ty → List Value → Option (List Value)
  | .unit, l => some l
  | .pair a b, l => match zIs a l with | some r => zIs b r | none => none
  | .int, v :: r => match sameV v (.int .i64 0) with | true => some r | false => none
  | .uint k, v :: r => match sameV v (.int k 0) with | true => some r | false => none
  | .bool, v :: r => match sameV v (.bool false) with | true => some r | false => none
  | .slice _, v :: r => match sameV v (.slice none 0 0) with | true => some r | false => none
  | .map _ _, v :: r => match sameV v (.map none) with | true => some r | false => none
  | _, [] => none

theorem zIs_rd (H : Imm) : ∀ (t : Ty) (l r : List Value), zIs t l = some r → ∃ us, l = us ++ r ∧ us.length = t.size ∧ t.rd H (fun i => us[i]?) t.dflt
  | .unit, l, r, h => by simp [zIs] at h; subst h; exact ⟨[], rfl, rfl, trivial⟩
  | .pair a b, l, r, h => by
    simp only [zIs] at h
    split at h
    · rename_i r1 h1
      obtain ⟨us, rfl, u1, u2⟩ := zIs_rd H a l r1 h1
      obtain ⟨vs, rfl, v1, v2⟩ := zIs_rd H b r1 r h
      refine ⟨us ++ vs, by simp, by simp [Ty.size, u1, v1], ?_, ?_⟩
      · exact Ty.rd_congr a _ _ _ (fun i hi => by rw [List.getElem?_append_left (by omega)]) u2
      · refine Ty.rd_congr b _ _ _ (fun i hi => ?_) v2
        simp only
        rw [List.getElem?_append_right (by omega)]
        congr 1; omega
    · cases h
  | .int, [], r, h => by cases h
  | .uint _, [], r, h => by cases h
  | .bool, [], r, h => by cases h
  | .slice _, [], r, h => by cases h
  | .map _ _, [], r, h => by cases h
  | .int, v :: l, r, h => by
    simp only [zIs] at h
    split at h
    · rename_i hv; simp at h; subst h; rw [sameV_eq hv]; exact ⟨[_], rfl, rfl, rfl⟩
    · cases h
  | .uint k, v :: l, r, h => by
    simp only [zIs] at h
    split at h
    · rename_i hv; simp at h; subst h; rw [sameV_eq hv]; exact ⟨[_], rfl, rfl, rfl⟩
    · cases h
  | .bool, v :: l, r, h => by
    simp only [zIs] at h
    split at h
    · rename_i hv; simp at h; subst h; rw [sameV_eq hv]; exact ⟨[_], rfl, rfl, rfl⟩
    · cases h
  | .slice _, v :: l, r, h => by
    simp only [zIs] at h
    split at h
    · rename_i hv; simp at h; subst h; rw [sameV_eq hv]; exact ⟨[_], rfl, rfl, rd_nil _⟩
    · cases h
  | .map _ _, v :: l, r, h => by
    simp only [zIs] at h
    split at h
    · rename_i hv; simp at h; subst h; rw [sameV_eq hv]; exact ⟨[_], rfl, rfl, none, rfl, fun _ => rfl, fun b hb => (by cases hb)⟩
    · cases h

/-- cells of a type that may be compared are numbers and truths -/
def plainV : Value → Prop
  | .int _ _ => True
  | .bool _ => True
  | _ => False

theorem sameBits_plain {n : Nat} {v : Value} (h : plainV v) : Instr.sameBits n v v = true := by
  cases v <;> first | exact h.elim | (cases n <;> simp [Instr.sameBits])

section
variable {P : Program}

def Plain (ty : Ty) : Prop := ∀ (H : Imm) (f g : Nat → Option Value) (d : ty.Data), ty.rd H f d → ty.rd H g d → ∀ i, i < ty.size → ∃ v, f i = some v ∧ g i = some v ∧ plainV v

theorem plain_fields {go : Nat → Ty → Bool} (hgo : ∀ T ty, go T ty = true → Plain ty) : ∀ (fs : List Field) (off : Nat) (ty : Ty), cmpFs P go fs off ty = true → Plain ty
  | [], off, ty, h => by
    cases ty with
    | unit => intro H f g d _ _ i hi; simp [Ty.size] at hi
    | _ => cases h
  | f :: fs, off, ty, h => by
    cases ty with
    | pair a b =>
      simp only [cmpFs] at h
      split at h
      case h_2 => cases h
      rename_i i h1 h2 h3 h4
      split at h
      case h_2 => cases h
      intro H f' g d hf hg j hj
      simp only [Ty.size] at hj
      by_cases hja : j < a.size
      · exact hgo _ _ h4 H f' g d.1 hf.1 hg.1 j hja
      · obtain ⟨v, k1, k2, k3⟩ := plain_fields hgo fs _ b h H _ _ d.2 hf.2 hg.2 (j - a.size) (by omega)
        have e : a.size + (j - a.size) = j := by omega
        rw [e] at k1 k2
        exact ⟨v, k1, k2, k3⟩
    | _ => cases h

theorem cmp_plain : ∀ (d T : Nat) (ty : Ty), cmpOk P d T ty = true → Plain ty
  | 0, _, _, h => by cases h
  | d + 1, T, ty, h => by
    unfold cmpOk at h
    split at h
    · intro H f g d hf hg i hi
      have : i = 0 := by simp [Ty.size] at hi; exact hi
      subst this; exact ⟨_, hf, hg, trivial⟩
    · intro H f g d hf hg i hi
      have : i = 0 := by simp [Ty.size] at hi; exact hi
      subst this; exact ⟨_, hf, hg, trivial⟩
    · intro H f g d hf hg i hi
      have : i = 0 := by simp [Ty.size] at hi; exact hi
      subst this; exact ⟨_, hf, hg, trivial⟩
    · split at h
      case h_2 => cases h
      exact plain_fields (fun T ty h => cmp_plain d T ty h) _ _ _ h
    · cases h

/-- a key passes -/
def KeyAt (P : Program) (D T : Nat) (ty : Ty) : Prop := ∀ (H : Imm) (w : World) (x : Value) (a : ty.Data) (e : Bool), ty.rv H x a → (Instr.checkKey e D T x).run P w = .ok () w

theorem key_fields {d D : Nat} (hgo : ∀ T ty, cmpOk P d T ty = true → KeyAt P D T ty) {H : Imm} {xs : Array Value} (e : Bool) (w : World) : ∀ (fs : List Field) (off : Nat) (ty : Ty), cmpFs P (cmpOk P d) fs off ty = true →
    ∀ x : ty.Data, ty.rd H (fun j => xs[off + j]?) x → off + ty.size ≤ xs.size → (forIn (m := Sem) fs PUnit.unit (fun f _ =>
        if f.name ≠ "_" then do
          let l ← part f.type xs f.offset
          Instr.checkKey e D f.type l
          pure (ForInStep.yield PUnit.unit)
        else pure (ForInStep.yield PUnit.unit))).run P w = .ok PUnit.unit w
  | [], off, ty, h, x, hx, _ => by simp
  | f :: fs, off, ty, h, x, hx, hlx => by
    cases ty with
    | pair a b =>
      simp only [cmpFs] at h
      split at h
      case h_2 => cases h
      rename_i i h1 h2 h3 h4
      split at h
      case h_2 => cases h
      rename_i h5
      have e5 := Nat.eq_of_beq_eq_true h5
      have e2 := Nat.eq_of_beq_eq_true h2
      simp only [Ty.size] at hlx
      obtain ⟨v, p1, p2⟩ := part_rv (off := off) h4 h3 e5 (xs := xs) (x := x.1) hx.1 (by omega) w
      have he := hgo _ _ h4 H w v x.1 e p2
      have hr := key_fields hgo e w fs (off + a.size) b h x.2 (by
        refine Ty.rd_congr b _ _ _ (fun j _ => ?_) hx.2
        rw [Nat.add_assoc]) (by omega)
      have hname : f.name ≠ "_" := by simpa using h1
      rw [List.forIn_cons]
      simp only [Sem.run_bind, if_pos hname, e2, p1, Result.andThen_ok, he, Sem.run_pure]
      exact hr
    | _ => cases h

theorem key_sound : ∀ (d : Nat) (T : Nat) (ty : Ty) (m : Nat), cmpOk P d T ty = true → KeyAt P (d + m) T ty
  | 0, _, _, _, h => by cases h
  | d + 1, T, ty, m, h => by
    intro H w x a e hx
    rw [show d + 1 + m = (d + m) + 1 by omega]
    unfold cmpOk at h
    split at h
    · rename_i u
      rw [int_of_rv hx]; simp [Instr.checkKey, run_underlying u]
    · rename_i u
      rw [bool_of_rv hx]; simp [Instr.checkKey, run_underlying u]
    · rename_i u
      rw [uint_of_rv hx]; simp [Instr.checkKey, run_underlying u]
    · rename_i t u fs hu
      split at h
      case h_2 => cases h
      obtain ⟨x1, x2, x3⟩ := hx
      have agg : ∀ {v : Value}, isAggV v = true → ∃ vs, v = .agg vs := fun {v} h => by cases v <;> simp_all [isAggV]
      obtain ⟨xs, rfl⟩ := agg x1
      simp only [Value.cells] at x2 x3
      have := key_fields (D := d + m) (fun T ty h => key_sound d T ty m h) e w fs.toList 0 _ h a (by simpa using x3) (by omega)
      unfold Instr.checkKey
      simp only [Sem.run_bind, run_underlying hu, Result.andThen_ok]
      rw [← Array.forIn_toList, this]
      rfl
    · cases h

theorem findNow_int {H : Imm} (a : Int) : ∀ (es : List MapEntry) (ks : List Int) (i : Nat), KeysRd H .int es ks → Instr.findNow (.int .i64) (.int .i64 a) es i = some (findIx .int a ks es i)
  | [], [], i, _ => rfl
  | [], _ :: _, _, h => h.elim
  | _ :: _, [], _, h => h.elim
  | e :: es, k :: ks, i, h => by
    have he := int_of_rv h.1
    simp only [Instr.findNow, he, Instr.sameNow, if_true, findIx]
    by_cases hk : a = k
    · have : (a == k) = true := by simpa using hk
      rw [this, if_pos (by simpa using hk)]
    · have : (a == k) = false := by simpa using hk
      rw [this, if_neg (by simpa using hk)]
      exact findNow_int a es ks (i + 1) h.2

theorem findAsking_sound {H : Imm} {T : Nat} {ty : Ty} (hc : cmpOk P 20 T ty = true) {x : Value} {a : ty.Data} (hx : ty.rv H x a) (w : World) : ∀ (es : List MapEntry) (ks : List ty.Data) (i : Nat), KeysRd H ty es ks →
    (Instr.findAsking T x es i).run P w = .ok (findIx ty a ks es i) w
  | [], [], i, _ => by simp [Instr.findAsking, findIx]
  | [], _ :: _, _, h => h.elim
  | _ :: _, [], _, h => h.elim
  | e :: es, k :: ks, i, h => by
    have he : (Op.equal T x e.key).run P w = .ok (@decide (a = k) (ty.decEq a k)) w := cmpOk_sound 20 T ty 9980 hc H w x e.key a k hx h.1
    unfold Instr.findAsking findIx
    simp only [Sem.run_bind, he, Result.andThen_ok, Sem.run_ite]
    split
    · simp
    · exact findAsking_sound hc hx w es ks (i + 1) h.2

/-- may a type be a map's key? -/
def keyOk (P : Program) (T : Nat) (ty : Ty) : Bool := match ty, P.underlying T with
  | .int, some (.int .i64) => true
  | .pair _ _, some (.struct _) => cmpOk P 20 T ty
  | _, _ => false

theorem keyOk_sound {T : Nat} {ty : Ty} (h : keyOk P T ty = true) :
    (∀ (H : Imm) (x : Value) (a : ty.Data) (w : World) (e : Bool), ty.rv H x a → (Instr.checkKey e 10000 T x).run P w = .ok () w) ∧
    (∀ (H : Imm) (es : List MapEntry) (ks : List ty.Data) (x : Value) (a : ty.Data) (w : World), ty.rv H x a → KeysRd H ty es ks → (Instr.findKey T x es).run P w = .ok (findIx ty a ks es 0) w) ∧
    (∀ (H : Imm) (x y : Value) (a : ty.Data), ty.rv H x a → ty.rv H y a → Instr.sameBits 10000 x y = true) := by
  unfold keyOk at h
  split at h
  · rename_i hu
    have hc : cmpOk P 20 T .int = true := by unfold cmpOk; rw [hu]
    refine ⟨fun H x a w e hx => key_sound 20 T .int 9980 hc H w x a e hx, fun H es ks x a w hx hk => ?_, fun H x y a hx hy => ?_⟩
    · rw [int_of_rv hx]
      simp only [Instr.findKey, Sem.run_bind, run_underlying hu, Result.andThen_ok, findNow_int a es ks 0 hk, Sem.run_pure]
    · rw [int_of_rv hx, int_of_rv hy]; simp [Instr.sameBits]
  · rename_i t u fs hu
    have hc := h
    refine ⟨fun H x a w e hx => key_sound 20 T _ 9980 hc H w x a e hx, fun H es ks x a w hx hk => ?_, fun H x y a hx hy => ?_⟩
    · have hfa := findAsking_sound hc hx w es ks 0 hk
      simp only [Instr.findKey, Sem.run_bind, run_underlying hu, Result.andThen_ok]
      cases es with
      | nil =>
        cases ks with
        | nil => simp [Instr.findNow, findIx]
        | cons k ks => exact hk.elim
      | cons e es =>
        have : Instr.findNow (.struct fs) x (e :: es) 0 = none := by simp [Instr.findNow, Instr.sameNow]
        rw [this]
        exact hfa
    · have hp := cmp_plain 20 T _ hc H
      have agg : ∀ {v : Value}, isAggV v = true → ∃ vs, v = .agg vs := fun {v} h => by cases v <;> simp_all [isAggV]
      obtain ⟨xs, rfl⟩ := agg hx.1
      obtain ⟨ys, rfl⟩ := agg hy.1
      have x2 := hx.2.1
      have y2 := hy.2.1
      simp only [Value.cells] at x2 y2
      have hpl := hp (fun i => xs[i]?) (fun i => ys[i]?) a hx.2.2 hy.2.2
      have hxy : xs = ys := by
        refine Array.ext (by omega) (fun i h1 h2 => ?_)
        obtain ⟨v, e1, e2, _⟩ := hpl i (by omega)
        rw [Array.getElem?_eq_getElem h1] at e1
        rw [Array.getElem?_eq_getElem h2] at e2
        simp at e1 e2
        rw [e1, e2]
      subst hxy
      unfold Instr.sameBits
      simp only [beq_self_eq_true, Bool.true_and, List.all_eq_true]
      intro p hp'
      obtain ⟨i, hi⟩ := List.getElem?_of_mem hp'
      rw [List.getElem?_zip_eq_some] at hi
      obtain ⟨h1, h2⟩ := hi
      have e : p.1 = p.2 := by rw [h1] at h2; simpa using h2
      rw [← e]
      have hlt := (List.getElem?_eq_some_iff.1 h1).1
      obtain ⟨v, e1, _, e3⟩ := hpl i (by simp at hlt; omega)
      have : xs.toList[i]? = some v := by simpa using e1
      rw [h1] at this
      simp at this
      rw [this]
      exact sameBits_plain e3
  · cases h

end

/-! ### Arrays of numbers -/

def arrFields (e : Nat) : List (Nat × Nat) → Nat → Bool
  | [], _ => true
  | p :: r, k => match Nat.beq p.1 k, Nat.beq p.2 e with
    | true, true => arrFields e r (k + 1)
    | _, _ => false

theorem arrFields_get {e : Nat} : ∀ (l : List (Nat × Nat)) (k : Nat), arrFields e l k = true → ∀ (j : Nat) (p : Nat × Nat), l[j]? = some p → p = (k + j, e)
  | [], _, _, j, p, h => by simp at h
  | q :: l, k, h, j, p, hj => by
    simp only [arrFields] at h
    split at h
    case h_2 => cases h
    rename_i h1 h2
    cases j with
    | zero =>
      simp at hj; subst hj
      exact Prod.ext (Nat.eq_of_beq_eq_true h1) (Nat.eq_of_beq_eq_true h2)
    | succ j =>
      have := arrFields_get l (k + 1) h j p (by simpa using hj)
      rw [this]; congr 1; omega

def arrOk (P : Program) (ti : TI) (n e : Nat) : Bool := Nat.beq e ti.elem && (match P.info? e with | some ie => Nat.beq ie.size 1 | none => false) && Nat.beq ti.fields.length n && Nat.beq ti.size n && Nat.ble n 1000000 && arrFields e ti.fields 0

/-- so many numbers -/
def intsTy : Ty → Nat → Bool
  | .unit, 0 => true
  | .pair .int r, n + 1 => intsTy r n
  | _, _ => false

theorem ints_eq {e D : Nat} (he : P.underlying e = some (.int .i64)) (hc : P.cellsOf e = 1) {H : Imm} (w : World) : ∀ (n off : Nat) (ty : Ty) (xs ys : Array Value) (x y : ty.Data), intsTy ty n = true → ty.rd H (fun j => xs[off + j]?) x → ty.rd H (fun j => ys[off + j]?) y →
    (Op.eqItems (D + 1) e 1 xs ys (List.range' off n)).run P w = .ok (@decide (x = y) (ty.decEq x y)) w
  | 0, off, ty, xs, ys, x, y, h, _, _ => by
    cases ty with
    | unit => simp [Op.eqItems]
    | _ => simp [intsTy] at h
  | n + 1, off, ty, xs, ys, x, y, h, hx, hy => by
    cases ty with
    | pair a b =>
      cases a with
      | int =>
        simp only [intsTy] at h
        have h1 : xs[off]? = some (.int .i64 x.1) := by have := hx.1; simpa [Ty.rd] using this
        have h2 : ys[off]? = some (.int .i64 y.1) := by have := hy.1; simpa [Ty.rd] using this
        have ih := ints_eq (D := D) he hc w n (off + 1) b xs ys x.2 y.2 h (by
          refine Ty.rd_congr b _ _ _ (fun j _ => ?_) hx.2
          simp only [Ty.size]; rw [Nat.add_assoc]) (by
          refine Ty.rd_congr b _ _ _ (fun j _ => ?_) hy.2
          simp only [Ty.size]; rw [Nat.add_assoc])
        rw [List.range'_succ]
        have hag : (isAgg e).run P w = .ok false w := by simp [isAgg, run_underlying he]
        have p1 : (part e xs (off * 1)).run P w = .ok (.int .i64 x.1) w := by simp [part, hag, h1]
        have p2 : (part e ys (off * 1)).run P w = .ok (.int .i64 y.1) w := by simp [part, hag, h2]
        simp only [Op.eqItems, Sem.run_bind, p1, p2, Result.andThen_ok, run_equalIn_int w _ _ _ _ _ _ he]
        rw [dec_pair]
        cases hd : (x.1 == y.1) with
        | true =>
          have e1 : x.1 = y.1 := by simpa using hd
          rw [@decide_eq_true _ (_) e1]
          simpa using ih
        | false =>
          have e1 : x.1 ≠ y.1 := by simpa using hd
          rw [@decide_eq_false _ (_) e1]
          simp
      | _ => simp [intsTy] at h
    | _ => simp [intsTy] at h

def isIface : TypeDesc → Bool
  | .struct _ => true
  | .array _ _ => true
  | .interface _ => true
  | _ => false

def isTyInt : Ty → Bool
  | .int => true
  | _ => false

/-- a type's row, checked -/
def tiOk (P : Program) (ti : TI) : Bool :=
  match P.info? ti.id, P.underlying ti.id with
  | some i, some d => match i.zero with
    | some z => (Nat.beq i.size ti.size && Nat.beq i.bytes ti.bytes && sameVs z.cells.toList ti.zero && beqB (isAggV z) ti.agg && ti.zero.all (·.oneCell') && Nat.beq ti.zero.length ti.size) &&
      (ti.fields.all fun p => (P.info? p.2).isSome) &&
      (match ti.agg with
        | true => (match ti.arr, d with | false, .struct fs => sameFields fs.toList ti.fields | true, .array n e => arrOk P ti n e | _, _ => false) && !ti.sl
        | false => !(isIface d) && !ti.arr && (match ti.sl, d with | true, .slice e => Nat.beq e ti.elem | true, _ => false | false, _ => true) &&
            (match ti.ty, d with | .int, .int .i64 => true | .int, _ => false | .uint k, .int k' => sameKind k k' | .uint _, _ => false | _, _ => true) && (match ti.fields with | [] => true | _ => false)) &&
      (match tyKnown ti.ty with | true => beqB ti.ty.agg ti.agg && Nat.beq ti.ty.size ti.size && Nat.ble 1 ti.size && Nat.ble 1 ti.bytes | false => true) &&
      (match ti.cmp with
        | true => (match ti.arr with
          | true => (match d with | .array n _ => intsTy ti.ty n | _ => false) && (match P.underlying ti.elem with | some (.int .i64) => true | _ => false) && !(P.eqGuardType P.depth ti.id)
          | false => (match ti.ty with | .pair _ _ => !(P.eqGuardType P.depth ti.id) | .bool => true | _ => false) && cmpOk P 20 ti.id ti.ty)
        | false => true) &&
      (match ti.mp, d with | true, .map k e => Nat.beq k ti.key && Nat.beq e ti.elem | true, _ => false | false, _ => true) &&
      (match tyKnown ti.ty with | true => (match zIs ti.ty ti.zero with | some [] => true | _ => false) | false => true) &&
      (match ti.kq with | true => keyOk P ti.id ti.ty | false => true)
    | none => false
  | _, _ => false

theorem tiOk_ok {ti : TI} (h : tiOk P ti = true) : ti.ok P := by
  unfold tiOk at h
  split at h
  case h_2 => cases h
  rename_i i d hi hd
  split at h
  case h_2 => cases h
  rename_i z hz
  simp only [Bool.and_eq_true] at h
  obtain ⟨⟨⟨⟨⟨⟨⟨⟨⟨⟨⟨⟨a1, a2⟩, a3⟩, a4⟩, a5⟩, a6⟩, a7⟩, a8⟩, a9⟩, a10⟩, a11⟩, a12⟩, a13⟩ := h
  refine ⟨⟨i, z, hi, Nat.eq_of_beq_eq_true a1, Nat.eq_of_beq_eq_true a2, hz, sameVs_eq a3, beqB_eq a4⟩, fun v hv => List.all_eq_true.1 a5 v hv, Nat.eq_of_beq_eq_true a6, ?_, ?_, ?_, ?_, ?_, ?_, ?_, ?_, ?_, ?_, ?_, ?_⟩
  · intro ha har
    rw [ha] at a8
    simp only [Bool.and_eq_true, har] at a8
    split at a8
    · rename_i fs _
      obtain ⟨e1, e2⟩ := sameFields_eq a8.1
      exact ⟨fs, hd, by simpa using e1, fun k p hk => by simpa using e2 k p hk⟩
    · contradiction
    · cases a8.1
  · intro har
    cases ha : ti.agg with
    | false => rw [ha] at a8; simp [har] at a8
    | true =>
      rw [ha] at a8
      simp only [Bool.and_eq_true, har] at a8
      split at a8
      · contradiction
      · rename_i n e _
        unfold arrOk at a8
        simp only [Bool.and_eq_true] at a8
        obtain ⟨⟨⟨⟨⟨⟨b1, b2⟩, b3⟩, b4⟩, b5⟩, b6⟩, _⟩ := a8
        have b1 := Nat.eq_of_beq_eq_true b1
        subst b1
        split at b2
        case h_2 => cases b2
        rename_i ie hie
        exact ⟨rfl, n, ie, hd, hie, Nat.eq_of_beq_eq_true b2, Nat.eq_of_beq_eq_true b3, Nat.eq_of_beq_eq_true b4, Nat.le_of_ble_eq_true b5, fun k p hk => by have := arrFields_get _ _ b6 k p hk; simpa using this⟩
      · cases a8.1
  · intro k p hk
    have := List.all_eq_true.1 a7 p (List.mem_of_getElem? hk)
    exact Option.isSome_iff_exists.1 this
  · intro ha
    rw [ha] at a8
    simp only [Bool.and_eq_true, Bool.not_eq_true'] at a8
    obtain ⟨⟨⟨⟨b1, b1'⟩, b2⟩, b3⟩, b4⟩ := a8
    refine ⟨d, hd, fun fs e => by subst e; simp [isIface] at b1, fun n e he => by subst he; simp [isIface] at b1, fun ms e => by subst e; simp [isIface] at b1, fun hs => ?_, fun ht => ?_, fun k ht => ?_⟩
    · rw [hs] at b2
      split at b2
      · rw [Nat.eq_of_beq_eq_true b2]
      · cases b2
      · contradiction
    · rw [ht] at b3
      cases d with
      | int k => cases k <;> first | rfl | cases b3
      | _ => cases b3
    · rw [ht] at b3
      cases d with
      | int k' => simp [sameKind] at b3; rw [b3]
      | _ => cases b3
  · intro hs
    cases ha : ti.agg with
    | false => rfl
    | true => rw [ha] at a8; simp [hs] at a8
  · intro hm
    rw [hm] at a11
    cases d with
    | map k e => simp only [Bool.and_eq_true] at a11; rw [hd, Nat.eq_of_beq_eq_true a11.1, Nat.eq_of_beq_eq_true a11.2]
    | _ => cases a11
  · intro hk H
    rw [hk] at a12
    simp only at a12
    split at a12
    · rename_i hz
      obtain ⟨us, e1, _, e3⟩ := zIs_rd H _ _ _ hz
      rw [List.append_nil] at e1
      rw [e1]; exact e3
    · cases a12
  · intro hk
    rw [hk] at a13
    exact keyOk_sound a13
  · intro ha
    rw [ha] at a8
    simp only [Bool.and_eq_true] at a8
    have := a8.2
    split at this
    · assumption
    · cases this
  · intro hk
    rw [hk] at a9
    simp only [Bool.and_eq_true] at a9
    exact ⟨beqB_eq a9.1.1.1, Nat.eq_of_beq_eq_true a9.1.1.2⟩
  · intro hk
    rw [hk] at a9
    simp only [Bool.and_eq_true] at a9
    exact ⟨Nat.le_of_ble_eq_true a9.1.2, Nat.le_of_ble_eq_true a9.2⟩
  · intro hc H x y a b w hx hy op X Y hop
    rw [hc] at a10
    simp only [] at a10
    cases har : ti.arr with
    | true =>
      rw [har] at a10
      simp only [Bool.and_eq_true, Bool.not_eq_true'] at a10
      obtain ⟨⟨c1, c2⟩, c3⟩ := a10
      split at c1
      case h_2 => cases c1
      rename_i n e
      split at c2
      case h_2 => cases c2
      rename_i hue
      have a8' : ∃ ie, e = ti.elem ∧ P.info? e = some ie ∧ ie.size = 1 := by
        cases ha : ti.agg with
        | false => rw [ha] at a8; simp [har] at a8
        | true =>
          rw [ha] at a8
          simp only [Bool.and_eq_true, har] at a8
          have a8 := a8.1
          unfold arrOk at a8
          simp only [Bool.and_eq_true] at a8
          obtain ⟨⟨⟨⟨⟨b1, b2⟩, b3⟩, b4⟩, b5⟩, b6⟩ := a8
          split at b2
          case h_2 => cases b2
          rename_i ie hie
          exact ⟨ie, Nat.eq_of_beq_eq_true b1, hie, Nat.eq_of_beq_eq_true b2⟩
      obtain ⟨ie, rfl, hie, hs1⟩ := a8'
      have hcells : P.cellsOf ti.elem = 1 := by simp [Program.cellsOf, hie, hs1]
      have agg : ∀ {v : Value}, isAggV v = true → ∃ vs, v = .agg vs := fun {v} h => by cases v <;> simp_all [isAggV]
      have hta : ti.ty.agg = true := by
        cases ht : ti.ty with
        | unit => rfl
        | pair a b => rfl
        | _ => rw [ht] at c1; simp [intsTy] at c1
      obtain ⟨xs, rfl⟩ := agg (hx.1.trans hta)
      obtain ⟨ys, rfl⟩ := agg (hy.1.trans hta)
      have he : (Op.equalIn 10000 ti.id (.agg xs) (.agg ys)).run P w = .ok (@decide (a = b) (ti.ty.decEq a b)) w := by
        rw [run_equalIn_array w 9999 xs ys hd hie, hcells, List.range_eq_range']
        exact ints_eq (D := 9998) hue hcells w n 0 ti.ty xs ys a b c1 (by simpa [Value.cells] using hx.2.2) (by simpa [Value.cells] using hy.2.2)
      rcases hop with rfl | rfl
      · simp only [Sem.run_bind, run_eqGuard_agg w _ _ _ _ _ _ c3, Result.andThen_ok, run_eql_struct w, he]
      · simp only [Sem.run_bind, run_eqGuard_agg w _ _ _ _ _ _ c3, Result.andThen_ok, run_neq_struct w, he]
    | false =>
    rw [har] at a10
    simp only [Bool.and_eq_true] at a10
    obtain ⟨c1, c2⟩ := a10
    have he := cmpOk_sound 20 ti.id ti.ty 9980 c2 H w x y a b hx hy
    rcases ti with ⟨id, ty, size, agg, fields, sl, elem, bytes, zero, cmp⟩
    simp only at *
    split at c1
    · rename_i t u
      have agg : ∀ {v : Value}, isAggV v = true → ∃ vs, v = .agg vs := fun {v} h => by cases v <;> simp_all [isAggV]
      obtain ⟨xs, rfl⟩ := agg hx.1
      obtain ⟨ys, rfl⟩ := agg hy.1
      simp only [Bool.not_eq_true'] at c1
      rcases hop with rfl | rfl
      · simp only [Sem.run_bind, run_eqGuard_agg w _ _ _ _ _ _ c1, Result.andThen_ok, run_eql_struct w, he]
      · simp only [Sem.run_bind, run_eqGuard_agg w _ _ _ _ _ _ c1, Result.andThen_ok, run_neq_struct w, he]
    · have ex := bool_of_rv hx
      have ey := bool_of_rv hy
      subst ex
      subst ey
      have he' : (Op.equal id (.bool a) (.bool b)).run P w = .ok (@decide (a = b) (Ty.bool.decEq a b)) w := he
      rcases hop with rfl | rfl
      · have g : (eqGuard .eql id X Y (.bool a) (.bool b)).run P w = .ok () w := by simp [eqGuard]
        have g2 : binOp .eql id (.bool a) (.bool b) = (do pure (.bool (← Op.equal id (.bool a) (.bool b)))) := rfl
        simp only [Sem.run_bind, g, Result.andThen_ok, g2, he', Sem.run_pure]
      · have g : (eqGuard .neq id X Y (.bool a) (.bool b)).run P w = .ok () w := by simp [eqGuard]
        have g2 : binOp .neq id (.bool a) (.bool b) = (do pure (.bool (!(← Op.equal id (.bool a) (.bool b))))) := rfl
        simp only [Sem.run_bind, g, Result.andThen_ok, g2, he', Sem.run_pure]
    · cases c1

theorem ti_all {l : List TI} (h : l.all (tiOk P) = true) : ∀ T x, findTI l T = some x → x.id = T ∧ x.ok P := by
  induction l with
  | nil => intro T x hx; simp [findTI] at hx
  | cons t r ih =>
    intro T x hx
    simp only [List.all_cons, Bool.and_eq_true] at h
    simp only [findTI] at hx
    split at hx
    · rename_i hb
      simp at hx; subst hx
      exact ⟨Nat.eq_of_beq_eq_true hb, tiOk_ok h.1⟩
    · exact ih h.2 T x hx

end
end Go.X
