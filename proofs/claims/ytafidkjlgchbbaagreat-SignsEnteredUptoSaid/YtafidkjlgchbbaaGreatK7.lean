/-
  Regions within a round of a range over a function, and beside calls that are put off: what is shown of a region alone holds there, too.
-/
import Derived.Test.YtafidkjlgchbbaaGreatK6
import Derived.TacticsIn
import Derived.OrdersIn
import Derived.RangeFuncIn
import Derived.RangeFuncRecord
import Derived.RangeFuncSeq
import Derived.RangeFuncLeaves
namespace Go.X
open Go.RowKit (Below)

/-- no fence; within a round, or not -/
abbrev WF (r : Option Nat) : Fence := { Fence.wide with round := r }

section
variable {P : Program} {r : Option Nat}

theorem callsIn_wf {n : Nat} {f : FuncId} {args : Array Value} {w : World} {R : Ending → World → Prop} : CallsIn (WF r) n P f args w R ↔ Calls P f args w R := callsIn_wide (n := n)
theorem rowsIn_wf {n : Nat} {row : String} {args : Array Value} {w : World} {R : Value → World → Prop} (h : Rows P row args w R) : RowsIn (WF r) n P row args w R :=
  fun c cs _ => let ⟨v, w', q, s⟩ := h c cs; ⟨v, w', q, stepsIn_wide.2 s⟩
theorem room_wf (n : Nat) : (WF r).room n := fun _ h => by simp [Fence.wide] at h
theorem wpIn_wf {c : Code} {Q : Exit → Act → World → Prop} {a : Act} {w : World} : c.wpIn (WF none) 0 P Q a w ↔ c.wp P Q a w := wpIn_wide

/-- an activation with more calls put off -/
def addD (ds : List Deferred) (a : Act) : Act := { a with defers := a.defers ++ ds }

theorem addD_put (ds : List Deferred) (a : Act) (d : Option Nat) (v : Value) : addD ds (a.put d v) = (addD ds a).put d v := by cases d <;> rfl
theorem addD_eval (ds : List Deferred) (a : Act) : (addD ds a).eval = a.eval := by funext o; cases o <;> rfl

/-- no operation puts a call off -/
def noDefer : List Oper → Bool
  | [] => true
  | o :: l => match o.op with
    | .defer _ => false
    | _ => noDefer l

theorem noDefer_mem : ∀ {l : List Oper}, noDefer l = true → ∀ o, o ∈ l → ∀ c, o.op ≠ .defer c
  | [], _, o, ho, _ => by simp at ho
  | x :: l, h, o, ho, c => by
    simp only [noDefer] at h
    split at h
    · cases h
    · rename_i hx
      rcases List.mem_cons.1 ho with rfl | ho
      · exact fun e => hx c e
      · exact noDefer_mem h o ho c

theorem oper_in {o : Oper} {a : Act} {w : World} {ds : List Deferred} {K K' : Act → World → Prop} {Q0 Q : Exit → Act → World → Prop} (hn : ∀ e a w, Q0 e a w → e = .normal) (hnd : ∀ c, o.op ≠ .defer c)
    (h : o.wp P a w K Q0) (hK : ∀ a w, K a w → K' (addD ds a) w) : o.wpIn (WF r) 0 P (addD ds a) w K' Q := by
  refine ⟨fun _ _ => trivial, ?_⟩
  rw [addD_eval, Oper.semAt_eq _ _ _ hnd]
  unfold Oper.wp at h
  generalize (execOp a.eval o).run P w = res at h
  cases res with
  | ok x w' =>
    cases x with
    | value v => simp only [Oper.upon] at h; simp only [Oper.uponIn]; rw [← addD_put]; exact hK _ _ h
    | skip => simp only [Oper.upon] at h; simp only [Oper.uponIn]; rw [← addD_put]; exact hK _ _ h
    | defer d => simp only [Oper.upon] at h; simp only [Oper.uponIn]; have := hK _ _ h; rw [addD_put] at this; exact this
    | enter f args =>
      simp only [Oper.upon] at h; simp only [Oper.uponIn]
      refine ⟨fun hd => by simp [Fence.wide] at hd, callsIn_wf.2 (h.mono fun e w'' he => ?_)⟩
      cases e with
      | returned v => simp only at he ⊢; rw [← addD_put]; exact hK _ _ he
      | panicked c => exact absurd (hn _ _ _ he) (by simp)
      | outgrown => obtain ⟨a0, w0, h0⟩ := he; exact absurd (hn _ _ _ h0) (by simp)
    | row row args =>
      simp only [Oper.upon] at h; simp only [Oper.uponIn]
      refine ⟨fun hd => by simp [Fence.wide] at hd, rowsIn_wf (h.mono fun v w'' he => ?_)⟩
      rw [← addD_put]; exact hK _ _ he
    | _ => simp only [Oper.upon] at h
  | halt x w' =>
    cases x with
    | panic v => simp only [Oper.upon] at h; exact absurd (hn _ _ _ h) (by simp)
    | _ => simp only [Oper.upon] at h

theorem list_in {ops : Array Oper} {ds : List Deferred} {Q0 Q : Exit → Act → World → Prop} {rest : List Oper} (hn : ∀ e a w, Q0 e a w → e = .normal) (hQ : ∀ a w, Q0 .normal a w → wpListIn (WF r) 0 P ops Q rest (addD ds a) w) :
    ∀ (l : List Oper), noDefer l = true → ∀ (a : Act) (w : World), wpList P ops Q0 l a w → wpListIn (WF r) 0 P ops Q (l ++ rest) (addD ds a) w
  | [], _, a, w, h => hQ a w h
  | o :: l, hnd, a, w, h => by
    have hl : noDefer l = true := by simp only [noDefer] at hnd; split at hnd; cases hnd; exact hnd
    rw [List.cons_append]
    unfold wpList at h
    unfold wpListIn
    have ey : yielded ops (addD ds a).tmps = yielded ops a.tmps := rfl
    rw [ey]
    split at h
    · rename_i hw
      rw [if_pos hw]
      rcases h with h | ⟨_, a0, w0, h0⟩
      · exact oper_in hn (noDefer_mem hnd o (by simp)) h (fun a' w' h' => list_in hn hQ l hl a' w' h')
      · exact absurd (hn _ _ _ h0) (by simp)
    · rename_i hw
      rw [if_neg hw]
      refine ⟨fun _ _ => trivial, ?_⟩
      rw [← addD_put]
      exact list_in hn hQ l hl _ w h

theorem any_in {md : Region.Mode} {ops : Array Oper} {ds : List Deferred} {Q0 Q : Exit → Act → World → Prop} (hn : ∀ e a w, Q0 e a w → e = .normal) (hQ : ∀ a w, Q0 .normal a w → Q .normal (addD ds a) w) (hnd : noDefer ops.toList = true) :
    ∀ (fuel : Nat) (listed : Array Bool) (a : Act) (w : World), wpAny P md ops Q0 fuel listed a w → wpAnyIn (WF r) 0 P md ops Q fuel listed (addD ds a) w
  | 0, listed, a, w, h => ⟨h.1, hQ _ _ h.2⟩
  | fuel + 1, listed, a, w, h => by
    refine ⟨fun hr => hQ _ _ (h.1 hr), fun i hi => ?_⟩
    have h2 := h.2 i hi
    unfold wpOp at h2
    unfold wpOpIn
    cases ho : ops[i]? with
    | none => rw [ho] at h2; exact any_in hn hQ hnd fuel _ _ _ h2
    | some o =>
      rw [ho] at h2
      simp only at h2 ⊢
      have ey : yielded ops (addD ds a).tmps = yielded ops a.tmps := rfl
      rw [ey]
      have hmem : o ∈ ops.toList := by
        have := List.mem_of_getElem? (l := ops.toList) (i := i) (a := o) (by simpa using ho)
        exact this
      split at h2
      · rename_i hw
        rw [if_pos hw]
        rcases h2 with h2 | ⟨_, a0, w0, h0⟩
        · exact oper_in hn (noDefer_mem hnd o hmem) h2 (fun a' w' h' => any_in hn hQ hnd fuel _ a' w' h')
        · exact absurd (hn _ _ _ h0) (by simp)
      · rename_i hw
        rw [if_neg hw]
        refine ⟨fun _ _ => trivial, ?_⟩
        rw [← addD_put]
        exact any_in hn hQ hnd fuel _ _ w h2

theorem regQ_in (hm : P.follows .mixedOrders = true) {id : Nat} {ops : Array Oper} {draw : Bool} {ds : List Deferred} {Q0 Q : Exit → Act → World → Prop} (hn : ∀ e a w, Q0 e a w → e = .normal) (hQ : ∀ a w, Q0 .normal a w → Q .normal (addD ds a) w)
    (hnd : noDefer ops.toList = true) {a : Act} {w : World} (h : regQ P ops draw Q0 a w) : (Code.region id ops draw).wpIn (WF r) 0 P Q (addD ds a) w := by
  cases draw with
  | false =>
    refine wpIn_region_list ?_
    have := list_in (r := r) (rest := []) hn (fun a w h0 => hQ a w h0) ops.toList hnd a w h
    simpa using this
  | true => exact wpIn_region_any hm (any_in hn hQ hnd _ _ _ _ h)

/-- what a state says of an activation with these calls put off -/
def RelD (P : Program) (B : Base) (n : Nat) (ds : List Deferred) (σ : St) (a : Act) (w : World) : Prop :=
  ∃ a0, a = addD ds a0 ∧ Rel P B n σ a0 w

theorem vreg_in {B : Base} {C : Ctx} (hC : C.ok P) (hm : P.follows .mixedOrders = true) {A : Ann} {id : Nat} {ops : Array Oper} {draw : Bool} {ds : List Deferred} {σ : St} {K : Ex → St → Prop} {Q : Exit → Act → World → Prop} {a : Act} {w : World}
    (hnd : noDefer ops.toList = true) (h : vcg C A (.region id ops draw) σ K) (hR : RelD P B C.n ds σ a w) (hQ : ∀ σ' a' w', Ext σ σ' → K .normal σ' → RelD P B C.n ds σ' a' w' → Q .normal a' w') :
    (Code.region id ops draw).wpIn (WF r) 0 P Q a w := by
  obtain ⟨a0, rfl, hR⟩ := hR
  refine regQ_in hm (Q0 := fun e a' w' => e = .normal ∧ ∃ σ', Ext σ σ' ∧ K .normal σ' ∧ Rel P B C.n σ' a' w') (fun e _ _ h => h.1) (fun a' w' h' => ?_) hnd (vreg_sound hC h hR (fun σ' a' w' hE hK hR' => ⟨rfl, σ', hE, hK, hR'⟩))
  obtain ⟨_, σ', hE, hK, hR'⟩ := h'
  exact hQ σ' _ w' hE hK ⟨a', rfl, hR'⟩

/-- a loop, by a well-founded order -/
theorem wpIn_loop_wf {F : Fence} {n : Nat} {α : Type} (rl : α → α → Prop) (hwf : WellFounded rl) {Q : Exit → Act → World → Prop} {c : Code} {a : Act} {w : World} (I : α → Act → World → Prop) (x₀ : α) (h₀ : I x₀ a w)
    (round : ∀ x a w, I x a w → c.wpIn F n P (Exit.then (fun a' w' => ∃ x', rl x' x ∧ I x' a' w') Q) a w) : (Code.loop c).wpIn F n P Q a w := by
  intro b k cs hro hb hr
  have key : ∀ x a w, I x a w → ∃ e a' w', Q e a' w' ∧ ArrivesIn (Machine.fenced P F) P (lone (b.atR a (.code c :: .inLoop c :: k)) cs w) b k cs e a' w' := by
    intro x
    induction x using hwf.induction with
    | _ x ih =>
      intro a w hI
      obtain ⟨e, a₁, w₁, hq, harr⟩ := round x a w hI b (.inLoop c :: k) cs hro hb hr
      cases e with
      | normal =>
        obtain ⟨x', hlt, hI₁⟩ := hq
        obtain ⟨e₂, a₂, w₂, hq₂, harr₂⟩ := ih x' hlt a₁ w₁ hI₁
        exact ⟨e₂, a₂, w₂, hq₂, .of_steps (StepsIn.trans harr (.one (fenced_calm hb hr rfl) stepR_inLoop)) harr₂⟩
      | exit id => exact ⟨_, a₁, w₁, hq, .pass (x := .inLoop c) rfl (fun _ _ => .inl (by simp)) harr⟩
      | goto l => exact ⟨_, a₁, w₁, hq, .pass (x := .inLoop c) rfl (fun _ _ => .inl (by simp)) harr⟩
      | ret => exact ⟨_, a₁, w₁, hq, .pass (x := .inLoop c) rfl (fun _ _ => .inl (by simp)) harr⟩
      | panic ch => exact ⟨_, a₁, w₁, hq, .pass (x := .inLoop c) rfl (fun _ _ => .inl (by simp)) harr⟩
      | outgrown => exact ⟨_, a₁, w₁, hq, .pass (x := .inLoop c) rfl (fun _ _ => .inl (by simp)) harr⟩
  obtain ⟨e, a', w', hq, harr⟩ := key x₀ a w h₀
  exact ⟨e, a', w', hq, .of_steps (.one (fenced_calm hb hr rfl) stepR_loop) harr⟩

end
end Go.X
/-
  Bodies with calls and ranges that are more than a step of a state: what is asked of them; it is enough.
-/
namespace Go.X
open Go.RowKit (Below)

/-- calls and ranges of a kind of their own: what is asked there -/
structure Hook (Y : Type) where
  sp : Nat → Bool        -- is the call that fills this slot one of them?
  call : SV → List SV → St → Y → (SV → St → Y → Prop) → Prop
  rng : Operand → Array Tmp → Code → Code → St → Y → (St → Y → Prop) → Prop

structure LoopZ (Y : Type) where
  X : Type
  sl : X → List (Nat × SV)
  ob : X → List (Nat × Option Ob)
  ys : X → Y
  inv : X → Prop
  mu : X → Nat

def LoopZ.plain {Y : Type} (L : LoopZ Y) : LoopInv := ⟨L.X, L.sl, L.ob, L.inv, L.mu⟩

abbrev AnnZ (Y : Type) := Nat → Option (St → Y → LoopZ Y)

def isCall : Op → Bool
  | .call _ => true
  | _ => false

/-- the first call of that kind in a region -/
def ySplit (sp : Nat → Bool) : List Oper → Option (List Oper × Oper × List Oper)
  | [] => none
  | o :: r => match o.dst with
    | some d => match sp d, isCall o.op with
      | true, true => some ([], o, r)
      | _, _ => match ySplit sp r with
        | some (p, x, q) => some (o :: p, x, q)
        | none => none
    | none => match ySplit sp r with
      | some (p, x, q) => some (o :: p, x, q)
      | none => none

def yVC {Y : Type} (C : Ctx) (hk : Hook Y) (ops pre : List Oper) (o : Oper) (post : List Oper) (σ : St) (ys : Y) (K : Ex → St → Y → Prop) : Prop :=
  match runOps C ops pre ⟨σ, []⟩ with
  | none => False
  | some (ss, rs) => match rs.gl, o.op, o.guard, o.dst with
    | [], .call c, none, some d => match c.callee, Nat.blt d C.n with
      | .value f, true => vcSteps false ss (hk.call (opnd rs.st f) (c.args.toList.map (opnd rs.st)) rs.st ys
          (fun sv τ ys' => restVC C ops post σ.ob.length ⟨(d, sv) :: τ.sl, τ.ob⟩ (fun e σ' => K e σ' ys')))
      | _, _ => False
    | _, _, _, _ => False

def loopZ {Y : Type} (A : AnnZ Y) (a : Code) (run : St → Y → (Ex → St → Y → Prop) → Prop) (σ : St) (ys : Y) (K : Ex → St → Y → Prop) : Prop :=
  match A (firstR a) with
  | none => False
  | some L =>
    (∃ x : (L σ ys).X, sub σ (headSt (L σ ys).plain (wrCode a) σ x) (keys ((L σ ys).sl x)) (keys ((L σ ys).ob x)) ∧ ys = (L σ ys).ys x ∧ (L σ ys).inv x) ∧
    ∀ x : (L σ ys).X, (L σ ys).inv x → run (headSt (L σ ys).plain (wrCode a) σ x) ((L σ ys).ys x) (fun e σ' ys' => match e with
      | .normal => ∃ x' : (L σ ys).X, sub σ' (headSt (L σ ys).plain (wrCode a) σ x') (union (keys ((L σ ys).sl x')) (union (keys ((L σ ys).sl x)) (keysTo σ'.sl (headSt (L σ ys).plain (wrCode a) σ x).sl.length)))
            (union (keys ((L σ ys).ob x')) (union (keys ((L σ ys).ob x)) (keysTo σ'.ob (headSt (L σ ys).plain (wrCode a) σ x).ob.length))) ∧ ys' = (L σ ys).ys x' ∧ (L σ ys).inv x' ∧ (L σ ys).mu x' < (L σ ys).mu x
      | e => K e σ' ys')

def noAnn : Ann := fun _ => none

def vcgZ {Y : Type} (C : Ctx) (A : AnnZ Y) (hk : Hook Y) : Code → St → Y → (Ex → St → Y → Prop) → Prop
  | .skip, σ, ys, K => K .normal σ ys
  | .region id ops draw, σ, ys, K => match noDefer ops.toList with
    | false => False
    | true => match ySplit hk.sp ops.toList with
      | some (pre, o, post) => match draw with
        | false => yVC C hk ops.toList pre o post σ ys K
        | true => False
      | none => vcg C noAnn (.region id ops draw) σ (fun e σ' => K e σ' ys)
  | .seq a b, σ, ys, K => vcgZ C A hk a σ ys (fun e σ' ys' => match e with
    | .normal => vcgZ C A hk b σ' ys' K
    | e => K e σ' ys')
  | .cond c a b, σ, ys, K => match opnd σ c with
    | .dat .bool β => (β = true → vcgZ C A hk a σ ys K) ∧ (β = false → vcgZ C A hk b σ ys K)
    | _ => False
  | .block id a, σ, ys, K => vcgZ C A hk a σ ys (fun e σ' ys' => match e with
    | .exit id' => match Nat.beq id id' with
      | true => K .normal σ' ys'
      | false => K (.exit id') σ' ys'
    | e => K e σ' ys')
  | .loop a, σ, ys, K => loopZ A a (vcgZ C A hk a) σ ys K
  | .exit id, σ, ys, K => K (.exit id) σ ys
  | .ret, σ, ys, K => K .ret σ ys
  | .rangeFunc g ps a b, σ, ys, K => hk.rng g ps a b σ ys (fun σ' ys' => K .normal σ' ys')
  | _, _, _, _ => False

section
variable {P : Program} {C : Ctx} {Y : Type}

/-- what is asked at such a call is enough -/
def CallOK (P : Program) (C : Ctx) (r : Option Nat) (hk : Hook Y) (Lv : Base → List Deferred → Y → Prop) : Prop :=
  ∀ (o : Oper) (c : Call) (f : Operand) (d : Nat) (σ : St) (ys : Y) (K : SV → St → Y → Prop) (B : Base) (ds : List Deferred) (a : Act) (w : World) (next : Act → World → Prop) (Q : Exit → Act → World → Prop),
    o.op = .call c → c.callee = .value f → o.dst = some d → d < C.n → hk.call (opnd σ f) (c.args.toList.map (opnd σ)) σ ys K → Lv B ds ys → RelD P B C.n ds σ a w →
    (∀ sv τ ys' v w' B', K sv τ ys' → Ext σ τ → Lv B' ds ys' → RelD P B' C.n ds ⟨(d, sv) :: τ.sl, τ.ob⟩ (a.put (some d) v) w' → next (a.put (some d) v) w') →
    o.wpIn (WF r) 0 P a w next Q

/-- what is asked at such a range is enough -/
def RngOK (P : Program) (C : Ctx) (r : Option Nat) (hk : Hook Y) (Lv : Base → List Deferred → Y → Prop) : Prop :=
  ∀ (g : Operand) (ps : Array Tmp) (as b : Code) (σ : St) (ys : Y) (K : St → Y → Prop) (B : Base) (ds : List Deferred) (a : Act) (w : World) (Q : Exit → Act → World → Prop),
    hk.rng g ps as b σ ys K → Lv B ds ys → RelD P B C.n ds σ a w →
    (∀ σ' ys' a' w' B' ds', K σ' ys' → Ext σ σ' → Lv B' ds' ys' → RelD P B' C.n ds' σ' a' w' → Q .normal a' w') → (Code.rangeFunc g ps as b).wpIn (WF r) 0 P Q a w

theorem ySplit_spec {sp : Nat → Bool} : ∀ (l : List Oper) {pre post : List Oper} {o : Oper}, ySplit sp l = some (pre, o, post) → l = pre ++ o :: post
  | [], _, _, _, h => by simp [ySplit] at h
  | x :: r, pre, post, o, h => by
    simp only [ySplit] at h
    split at h
    · split at h
      · simp at h; obtain ⟨rfl, rfl, rfl⟩ := h; rfl
      · split at h
        · rename_i p y q hr
          simp at h; obtain ⟨rfl, rfl, rfl⟩ := h
          rw [ySplit_spec r hr]; rfl
        · cases h
    · split at h
      · rename_i p y q hr
        simp at h; obtain ⟨rfl, rfl, rfl⟩ := h
        rw [ySplit_spec r hr]; rfl
      · cases h

theorem noDefer_app : ∀ (a b : List Oper), noDefer (a ++ b) = true → noDefer a = true ∧ noDefer b = true
  | [], b, h => ⟨rfl, h⟩
  | o :: a, b, h => by
    simp only [List.cons_append, noDefer] at h ⊢
    split at h
    · cases h
    · exact noDefer_app a b h

theorem y_sound {r : Option Nat} (hC : C.ok P) {hk : Hook Y} {Lv : Base → List Deferred → Y → Prop} (hcall : CallOK P C r hk Lv) {id : Nat} {ops : Array Oper} {pre post : List Oper} {o : Oper} {σ : St} {ys : Y} {K : Ex → St → Y → Prop}
    {B : Base} {ds : List Deferred} {a : Act} {w : World} {Q : Exit → Act → World → Prop} (hnd : noDefer ops.toList = true) (hs : ops.toList = pre ++ o :: post) (h : yVC C hk ops.toList pre o post σ ys K) (hL : Lv B ds ys) (hR : RelD P B C.n ds σ a w)
    (hQ : ∀ σ' ys' a' w' B', Ext σ σ' → K .normal σ' ys' → Lv B' ds ys' → RelD P B' C.n ds σ' a' w' → Q .normal a' w') : (Code.region id ops false).wpIn (WF r) 0 P Q a w := by
  unfold yVC at h
  split at h
  · exact h.elim
  rename_i ss rs hr
  split at h
  case h_2 => exact h.elim
  rename_i c d hgl hop hgd hdst
  split at h
  case h_2 => exact h.elim
  rename_i f hcal hfr
  have hfr : d < C.n := Nat.le_of_ble_eq_true hfr
  rw [hs] at hnd
  obtain ⟨hn1, hn2⟩ := noDefer_app _ _ hnd
  have hn3 : noDefer post = true := by
    simp only [noDefer] at hn2
    split at hn2
    · cases hn2
    · exact hn2
  obtain ⟨a0, rfl, hR⟩ := hR
  refine wpIn_region_list ?_
  rw [hs]
  have hI : Inv P B C.n ops ⟨σ, []⟩ a0 w := by
    obtain ⟨h1, h2, ρ, h3, h4, h5⟩ := hR
    exact ⟨h1, h2, ρ, h3, h4, (fun s g v hm => by simp at hm), h5⟩
  have hEx : Ext σ rs.st := ext_runOps _ _ _ _ hr
  refine list_in (Q0 := fun e a' w' => e = .normal ∧ hk.call (opnd rs.st f) (c.args.toList.map (opnd rs.st)) rs.st ys (fun sv τ ys' => restVC C ops.toList post σ.ob.length ⟨(d, sv) :: τ.sl, τ.ob⟩ (fun e σ' => K e σ' ys')) ∧ Inv P B C.n ops rs a' w')
    (fun e _ _ h => h.1) (fun a1 w1 h1 => ?_) pre hn1 a0 w (runOps_sound hC _ _ _ _ _ _ hr h hI (fun hk' a' w' hI' => ⟨rfl, hk', hI'⟩))
  obtain ⟨_, hk1, hI1⟩ := h1
  unfold wpListIn
  rw [if_pos (by simp [Region.wanted, hgd])]
  have hR1 : RelD P B C.n ds rs.st (addD ds a1) w1 := by
    obtain ⟨i1, i2, ρ, i3, i4, _, i5⟩ := hI1
    exact ⟨a1, rfl, i1, i2, ρ, i3, i4, i5⟩
  refine hcall o c f d rs.st ys _ B ds _ w1 _ _ hop hcal hdst hfr hk1 hL hR1 (fun sv τ ys' v w' B' hk2 hE2 hL2 hR2 => ?_)
  obtain ⟨a2, ha2, hR2⟩ := hR2
  rw [ha2]
  unfold restVC at hk2
  split at hk2
  · exact hk2.elim
  rename_i ss2 rs2 hr2
  have hI2 : Inv P B' C.n ops ⟨⟨(d, sv) :: τ.sl, τ.ob⟩, []⟩ a2 w' := by
    obtain ⟨h1, h2, ρ, h3, h4, h5⟩ := hR2
    exact ⟨h1, h2, ρ, h3, h4, (fun s g v hm => by simp at hm), h5⟩
  have := list_in (r := r) (ds := ds) (rest := []) (ops := ops) (Q := Q) (Q0 := fun e a' w' => e = .normal ∧ K .normal (renames ops.toList (gc σ.ob.length rs2.st)) ys' ∧ Inv P B' C.n ops rs2 a' w')
    (fun e _ _ h => h.1) (fun a3 w3 h3 => ?_) post hn3 a2 w' (runOps_sound hC _ _ _ _ _ _ hr2 hk2 hI2 (fun hk' a' w' hI' => ⟨rfl, hk', hI'⟩))
  · simpa using this
  · obtain ⟨_, hk3, i1, i2, ρ, i3, i4, _, i5⟩ := h3
    have hE4 : Ext τ (⟨(d, sv) :: τ.sl, τ.ob⟩ : St) := ⟨⟨[_], rfl⟩, ⟨[], rfl⟩⟩
    have hE : Ext σ (renames ops.toList (gc σ.ob.length rs2.st)) := (hEx.trans hE2).trans (hE4.trans ((ext_runOps _ _ _ _ hr2).trans ((ext_gc _ _).trans (ext_renames _ _))))
    exact hQ _ ys' _ w3 B' hE hk3 hL2 ⟨a3, rfl, rel_renames _ (rel_gc ⟨i1, i2, ρ, i3, i4, i5⟩)⟩

theorem relD_sub {B : Base} {n : Nat} {ds : List Deferred} {σ τ : St} {ks os : List Nat} (h : sub σ τ ks os) (h1 : ∀ s, s ∉ ks → τ.get s = .any ∨ τ.get s = σ.get s) (h2 : ∀ o, o ∉ os → τ.obj o = none ∨ τ.obj o = σ.obj o) {a : Act} {w : World}
    (hR : RelD P B n ds σ a w) : RelD P B n ds τ a w := by
  obtain ⟨a0, e, hR⟩ := hR
  exact ⟨a0, e, rel_sub h h1 h2 hR⟩

/-- a round's beginning -/
def LoopAtZ (P : Program) (C : Ctx) (A : AnnZ Y) (hk : Hook Y) (Lv : Base → List Deferred → Y → Prop) (x : Code) (K : Ex → St → Y → Prop) (σ : St) (ys : Y) (n : Nat) (a : Act) (w : World) : Prop :=
  ∃ L, A (firstR x) = some L ∧ (∀ y : (L σ ys).X, (L σ ys).inv y → vcgZ C A hk x (headSt (L σ ys).plain (wrCode x) σ y) ((L σ ys).ys y) (fun e σ' ys' => match e with
      | .normal => ∃ x' : (L σ ys).X, sub σ' (headSt (L σ ys).plain (wrCode x) σ x') (union (keys ((L σ ys).sl x')) (union (keys ((L σ ys).sl y)) (keysTo σ'.sl (headSt (L σ ys).plain (wrCode x) σ y).sl.length)))
            (union (keys ((L σ ys).ob x')) (union (keys ((L σ ys).ob y)) (keysTo σ'.ob (headSt (L σ ys).plain (wrCode x) σ y).ob.length))) ∧ ys' = (L σ ys).ys x' ∧ (L σ ys).inv x' ∧ (L σ ys).mu x' < (L σ ys).mu y
      | e => K e σ' ys')) ∧
    ∃ y B ds, (L σ ys).inv y ∧ (L σ ys).mu y = n ∧ Lv B ds ((L σ ys).ys y) ∧ RelD P B C.n ds (headSt (L σ ys).plain (wrCode x) σ y) a w

theorem loopAtZ_round {r : Option Nat} {A : AnnZ Y} {hk : Hook Y} {Lv : Base → List Deferred → Y → Prop} {x : Code} {K : Ex → St → Y → Prop} {Q : Exit → Act → World → Prop} {n : Nat} {a : Act} {σ : St} {ys : Y} {w : World} {J : Act → World → Prop}
    (hrun : ∀ (σ : St) (ys : Y) (K : Ex → St → Y → Prop) (Q : Exit → Act → World → Prop) (a : Act) (w : World) (B : Base) (ds : List Deferred), vcgZ C A hk x σ ys K → Lv B ds ys → RelD P B C.n ds σ a w →
      (∀ e σ' ys' a' w' B' ds', Ext σ σ' → K e σ' ys' → Lv B' ds' ys' → RelD P B' C.n ds' σ' a' w' → Q (toExit e) a' w') → x.wpIn (WF r) 0 P Q a w)
    (hI : LoopAtZ P C A hk Lv x K σ ys n a w) (hQ : ∀ e σ' ys' a' w' B' ds', Ext σ σ' → K e σ' ys' → Lv B' ds' ys' → RelD P B' C.n ds' σ' a' w' → Q (toExit e) a' w')
    (hJ : ∀ n', n' < n → ∀ a' w', LoopAtZ P C A hk Lv x K σ ys n' a' w' → J a' w') : x.wpIn (WF r) 0 P (Exit.then J Q) a w := by
  obtain ⟨L, hL, hround, y, B, ds, hiy, rfl, hlv, hR1⟩ := hI
  generalize hws : wrCode x = ws at hround hR1
  refine hrun _ _ _ _ a w B ds (hround y hiy) hlv hR1 (fun e σ' ys' a' w' B' ds' hE hK hl' hR' => ?_)
  have hE0 : Ext σ (headSt (L σ ys).plain ws σ y) := ⟨⟨(L σ ys).sl y ++ ws.map (fun s => (s, SV.any)), by simp [headSt, LoopZ.plain]⟩, ⟨(L σ ys).ob y ++ ws.map (fun s => (s, none)), by simp [headSt, LoopZ.plain]⟩⟩
  cases e with
  | ret => exact hQ .ret σ' ys' a' w' B' ds' (hE0.trans hE) hK hl' hR'
  | exit id => exact hQ (.exit id) σ' ys' a' w' B' ds' (hE0.trans hE) hK hl' hR'
  | normal =>
    obtain ⟨y', hs', hys, hi', hmu⟩ := hK
    have hrel : RelD P B' C.n ds' (headSt (L σ ys).plain ws σ y') a' w' := by
      refine relD_sub hs' (fun s hs => ?_) (fun o ho => ?_) hR'
      · simp only [mem_union, not_or] at hs
        obtain ⟨k1, k2, k3⟩ := hs
        refine .inr ?_
        obtain ⟨p, hp⟩ := hE.sl
        have hnp : s ∉ keys p := fun hk => k3 (by rw [hp]; exact keysTo_app p _ s hk)
        have e1 : look σ'.sl s = look (ws.map (fun s => (s, SV.any)) ++ σ.sl) s := by
          rw [hp, look_append, look_none_keys _ _ hnp]
          exact head_look (L σ ys).plain ws σ y s k2
        unfold St.get
        rw [e1, head_look (L σ ys).plain ws σ y' s k1]
      · simp only [mem_union, not_or] at ho
        obtain ⟨k1, k2, k3⟩ := ho
        refine .inr ?_
        obtain ⟨p, hp⟩ := hE.ob
        have hnp : o ∉ keys p := fun hk => k3 (by rw [hp]; exact keysTo_app p _ o hk)
        have e1 : look σ'.ob o = look (ws.map (fun s => (s, (none : Option Ob))) ++ σ.ob) o := by
          rw [hp, look_append, look_none_keys _ _ hnp]
          exact head_lookO (L σ ys).plain ws σ y o k2
        simp only [St.obj]
        rw [e1, head_lookO (L σ ys).plain ws σ y' o k1]
    exact hJ _ hmu a' w' ⟨L, hL, by rw [hws]; exact hround, y', B', ds', hi', rfl, by rw [← hys]; exact hl', by rw [hws]; exact hrel⟩

theorem vcgZ_sound {r : Option Nat} (hC : C.ok P) (hm : P.follows .mixedOrders = true) (A : AnnZ Y) (hk : Hook Y) (Lv : Base → List Deferred → Y → Prop) (hcall : CallOK P C r hk Lv) (hrng : RngOK P C r hk Lv) :
    ∀ (c : Code) (σ : St) (ys : Y) (K : Ex → St → Y → Prop) (Q : Exit → Act → World → Prop) (a : Act) (w : World) (B : Base) (ds : List Deferred), vcgZ C A hk c σ ys K → Lv B ds ys → RelD P B C.n ds σ a w →
    (∀ e σ' ys' a' w' B' ds', Ext σ σ' → K e σ' ys' → Lv B' ds' ys' → RelD P B' C.n ds' σ' a' w' → Q (toExit e) a' w') → c.wpIn (WF r) 0 P Q a w
  | .skip, σ, ys, K, Q, a, w, B, ds, h, hL, hR, hQ => wpIn_skip (hQ .normal σ ys a w B ds (Ext.refl _) h hL hR)
  | .region id ops draw, σ, ys, K, Q, a, w, B, ds, h, hL, hR, hQ => by
    simp only [vcgZ] at h
    split at h
    · exact h.elim
    rename_i hnd
    split at h
    · rename_i pre o post hs
      split at h
      case h_2 => exact h.elim
      exact y_sound hC hcall hnd (ySplit_spec _ hs) h hL hR (fun σ' ys' a' w' B' hE hK hl hR' => hQ .normal σ' ys' a' w' B' ds hE hK hl hR')
    · exact vreg_in hC hm hnd h hR (fun σ' a' w' hE hK hR' => hQ .normal σ' ys a' w' B ds hE hK hL hR')
  | .seq x y, σ, ys, K, Q, a, w, B, ds, h, hL, hR, hQ => by
    simp only [vcgZ] at h
    refine wpIn_seq (vcgZ_sound hC hm A hk Lv hcall hrng x σ ys _ _ a w B ds h hL hR (fun e σ' ys' a' w' B' ds' hE hK hl hR' => ?_))
    cases e with
    | normal => exact vcgZ_sound hC hm A hk Lv hcall hrng y σ' ys' K Q a' w' B' ds' hK hl hR' (fun e2 σ2 ys2 a2 w2 B2 ds2 hE2 => hQ e2 σ2 ys2 a2 w2 B2 ds2 (hE.trans hE2))
    | ret => exact hQ .ret σ' ys' a' w' B' ds' hE hK hl hR'
    | exit id => exact hQ (.exit id) σ' ys' a' w' B' ds' hE hK hl hR'
  | .cond c x y, σ, ys, K, Q, a, w, B, ds, h, hL, hR, hQ => by
    simp only [vcgZ] at h
    split at h
    case h_2 => exact h.elim
    rename_i β hc
    have hv : a.eval c = .bool β := by
      obtain ⟨a0, rfl, _, _, ρ, _, hSl, _⟩ := hR
      have := den_opnd (P := P) (ρ := ρ) hSl c
      rw [hc] at this
      rw [addD_eval]
      exact bool_of_rv (by simpa only [SV.den] using this)
    refine wpIn_cond_split hv (fun hb => vcgZ_sound hC hm A hk Lv hcall hrng x σ ys K Q a w B ds (h.1 hb) hL hR hQ) (fun hb => vcgZ_sound hC hm A hk Lv hcall hrng y σ ys K Q a w B ds (h.2 hb) hL hR hQ)
  | .block id x, σ, ys, K, Q, a, w, B, ds, h, hL, hR, hQ => by
    simp only [vcgZ] at h
    refine wpIn_block (vcgZ_sound hC hm A hk Lv hcall hrng x σ ys _ _ a w B ds h hL hR (fun e σ' ys' a' w' B' ds' hE hK hl hR' => ?_))
    cases e with
    | normal => exact hQ .normal σ' ys' a' w' B' ds' hE hK hl hR'
    | ret => exact hQ .ret σ' ys' a' w' B' ds' hE hK hl hR'
    | exit id' =>
      simp only [toExit, Exit.inBlock]
      simp only at hK
      split at hK
      · rename_i hb
        have := Nat.eq_of_beq_eq_true hb
        subst this
        rw [if_pos rfl]
        exact hQ .normal σ' ys' a' w' B' ds' hE hK hl hR'
      · rename_i hb
        rw [if_neg (fun e => beq_of_refs hb e.symm)]
        exact hQ (.exit id') σ' ys' a' w' B' ds' hE hK hl hR'
  | .loop x, σ, ys, K, Q, a, w, B, ds, h, hL, hR, hQ => by
    simp only [vcgZ] at h
    have hrun := fun (σ : St) (ys : Y) (K : Ex → St → Y → Prop) (Q : Exit → Act → World → Prop) (a : Act) (w : World) (B : Base) (ds : List Deferred) => vcgZ_sound hC hm A hk Lv hcall hrng x σ ys K Q a w B ds
    have h0 : ∃ n, LoopAtZ P C A hk Lv x K σ ys n a w := by
      unfold loopZ at h
      split at h
      · exact h.elim
      rename_i L hLA
      obtain ⟨⟨x0, hs0, hy0, hi0⟩, hround⟩ := h
      exact ⟨_, L, hLA, hround, x0, B, ds, hi0, rfl, by rw [← hy0]; exact hL, relD_sub hs0 (fun s hs => head_get (L σ ys).plain (wrCode x) σ x0 s hs) (fun o ho => head_obj (L σ ys).plain (wrCode x) σ x0 o ho) hR⟩
    obtain ⟨n0, h0⟩ := h0
    refine wpIn_loop_wf (fun (m n : Nat) => m < n) Nat.lt_wfRel.wf (fun n a' w' => LoopAtZ P C A hk Lv x K σ ys n a' w') n0 h0 ?_
    intro n a1 w1 hI
    exact loopAtZ_round hrun hI (fun e σ' ys' a' w' B' ds' hE hK hl hR' => hQ e σ' ys' a' w' B' ds' hE hK hl hR') (fun m' hlt a' w' h' => ⟨m', hlt, h'⟩)
  | .exit id, σ, ys, K, Q, a, w, B, ds, h, hL, hR, hQ => wpIn_exit (hQ (.exit id) σ ys a w B ds (Ext.refl _) h hL hR)
  | .ret, σ, ys, K, Q, a, w, B, ds, h, hL, hR, hQ => wpIn_ret (hQ .ret σ ys a w B ds (Ext.refl _) h hL hR)
  | .rangeFunc g ps as b, σ, ys, K, Q, a, w, B, ds, h, hL, hR, hQ => by
    simp only [vcgZ] at h
    exact hrng g ps as b σ ys _ B ds a w Q h hL hR (fun σ' ys' a' w' B' ds' hK hE hl hR' => hQ .normal σ' ys' a' w' B' ds' hE hK hl hR')
  | .scope _, _, _, _, _, _, _, _, _, h, _, _, _ => h.elim
  | .label _, _, _, _, _, _, _, _, _, h, _, _, _ => h.elim
  | .goto _, _, _, _, _, _, _, _, _, h, _, _, _ => h.elim
  | .refuse _, _, _, _, _, _, _, _, _, h, _, _, _ => h.elim

end
end Go.X
/-
  Iterators: functions that are handed 'yield'. What their caller keeps; what each promises the other; bodies that call 'yield', and functions within them that do.
-/
namespace Go.X
open Go.RowKit (Below)

/-- what the caller of an iterator keeps while it runs: by what has come, the blocks that it has laid since, and the world -/
abbrev Res (D : Type) := List D → (Nat → Prop) → Imm → World → Prop

/-- an iterator's own steps leave it be; 'B0': where the iterator's blocks begin -/
def Res.stable {D : Type} (R : Res D) (B0 : Nat) : Prop :=
  ∀ pre fp H w H' w', R pre fp H w → w'.os = w.os → w'.tape = w.tape → w'.output = w.output → w.drawn ≤ w'.drawn → w.heap.size ≤ w'.heap.size → Good H' w' → (∀ b c, H b = some c → H' b = some c) →
    (∀ b, b < w.heap.size → (b < B0 ∨ fp b) → w'.heap[b]? = w.heap[b]? ∧ H' b = H b) → R pre fp H' w'

/-- what a call of 'yield' leaves, to the iterator -/
structure YLeft (B0 : Nat) (fp : Nat → Prop) (H : Imm) (w : World) (fp' : Nat → Prop) (H' : Imm) (w' : World) : Prop where
  size : w.heap.size ≤ w'.heap.size
  good : Good H' w'
  mono : ∀ b c, H b = some c → H' b = some c
  own : ∀ b, b < w.heap.size → B0 ≤ b → ¬ fp b → w'.heap[b]? = w.heap[b]? ∧ H' b = H b
  fp : ∀ b, fp' b → (fp b ∨ w.heap.size ≤ b) ∧ b < w'.heap.size ∧ B0 ≤ b

/-- the word of the caller: each round, at what may come -/
def YB (P : Program) (ts : List Ty) (B0 l : Nat) (R Rx : Res (Ty.st ts).Data) (Pm : List (Ty.st ts).Data → Prop) : Prop :=
  ∀ pre x vals fp H w, Pm (pre ++ [x]) → R pre fp H w → Good H w → B0 ≤ w.heap.size → (∀ b, fp b → b < w.heap.size ∧ B0 ≤ b) → rvs H ts vals x →
    YieldAt Fence.wide 0 P l vals.toArray w (fun e w' => ∃ β fp' H', e = .returned (.bool β) ∧ YLeft B0 fp H w fp' H' w' ∧ (match β with | true => R (pre ++ [x]) fp' H' w' | false => Rx (pre ++ [x]) fp' H' w'))

/-- an iterator that yields one of these lists -/
def SeqV (P : Program) (H : Imm) (ts : List Ty) (L : List (Ty.st ts).Data → Prop) (v : Value) : Prop :=
  ∃ g lb, v = .func (.func g) #[] lb ∧ enters P g ∧ ∀ H1 w l (R Rx : Res (Ty.st ts).Data), (∀ b c, H b = some c → H1 b = some c) → Good H1 w → R.stable w.heap.size → Rx.stable w.heap.size →
    YB P ts w.heap.size l R Rx (fun q => ∃ rest, L (q ++ rest)) → R [] (fun _ => False) H1 w →
    Calls P g (#[.func (.yield l) #[] #[]] ++ lb) w (fun e w' => ∃ v, e = .returned v ∧ ((∃ xs fp' H', L xs ∧ R xs fp' H' w') ∨ (∃ q fp' H', Rx q fp' H' w')))

theorem SeqV.mono {P : Program} {H H' : Imm} (hH : ∀ b c, H b = some c → H' b = some c) {ts : List Ty} {L : List (Ty.st ts).Data → Prop} {v : Value} (h : SeqV P H ts L v) : SeqV P H' ts L v := by
  obtain ⟨g, lb, e, en, k⟩ := h
  exact ⟨g, lb, e, en, fun H1 w l R Rx h1 => k H1 w l R Rx (fun b c hb => h1 b c (hH b c hb))⟩

/-! ### Bodies that call 'yield' -/

/-- what has been yielded; does the caller want more? -/
abbrev YS (ts : List Ty) := List (Ty.st ts).Data × Bool

def yieldL : Value → Option Nat
  | .func (.yield l) f c => match f.toList, c.toList with
    | [], [] => some l
    | _, _ => none
  | _ => none

abbrev Inl (ts : List Ty) := List SV → St → YS ts → (SV → St → YS ts → Prop) → Prop

def hkY (ts : List Ty) (l : Nat) (sps : List Nat) (Pm : List (Ty.st ts).Data → Prop) (inl : Nat → Option (Inl ts)) : Hook (YS ts) :=
  ⟨fun d => memb sps d, fun cal args τ ys K => match ys.2 with
    | false => False
    | true => match cal with
      | .lit v => match yieldL v with
        | some l' => l' = l ∧ (match zipTy τ ts args with
          | some (d, fz) => Pm (ys.1 ++ [d]) ∧ K (.dat .bool true) (τ.frz fz) (ys.1 ++ [d], true) ∧ K (.dat .bool false) (τ.frz fz) (ys.1 ++ [d], false)
          | none => False)
        | none => False
      | .clo f caps => match inl f with
        | some run => run (args ++ caps) τ ys K
        | none => False
      | _ => False, fun _ _ _ _ _ _ _ => False⟩

/-- the caller's things, kept by an iterator under way -/
def LvY (ts : List Ty) (B0 : Nat) (R Rx : Res (Ty.st ts).Data) (B : Base) (ds : List Deferred) (ys : YS ts) : Prop :=
  ds = [] ∧ B0 ≤ B.w.heap.size ∧ (∀ b, b ∈ B.bor → B0 ≤ b) ∧ ∃ fp : Nat → Prop, (∀ b, fp b → B0 ≤ b ∧ b < B.w.heap.size ∧ b ∉ B.bor) ∧ (match ys.2 with | true => R ys.1 fp B.H B.w | false => Rx ys.1 fp B.H B.w)

section
variable {P : Program} {C : Ctx} {ts : List Ty}

theorem addD_nil (a : Act) : addD [] a = a := by simp [addD]

/-- a state, seen from where the world now is -/
theorem sat_rebase {B : Base} {ρ : Env} {σ : St} {w w' : World} {H' : Imm} (hS : Sat P B ρ σ.obj w) (hg : Good H' w') (hm : ∀ b c, ρ.H b = some c → H' b = some c)
    (hk : ∀ o b C, ρ.blk o = some (some (b, C)) → w'.heap[b]? = w.heap[b]? ∧ H' b = ρ.H b) :
    Sat P { B with w := w', H := H', bor := borOf ρ (keys σ.ob) } { ρ with H := H' } σ.obj w' := by
  have hle : ρ.le { ρ with H := H' } [] := ⟨hm, fun _ _ _ h => h, fun _ _ => rfl⟩
  refine ⟨rfl, rfl, rfl, Nat.le_refl _, Nat.le_refl _, hg, fun _ _ _ => rfl, fun _ _ _ => rfl, ?_, hS.dead, hS.inj, ?_⟩
  · intro o x hx
    obtain ⟨p, hp, hs⟩ := hS.obs o x hx
    refine ⟨p, hp, obSat_mono hle (by simp) (fun _ _ _ _ o' ho' => by simp at ho') (fun b C' hpb => ?_) hs⟩
    subst hpb
    have := hk o b C' hp
    exact ⟨this.2, this.1⟩
  · intro o b C' hp
    refine .inr ((mem_borOf _).2 ⟨o, C', ?_, hp⟩)
    refine Classical.byContradiction fun hno => ?_
    have hn : σ.obj o = none := by
      simp only [St.obj]
      rw [look_none_keys _ _ hno]
    have := hS.dead o hn
    rw [hp] at this; cases this

theorem ext_frz (σ : St) (fz : List Nat) : Ext σ (σ.frz fz) := ⟨⟨[], rfl⟩, ⟨_, rfl⟩⟩

/-- a body, run in its caller's things -/
def InlOK (P : Program) (f : Nat) (run : Inl ts) (Lv : Base → List Deferred → YS ts → Prop) : Prop :=
  enters P f ∧ ∀ svs σ ys K B ρ w vals, run svs σ ys K → Sat P B ρ σ.obj w → Pin B ρ → SV.denL P ρ svs vals → Lv B [] ys →
    Calls P f vals.toArray w (fun e w' => ∃ v, e = .returned v ∧ ∃ sv τ ys' B' ρ', K sv τ ys' ∧ Ext σ τ ∧ (∀ s, τ.get s = .any) ∧ Lv B' [] ys' ∧ Sat P B' ρ' τ.obj w' ∧ Pin B' ρ' ∧ SV.den P ρ' sv v)

theorem run_yieldOp {o : Oper} {c : Call} {f : Operand} {ev : Operand → Value} {l : Nat} {w : World} (hop : o.op = .call c) (hc : c.callee = .value f) (e : ev f = .func (.yield l) #[] #[]) :
    (execOp ev o).run P w = (Instr.yield l (c.args.map ev)).run P w := by
  simp only [execOp, hop, Sem.run_bind, resolve, hc, Deferred.ofValue, e, Sem.run_pure, Result.andThen_ok, invoke]
  simp

theorem callOK_Y {l B0 : Nat} {R Rx : Res (Ty.st ts).Data} {sps : List Nat} {Pm : List (Ty.st ts).Data → Prop} {inl : Nat → Option (Inl ts)} (hR : R.stable B0) (hB : YB P ts B0 l R Rx Pm)
    (hinl : ∀ f run, inl f = some run → InlOK P f run (LvY ts B0 R Rx)) : CallOK P C none (hkY ts l sps Pm inl) (LvY ts B0 R Rx) := by
  intro o c f d σ ys K B ds a w next Q hop hc hdst hd h hL hRel hK
  obtain ⟨rfl, hB0, hbor, fp, hfp, hres⟩ := hL
  obtain ⟨a0, rfl, hd0, hn0, ρ, hS, hSl, hPin⟩ := hRel
  rw [addD_nil] at hK ⊢
  have hnd : ∀ c, o.op ≠ .defer c := fun c e => by rw [hop] at e; cases e
  have hfv := den_opnd (P := P) (ρ := ρ) hSl f
  have hargs := denL_map (P := P) (ρ := ρ) (σ := σ) (fun x => den_opnd (P := P) (ρ := ρ) hSl x) c.args.toList
  refine ⟨fun _ _ => trivial, ?_⟩
  rw [Oper.semAt_eq _ _ _ hnd]
  simp only [hkY] at h
  split at h
  · exact h.elim
  rename_i hlive
  rw [hlive] at hres
  simp only at hres
  split at h
  · rename_i v hv
    split at h
    case h_2 => exact h.elim
    rename_i l' hl'
    obtain ⟨rfl, h⟩ := h
    split at h
    case h_2 => exact h.elim
    rename_i x fz hz
    obtain ⟨hPm, hK1, hK2⟩ := h
    rw [hv] at hfv
    simp only [SV.den] at hfv
    have hev : a0.eval f = .func (.yield l') #[] #[] := by
      rw [hfv]
      unfold yieldL at hl'
      split at hl'
      · split at hl'
        · rename_i e1 e2
          simp at hl'; subst hl'
          have e1 := Array.toList_inj.1 (show _ = (#[] : Array Value).toList from e1)
          have e2 := Array.toList_inj.1 (show _ = (#[] : Array Value).toList from e2)
          rw [e1, e2]
        · cases hl'
      · cases hl'
    rw [run_yieldOp hop hc hev]
    obtain ⟨ρ1, hS1, hle1, hblk1, hlen1⟩ := freeze_sat fz hS
    have hrv := zipTy_sound hS1 (fz_frz σ fz) hz (fun o ho => ho) (SV.denL_mono hle1 _ _ (fun o ho => by simp at ho) hargs)
    have hmono : ∀ b c, B.H b = some c → ρ1.H b = some c := fun b c hb => hle1.H b c (hPin.2 b c hb)
    have hR1 : R ys.1 fp ρ1.H w := hR _ _ _ _ _ _ hres hS1.os hS1.tape hS1.output hS1.drawn hS1.size hS1.good hmono (fun b hb hor => by
      have hnb : b ∉ B.bor := by
        rcases hor with hor | hor
        · intro hm; have := hbor b hm; omega
        · exact (hfp b hor).2.2
      exact ⟨hS1.old b hb hnb, hS1.oldH b hb hnb⟩)
    have hblk : ∀ o b Cp, ρ1.blk o = some (some (b, Cp)) → b < w.heap.size ∧ B0 ≤ b ∧ ¬ fp b := by
      intro o b Cp hb
      refine ⟨(blk_lt (σ := σ.frz fz) hS1 hb).1, ?_, fun hf => ?_⟩
      · rcases hS1.own o b Cp hb with h1 | h1
        · omega
        · exact hbor b h1
      · have := hfp b hf
        rcases hS1.own o b Cp hb with h1 | h1
        · omega
        · exact this.2.2 h1
    obtain ⟨fn, tmps, as, body, hy, hround⟩ := hB ys.1 x _ fp ρ1.H w hPm hR1 hS1.good (Nat.le_trans hB0 hS1.size) (fun b hb => ⟨Nat.lt_of_lt_of_le (hfp b hb).2.1 hS1.size, (hfp b hb).1⟩) hrv
    have hy' : (Instr.yield l' (c.args.map a0.eval)).run P w = .ok (.round l' fn tmps as body) w := by
      rw [← hy]; congr 2; apply Array.toList_inj.1; simp
    rw [hy']
    simp only [Oper.uponIn]
    refine ⟨fun hd => by simp [Fence.wide] at hd, ?_⟩
    refine RoundIn.mono (F := WF none) (n := 0) hround fun e w' he => ?_
    obtain ⟨β, fp', H', rfl, hY, hres'⟩ := he
    simp only
    rw [hdst]
    let B' : Base := { B with w := w', H := H', bor := borOf ρ1 (keys (σ.frz fz).ob) }
    have hS2 : Sat P B' { ρ1 with H := H' } (σ.frz fz).obj w' := sat_rebase hS1 hY.good hY.mono (fun o b Cp hb => by
      obtain ⟨k1, k2, k3⟩ := hblk o b Cp hb
      exact hY.own b k1 k2 k3)
    have hle2 : ρ.le { ρ1 with H := H' } [] := hle1.trans ⟨hY.mono, fun _ _ _ h => h, fun _ _ => rfl⟩
    have hL' : LvY ts B0 R Rx B' [] (ys.1 ++ [x], β) := by
      refine ⟨rfl, Nat.le_trans hB0 (Nat.le_trans hS1.size hY.size), fun b hb => ?_, fp', fun b hb => ?_, ?_⟩
      · obtain ⟨o, Cp, _, h1⟩ := (mem_borOf _).1 hb
        exact (hblk o b Cp h1).2.1
      · obtain ⟨g1, g2, g3⟩ := hY.fp b hb
        refine ⟨g3, g2, fun hm => ?_⟩
        obtain ⟨o, Cp, _, h1⟩ := (mem_borOf _).1 hm
        obtain ⟨k1, k2, k3⟩ := hblk o b Cp h1
        rcases g1 with g1 | g1
        · exact k3 g1
        · omega
      · cases β <;> exact hres'
    have hP2 : Pin B' { ρ1 with H := H' } := ⟨fun o p ho hp => by
      have := hPin.1 o p ho (by rw [← hblk1]; exact hp)
      exact ⟨this.1, by show ρ1.len o = _; rw [hlen1]; exact this.2⟩, fun _ _ hb => hb⟩
    have fin : RelD P B' C.n [] ⟨(d, .dat .bool β) :: (σ.frz fz).sl, (σ.frz fz).ob⟩ (a0.put (some d) (.bool β)) w' := by
      refine ⟨_, (addD_nil _).symm, by simpa [Act.put] using hd0, by simpa [Act.put] using hn0, _, hS2, ?_, hP2⟩
      intro s y hx
      simp only [Act.put]
      by_cases hs : s = d
      · subst hs
        rw [look_cons_eq] at hx
        simp at hx; subst hx
        simp only [Array.getD_eq_getD_getElem?, Array.getElem?_setIfInBounds]
        simp only [if_true]
        rw [if_pos (by rw [hn0]; exact hd)]
        exact rv_bool _
      · rw [look_cons_ne (fun h => hs h.symm)] at hx
        simp only [Array.getD_eq_getD_getElem?, Array.getElem?_setIfInBounds]
        rw [if_neg (fun h => hs h.symm)]
        have := SV.den_mono hle2 _ _ (fun r hr => by simp at hr) (hSl s y hx)
        simpa only [Array.getD_eq_getD_getElem?] using this
    cases β with
    | true => exact hK _ _ _ _ _ _ hK1 (ext_frz σ fz) hL' fin
    | false => exact hK _ _ _ _ _ _ hK2 (ext_frz σ fz) hL' fin
  · rename_i k caps hv
    split at h
    case h_2 => exact h.elim
    rename_i run hrun
    obtain ⟨hen, hcall⟩ := hinl k run hrun
    rw [hv] at hfv
    simp only [SV.den] at hfv
    obtain ⟨vs, ef, hcaps⟩ := hfv
    have hall := denL_append _ _ _ _ hargs hcaps
    have hex : (execOp a0.eval o).run P w = .ok (.enter k (c.args.map a0.eval ++ vs)) w := by
      simp only [execOp, hop, Sem.run_bind, resolve, hc, Deferred.ofValue, ef, Sem.run_pure, Result.andThen_ok, invoke]
      rw [← hen (c.args.map a0.eval ++ vs) w]
      simp
    rw [hex]
    simp only [Oper.uponIn]
    refine ⟨fun hd => by simp [Fence.wide] at hd, callsIn_wf.2 ?_⟩
    have hc1 := hcall _ σ ys K B ρ w _ h hS hPin hall ⟨rfl, hB0, hbor, fp, hfp, by rw [hlive]; exact hres⟩
    rw [show (c.args.toList.map a0.eval ++ vs.toList).toArray = c.args.map a0.eval ++ vs from by apply Array.toList_inj.1; simp] at hc1
    refine hc1.mono fun e w' he => ?_
    obtain ⟨v, rfl, sv, τ, ys', B', ρ', hk, hE, hany, hL', hS', hP', hdv⟩ := he
    simp only
    rw [hdst]
    refine hK sv τ ys' v w' B' hk hE hL' ⟨_, (addD_nil _).symm, by simpa [Act.put] using hd0, by simpa [Act.put] using hn0, ρ', hS', ?_, hP'⟩
    intro s y hx
    simp only [Act.put]
    by_cases hs : s = d
    · subst hs
      rw [look_cons_eq] at hx
      simp at hx; subst hx
      simp only [Array.getD_eq_getD_getElem?, Array.getElem?_setIfInBounds]
      simp only [if_true]
      rw [if_pos (by rw [hn0]; exact hd)]
      exact hdv
    · rw [look_cons_ne (fun h => hs h.symm)] at hx
      have := hany s
      unfold St.get at this
      rw [hx] at this
      simp only at this
      subst this
      simp [SV.den]
  · exact h.elim

theorem rngOK_Y {l B0 : Nat} {R Rx : Res (Ty.st ts).Data} {sps : List Nat} {Pm : List (Ty.st ts).Data → Prop} {inl : Nat → Option (Inl ts)} {r : Option Nat} : RngOK P C r (hkY ts l sps Pm inl) (LvY ts B0 R Rx) :=
  fun _ _ _ _ _ _ _ _ _ _ _ _ h _ _ _ => h.elim

end
end Go.X
/-
  Iterators, shown right by their bodies; functions within them, run in their caller's things.
-/
namespace Go.X
open Go.RowKit (Below)

def initSV : List SV → Nat → List (Nat × SV)
  | [], _ => []
  | v :: r, i => (i, v) :: initSV r (i + 1)

def dropAll (σ : St) : List (Nat × SV) := (keys σ.sl).map (fun s => (s, SV.any))

def inlRun {ts : List Ty} (C : Ctx) (A : AnnZ (YS ts)) (hk : Hook (YS ts)) (body : Code) : Inl ts := fun svs σ ys K =>
  match Nat.ble svs.length C.n with
  | false => False
  | true => vcgZ C A hk body ⟨initSV svs 0, σ.ob⟩ ys (fun e σ' ys' => match e with
    | .exit _ => False
    | _ => K .any ⟨dropAll σ ++ σ.sl, σ'.ob⟩ ys')

@[irreducible] def seqVC (C : Ctx) (body : Code) (ts : List Ty) (caps : List Par) (L : PD caps → List (Ty.st ts).Data → Prop) (pre : PD caps → List Prop) (A : PD caps → Nat → AnnZ (YS ts)) (hk : PD caps → Nat → Hook (YS ts)) : Prop :=
  ∀ (d : PD caps) (l : Nat), gives (pre d) (vcgZ C (A d l) (hk d l) body ⟨(0, .lit (.func (.yield l) #[] #[])) :: initSl caps d 1, []⟩ ([], true) (fun e _ ys => match e with
    | .exit _ => False
    | _ => ys.2 = true → L d ys.1))

section
variable {P : Program} {C : Ctx} {ts : List Ty}

theorem initSV_den {ρ : Env} : ∀ (svs : List SV) (vals : List Value) (i : Nat), SV.denL P ρ svs vals → ∀ s v, look (initSV svs i) s = some v → ∃ x, vals[s - i]? = some x ∧ SV.den P ρ v x ∧ i ≤ s
  | [], _, _, _, _, _, h => by simp [initSV, look] at h
  | u :: r, vals, i, hd, s, v, h => by
    simp only [SV.denL] at hd
    obtain ⟨x, r', rfl, h1, h2⟩ := hd
    simp only [initSV, look] at h
    cases hb : Nat.beq i s with
    | true =>
      have := Nat.eq_of_beq_eq_true hb; subst this
      rw [hb] at h; simp at h; subst h
      exact ⟨x, by simp, h1, Nat.le_refl _⟩
    | false =>
      rw [hb] at h
      obtain ⟨y, k1, k2, k3⟩ := initSV_den r r' (i + 1) h2 s v h
      exact ⟨y, by rw [show s - i = (s - (i + 1)) + 1 by omega]; simpa using k1, k2, by omega⟩

theorem frame_get {vals : List Value} {n k : Nat} {x : Value} (h : vals[k]? = some x) : (vals.toArray ++ Array.replicate n undef).getD k undef = x := by
  have hlt := (List.getElem?_eq_some_iff.1 h).1
  rw [Array.getD_eq_getD_getElem?, Array.getElem?_append_left (by simpa using hlt)]
  simp [h]

theorem look_any : ∀ (ks : List Nat) (s : Nat), s ∈ ks → look (ks.map (fun s => (s, SV.any))) s = some SV.any
  | [], s, h => by simp at h
  | k :: r, s, h => by
    simp only [List.map_cons, look]
    cases hb : Nat.beq k s with
    | true => rfl
    | false =>
      rcases List.mem_cons.1 h with h | h
      · exact absurd h.symm (beq_of_refs hb)
      · exact look_any r s h

theorem inl_ok (hC : C.ok P) (hm : P.follows .mixedOrders = true) {f : Nat} {fn : Func} {body : Code} (hf : P.funcs[f]? = some fn) (hb : fn.body = some body) (hname : (fn.name == "runtime.NumGoroutine") = false) (hn : fn.ntmps = C.n)
    (hres : fn.results.toList = []) (A : AnnZ (YS ts)) (hk : Hook (YS ts)) {B0 : Nat} {R Rx : Res (Ty.st ts).Data} (hcall : CallOK P C none hk (LvY ts B0 R Rx)) (hrng : RngOK P C none hk (LvY ts B0 R Rx)) :
    InlOK P f (inlRun C A hk body) (LvY ts B0 R Rx) := by
  refine ⟨enters_of hf hb hname, fun svs σ ys K B ρ w vals h hS hPin hd hL => ?_⟩
  unfold inlRun at h
  split at h
  · exact h.elim
  rename_i hle
  have hle := Nat.le_of_ble_eq_true hle
  have hlen := denL_length _ _ hd
  refine calls_of_wp hf hb (wpIn_wf.1 ?_)
  have hR : RelD P B C.n [] ⟨initSV svs 0, σ.ob⟩ { tmps := vals.toArray ++ Array.replicate (fn.ntmps - vals.toArray.size) undef, defers := [] } w := by
    refine ⟨_, (addD_nil _).symm, rfl, by simp; omega, ρ, hS, ?_, hPin⟩
    intro k v hk
    obtain ⟨x, h1, h2, _⟩ := initSV_den svs vals 0 hd k v hk
    rw [frame_get (by simpa using h1)]
    exact h2
  refine vcgZ_sound hC hm A hk _ hcall hrng body _ ys _ _ _ w B [] h hL hR (fun e σ' ys' a' w' B' ds' hE hK hL' hR' => ?_)
  have hds : ds' = [] := hL'.1
  subst hds
  obtain ⟨a1, rfl, q1, q2, ρ', q3, q4, q5⟩ := hR'
  rw [addD_nil]
  have main : K .any ⟨dropAll σ ++ σ.sl, σ'.ob⟩ ys' → a1.defers = [] ∧ ∃ v, (Go.results fn a1.tmps).run P w' = .ok v w' ∧ (∃ v', (Ending.returned v) = .returned v' ∧ ∃ sv τ ys' B' ρ', K sv τ ys' ∧ Ext σ τ ∧ (∀ s, τ.get s = .any) ∧ LvY ts B0 R Rx B' [] ys' ∧ Sat P B' ρ' τ.obj w' ∧ Pin B' ρ' ∧ SV.den P ρ' sv v') := by
    intro hK'
    refine ⟨q1, _, run_resultsC (vs := []) (by rw [hres]; rfl), _, rfl, _, _, ys', B', ρ', hK', ⟨⟨_, rfl⟩, hE.ob⟩, fun s => ?_, hL', q3, q5, by simp [SV.den]⟩
    unfold St.get
    simp only
    rw [look_append]
    by_cases hs : s ∈ keys σ.sl
    · rw [show look (dropAll σ) s = some SV.any from look_any _ s hs]
    · have h1 : look (dropAll σ) s = none := by
        rcases look_const SV.any (keys σ.sl) s with e | e
        · exact e
        · exact absurd (by have := look_mem _ _ _ e; simp at this; exact this) hs
      rw [h1]
      simp only
      rw [look_none_keys _ _ hs]
  cases e with
  | normal => exact main hK
  | ret => exact main hK
  | exit id => exact hK.elim

/-- an iterator's contract, out of its body -/
theorem seq_ok (hC : C.ok P) (hm : P.follows .mixedOrders = true) {g : Nat} {fn : Func} {body : Code} (hf : P.funcs[g]? = some fn) (hb : fn.body = some body) (hname : (fn.name == "runtime.NumGoroutine") = false) (hn : fn.ntmps = C.n)
    (hres : fn.results.toList = []) {caps : List Par} (hps : caps.length + 1 ≤ C.n) {L : PD caps → List (Ty.st ts).Data → Prop} {pre : PD caps → List Prop} {A : PD caps → Nat → AnnZ (YS ts)} {hk : PD caps → Nat → Hook (YS ts)}
    (h : seqVC C body ts caps L pre A hk) (hcall : ∀ d l B0 R Rx, Res.stable R B0 → Res.stable Rx B0 → YB P ts B0 l R Rx (fun q => ∃ rest, L d (q ++ rest)) → CallOK P C none (hk d l) (LvY ts B0 R Rx) ∧ RngOK P C none (hk d l) (LvY ts B0 R Rx))
    {H : Imm} {lb : Array Value} {d : PD caps} (hd : pvs P H caps lb.toList d) (hpre : AllP (pre d)) : SeqV P H ts (L d) (.func (.func g) #[] lb) := by
  unfold seqVC at h
  refine ⟨g, lb, rfl, enters_of hf hb hname, fun H1 w l R Rx hH hg hR hRx hY hR0 => ?_⟩
  obtain ⟨hc, hr⟩ := hcall d l w.heap.size R Rx hR hRx hY
  have hv := gives_all _ _ (h d l) hpre
  have hd1 := pvs.mono hH hd
  have hlen := pvs_length hd1
  refine calls_of_wp hf hb (wpIn_wf.1 ?_)
  let ρ : Env := ⟨H1, fun _ => none, fun _ => 0⟩
  let B : Base := ⟨w, H1, [], fun _ => none, fun _ => 0⟩
  have hS : Sat P B ρ (⟨(0, .lit (.func (.yield l) #[] #[])) :: initSl caps d 1, []⟩ : St).obj w := by
    refine ⟨rfl, rfl, rfl, Nat.le_refl _, Nat.le_refl _, hg, fun _ _ _ => rfl, fun _ _ _ => rfl, ?_, fun _ _ => rfl, ?_, ?_⟩
    · intro o x hx; simp [St.obj, look] at hx
    · intro o o' b C1 C2 h1; simp [ρ] at h1
    · intro o b C1 h1; simp [ρ] at h1
  have earr : #[Value.func (.yield l) #[] #[]] ++ lb = (Value.func (.yield l) #[] #[] :: lb.toList).toArray := by apply Array.toList_inj.1; simp
  rw [earr]
  have hRel : RelD P B C.n [] ⟨(0, .lit (.func (.yield l) #[] #[])) :: initSl caps d 1, []⟩ { tmps := (Value.func (.yield l) #[] #[] :: lb.toList).toArray ++ Array.replicate (fn.ntmps - (Value.func (.yield l) #[] #[] :: lb.toList).toArray.size) undef, defers := [] } w := by
    refine ⟨_, (addD_nil _).symm, rfl, by simp at hlen ⊢; omega, ρ, hS, ?_, fun o p _ hb => by simp [ρ] at hb, fun _ _ hb => hb⟩
    intro k v hk
    cases k with
    | zero =>
      rw [look_cons_eq] at hk
      simp at hk; subst hk
      rw [frame_get (x := .func (.yield l) #[] #[]) rfl]
      simp [SV.den]
    | succ k =>
      rw [look_cons_ne (by omega)] at hk
      obtain ⟨x, h1, h2⟩ := initSl_den (P := P) (ρ := ρ) caps lb.toList d 1 hd1 _ v hk
      rw [frame_get (x := x) (by simpa using h1)]
      exact h2
  refine vcgZ_sound hC hm (A d l) (hk d l) _ hc hr body _ _ _ _ _ w B [] hv ⟨rfl, Nat.le_refl _, fun b hb => by simp [B] at hb, fun _ => False, fun _ hb => hb.elim, hR0⟩ hRel (fun e σ' ys' a' w' B' ds' hE hK hL' hR' => ?_)
  obtain ⟨rfl, hB0, hbor, fp, hfp, hlive⟩ := hL'
  obtain ⟨a1, rfl, q1, q2, ρ', q3, q4, q5⟩ := hR'
  rw [addD_nil]
  have move : ∀ (Z : Res (Ty.st ts).Data), Z.stable w.heap.size → Z ys'.1 fp B'.H B'.w → Z ys'.1 fp ρ'.H w' := fun Z hZ hz =>
    hZ _ _ _ _ _ _ hz q3.os q3.tape q3.output q3.drawn q3.size q3.good q5.2 (fun b hb hor => by
      have hnb : b ∉ B'.bor := by
        rcases hor with hor | hor
        · intro hm; have := hbor b hm; omega
        · exact (hfp b hor).2.2
      exact ⟨q3.old b hb hnb, q3.oldH b hb hnb⟩)
  have main : (ys'.2 = true → L d ys'.1) → a1.defers = [] ∧ ∃ v, (Go.results fn a1.tmps).run P w' = .ok v w' ∧ ∃ v', (Ending.returned v) = .returned v' ∧ ((∃ xs fp' H', L d xs ∧ R xs fp' H' w') ∨ (∃ q fp' H', Rx q fp' H' w')) := by
    intro hK'
    refine ⟨q1, _, run_resultsC (vs := []) (by rw [hres]; rfl), _, rfl, ?_⟩
    cases hy : ys'.2 with
    | true => rw [hy] at hlive; exact .inl ⟨_, fp, _, hK' hy, move R hR hlive⟩
    | false => rw [hy] at hlive; exact .inr ⟨_, fp, _, move Rx hRx hlive⟩
  cases e with
  | normal => exact main hK
  | ret => exact main hK
  | exit id => exact hK.elim

end
end Go.X
/-
  Things that are handed over and kept, over changes elsewhere.
-/
namespace Go.X
open Go.RowKit (Below)

/-- the kept things, with new contents -/
def setK : (ps : List OPar) → OD ps → KD ps → OD ps
  | [], _, _ => ()
  | .own _ true :: ps, d, k => (k.1, setK ps d.2 k.2)
  | .own _ false :: ps, d, k => (d.1, setK ps d.2 k)
  | .val _ :: ps, d, k => (d.1, setK ps d.2 k)
  | .ref _ :: ps, d, k => (d.1, setK ps d.2 k)
  | .nil :: ps, d, k => (d.1, setK ps d.2 k)
  | .clo _ :: ps, d, k => (d.1, setK ps d.2 k)
  | .fn _ _ :: ps, d, k => (d.1, setK ps d.2 k)

def allKept : List OPar → Bool
  | [] => true
  | .own _ false :: _ => false
  | _ :: ps => allKept ps

section
variable {P : Program} {H H' : Imm} {w w' : World}

theorem clV_keep (hm : ∀ b c, H b = some c → H' b = some c) {c : Cl} {v : Value} {x : c.D} {bs : List Nat} (h : ClV H w c v x bs) (hk : ∀ b, b ∈ bs → w'.heap[b]? = w.heap[b]? ∧ H' b = H b) : ClV H' w' c v x bs := by
  cases c with
  | dat t => exact ⟨Ty.rv_mono hm h.1, h.2⟩
  | row E t nl =>
    obtain ⟨h1, h2⟩ := h
    refine ⟨h1, ?_⟩
    rcases h2 with h2 | ⟨b, C, vs, rfl, rfl, e1, e2, e3, e4, e5, e6, e7⟩
    · exact .inl h2
    · obtain ⟨k1, k2⟩ := hk b (by simp)
      exact .inr ⟨b, C, vs, rfl, rfl, by rw [k2]; exact e1, e2, by rw [k1]; exact e3, e4, e5, e6, fun i y hy => t.rd_mono hm _ _ (e7 i y hy)⟩
  | map kt vt =>
    obtain ⟨b, es, clock, rfl, rfl, e1, e2, e3⟩ := h
    obtain ⟨k1, k2⟩ := hk b (by simp)
    exact ⟨b, es, clock, rfl, rfl, by rw [k2]; exact e1, by rw [k1]; exact e2, e3.mono hm⟩

theorem clVs_keep (hm : ∀ b c, H b = some c → H' b = some c) : ∀ {cs : List Cl} {vs : List Value} {x : Cl.Ds cs} {bs : List Nat}, ClVs H w cs vs x bs → (∀ b, b ∈ bs → w'.heap[b]? = w.heap[b]? ∧ H' b = H b) → ClVs H' w' cs vs x bs
  | [], _, _, _, h, _ => h
  | _ :: _, [], _, _, h, _ => h.elim
  | c :: cs, v :: vs, x, bs, h, hk => by
    obtain ⟨b1, b2, rfl, h1, h2, h3⟩ := h
    exact ⟨b1, b2, rfl, clV_keep hm h1 (fun b hb => hk b (List.mem_append_left _ hb)), h2, clVs_keep hm h3 (fun b hb => hk b (List.mem_append_right _ hb))⟩

theorem shV_keep (hm : ∀ b c, H b = some c → H' b = some c) {s : Sh} {v : Value} {x : s.D} {bs : List Nat} (h : ShV H w s v x bs) (hk : ∀ b, b ∈ bs → w'.heap[b]? = w.heap[b]? ∧ H' b = H b) : ShV H' w' s v x bs := by
  cases s with
  | cl c => exact clV_keep hm h hk
  | box T cs =>
    obtain ⟨b, vs, bs', rfl, rfl, e1, e2, e3⟩ := h
    obtain ⟨k1, k2⟩ := hk b (by simp)
    exact ⟨b, vs, bs', rfl, rfl, by rw [k2]; exact e1, by rw [k1]; exact e2, clVs_keep hm e3 (fun b hb => hk b (List.mem_cons_of_mem _ hb))⟩

theorem oArg_keep (hm : ∀ b c, H b = some c → H' b = some c) {p : OPar} {v : Value} {d : p.Data} {bs : List Nat} (h : OArg P H w p v d bs) (hk : ∀ b, b ∈ bs → w'.heap[b]? = w.heap[b]? ∧ H' b = H b) : OArg P H' w' p v d bs := by
  cases p with
  | val t => exact ⟨Ty.rv_mono hm h.1, h.2⟩
  | ref t => exact ⟨refV.mono hm h.1, h.2⟩
  | nil => exact h
  | clo f => exact h
  | fn ps rs => exact ⟨FnV.mono hm h.1, h.2⟩
  | own s b => exact shV_keep hm h hk

theorem oArgs_keep (hm : ∀ b c, H b = some c → H' b = some c) : ∀ {ps : List OPar} {vs : List Value} {d : OD ps} {bs : List Nat}, OArgs P H w ps vs d bs → (∀ b, b ∈ bs → w'.heap[b]? = w.heap[b]? ∧ H' b = H b) → OArgs P H' w' ps vs d bs
  | [], _, _, _, h, _ => h
  | _ :: _, [], _, _, h, _ => h.elim
  | p :: ps, v :: vs, d, bs, h, hk => by
    obtain ⟨b1, b2, rfl, h1, h2⟩ := h
    exact ⟨b1, b2, rfl, oArg_keep hm h1 (fun b hb => hk b (List.mem_append_left _ hb)), oArgs_keep hm h2 (fun b hb => hk b (List.mem_append_right _ hb))⟩

/-- the arguments of the next round, out of what this one has kept -/
theorem oArgs_set (hm : ∀ b c, H b = some c → H' b = some c) : ∀ {ps : List OPar} {vs : List Value} {d : OD ps} {k : KD ps} {bs kb : List Nat}, allKept ps = true → OArgs P H w ps vs d bs → OKept H' w' ps vs k kb → OArgs P H' w' ps vs (setK ps d k) kb
  | [], _, _, _, _, _, _, h, hk => ⟨h.1, hk⟩
  | _ :: _, [], _, _, _, _, _, h, _ => h.elim
  | .own s true :: ps, v :: vs, d, k, bs, kb, ha, h, hk => by
    obtain ⟨b1, b2, rfl, h1, h2⟩ := h
    obtain ⟨c1, c2, rfl, k1, k2⟩ := hk
    exact ⟨c1, c2, rfl, k1, oArgs_set hm ha h2 k2⟩
  | .own s false :: ps, v :: vs, d, k, bs, kb, ha, h, hk => by simp [allKept] at ha
  | .val t :: ps, v :: vs, d, k, bs, kb, ha, h, hk => by
    obtain ⟨b1, b2, rfl, h1, h2⟩ := h
    exact ⟨[], kb, rfl, ⟨Ty.rv_mono hm h1.1, rfl⟩, oArgs_set hm ha h2 hk⟩
  | .ref t :: ps, v :: vs, d, k, bs, kb, ha, h, hk => by
    obtain ⟨b1, b2, rfl, h1, h2⟩ := h
    exact ⟨[], kb, rfl, ⟨refV.mono hm h1.1, rfl⟩, oArgs_set hm ha h2 hk⟩
  | .nil :: ps, v :: vs, d, k, bs, kb, ha, h, hk => by
    obtain ⟨b1, b2, rfl, h1, h2⟩ := h
    exact ⟨[], kb, rfl, ⟨h1.1, rfl⟩, oArgs_set hm ha h2 hk⟩
  | .clo f :: ps, v :: vs, d, k, bs, kb, ha, h, hk => by
    obtain ⟨b1, b2, rfl, h1, h2⟩ := h
    exact ⟨[], kb, rfl, ⟨h1.1, rfl⟩, oArgs_set hm ha h2 hk⟩
  | .fn qs rs :: ps, v :: vs, d, k, bs, kb, ha, h, hk => by
    obtain ⟨b1, b2, rfl, h1, h2⟩ := h
    exact ⟨[], kb, rfl, ⟨FnV.mono hm h1.1, rfl⟩, oArgs_set hm ha h2 hk⟩

/-- what is kept, out of arguments -/
theorem oKept_of_args : ∀ {ps : List OPar} {vs : List Value} {d : OD ps} {k : KD ps} {bs : List Nat}, allKept ps = true → OArgs P H w ps vs (setK ps d k) bs → OKept H w ps vs k bs
  | [], _, _, _, _, _, h => h.2
  | _ :: _, [], _, _, _, _, h => h.elim
  | .own s true :: ps, v :: vs, d, k, bs, ha, h => by
    obtain ⟨b1, b2, rfl, h1, h2⟩ := h
    exact ⟨b1, b2, rfl, h1, oKept_of_args (d := d.2) ha h2⟩
  | .own s false :: ps, v :: vs, d, k, bs, ha, h => by simp [allKept] at ha
  | .val t :: ps, v :: vs, d, k, bs, ha, h => by
    obtain ⟨b1, b2, rfl, ⟨_, rfl⟩, h2⟩ := h
    exact oKept_of_args (d := d.2) (ps := ps) ha h2
  | .ref t :: ps, v :: vs, d, k, bs, ha, h => by
    obtain ⟨b1, b2, rfl, ⟨_, rfl⟩, h2⟩ := h
    exact oKept_of_args (d := d.2) (ps := ps) ha h2
  | .nil :: ps, v :: vs, d, k, bs, ha, h => by
    obtain ⟨b1, b2, rfl, ⟨_, rfl⟩, h2⟩ := h
    exact oKept_of_args (d := d.2) (ps := ps) ha h2
  | .clo f :: ps, v :: vs, d, k, bs, ha, h => by
    obtain ⟨b1, b2, rfl, ⟨_, rfl⟩, h2⟩ := h
    exact oKept_of_args (d := d.2) (ps := ps) ha h2
  | .fn qs rs :: ps, v :: vs, d, k, bs, ha, h => by
    obtain ⟨b1, b2, rfl, ⟨_, rfl⟩, h2⟩ := h
    exact oKept_of_args (d := d.2) (ps := ps) ha h2

theorem setK_setK : ∀ (ps : List OPar) (d : OD ps) (k k' : KD ps), setK ps (setK ps d k) k' = setK ps d k'
  | [], _, _, _ => rfl
  | .own _ true :: ps, d, k, k' => by simp only [setK, setK_setK ps]
  | .own _ false :: ps, d, k, k' => by simp only [setK, setK_setK ps]
  | .val _ :: ps, d, k, k' => by simp only [setK, setK_setK ps]
  | .ref _ :: ps, d, k, k' => by simp only [setK, setK_setK ps]
  | .nil :: ps, d, k, k' => by simp only [setK, setK_setK ps]
  | .clo _ :: ps, d, k, k' => by simp only [setK, setK_setK ps]
  | .fn _ _ :: ps, d, k, k' => by simp only [setK, setK_setK ps]

end
end Go.X
/-
  A range over a function: its rounds are bodies to which things are handed over that are kept; what the statement leaves.
-/
namespace Go.X
open Go.RowKit (Below)

/-- what is known of a loop over an iterator that yields values of one type -/
structure RngS (t : Ty) where
  ps : List OPar
  slots : List Nat
  dst : Nat
  pre : OD ps → List Prop
  G : OD ps → List (Ty.st [t]).Data → KD ps
  seq : SV → Option (Prop × (List (Ty.st [t]).Data → Prop))

def hkNone : Hook Unit := ⟨fun _ => false, fun _ _ _ _ _ => False, fun _ _ _ _ _ _ _ => False⟩

def slotAt (slots : List Nat) (i : Nat) : Nat := match slots[i]? with | some s => s | none => 1000000

def reSl (slots : List Nat) (l : List (Nat × SV)) : List (Nat × SV) := l.map (fun p => (slotAt slots p.1, p.2))

def finishK (ps : List OPar) (want : KD ps) : Ex → St → Unit → Prop
  | .normal, σ, _ => match getKept σ ps 0 with
    | some (k, o2, f2) => match nodupB o2, meets f2 o2 with
      | true, false => k = want
      | _, _ => False
    | none => False
  | _, _, _ => False

def roundVC {t : Ty} (C : Ctx) (A : AnnZ Unit) (rs : RngS t) (p : Nat) (as b : Code) (L : List (Ty.st [t]).Data → Prop) (d : OD rs.ps) : Prop :=
  ∀ (q : List (Ty.st [t]).Data) (x : (Ty.st [t]).Data) (rest : List (Ty.st [t]).Data), L (q ++ x :: rest) →
    vcgZ C A hkNone as ⟨(p, .dat t x.1) :: reSl rs.slots (oSl rs.ps (setK rs.ps d (rs.G d q)) 0), oOb rs.ps (setK rs.ps d (rs.G d q)) 0⟩ () (fun e σ1 _ => match e with
      | .normal => vcgZ C A hkNone b σ1 () (finishK rs.ps (rs.G d (q ++ [x])))
      | _ => False)

def slotsOk (n p : Nat) (slots : List Nat) : Bool := match Nat.blt p n, memb slots p, slots.all (fun s => Nat.blt s n) with
  | true, false, true => true
  | _, _, _ => false

def hkR (C : Ctx) (A : AnnZ Unit) (tbl : Nat → Option ((t : Ty) × RngS t)) : Hook Unit :=
  ⟨fun _ => false, fun _ _ _ _ _ => False, fun g ps as b σ _ K => match tbl (firstR b), ps.toList with
    | some ⟨_, rs⟩, [p] => match rs.seq (opnd σ g), zipO C σ rs.ps (rs.slots.map σ.get) with
      | some (pr, L), some (d, os, fz) => match nodupB os, meets fz os, allKept rs.ps, nodupB (oNms rs.ps 0), slotsOk C.n p rs.slots with
        | true, false, true, true, true => pr ∧ AllP (rs.pre d) ∧ setK rs.ps d (rs.G d []) = d ∧ roundVC C A rs p as b L d ∧
          ∀ xs, L xs → (match oCall C ⟨rs.ps, [], rs.pre, fun d => ((), rs.G d xs)⟩ rs.dst σ (rs.slots.map σ.get) with
            | some out => match newAll ⟨σ, []⟩ out.nw with
              | true => K ⟨σ.sl, out.wr ++ (doFz σ out.fz ++ σ.ob)⟩ ()
              | false => False
            | none => False)
        | _, _, _, _, _ => False
      | _, _ => False
    | _, _ => False⟩

/-- how a base has come of another -/
structure Chain (Bi B : Base) : Prop where
  os : B.w.os = Bi.w.os
  tape : B.w.tape = Bi.w.tape
  output : B.w.output = Bi.w.output
  drawn : Bi.w.drawn ≤ B.w.drawn
  size : Bi.w.heap.size ≤ B.w.heap.size
  mono : ∀ b c, Bi.H b = some c → B.H b = some c
  old : ∀ b, b < Bi.w.heap.size → b ∉ Bi.bor → B.w.heap[b]? = Bi.w.heap[b]? ∧ B.H b = Bi.H b ∧ b ∉ B.bor
  own : ∀ b, b ∈ B.bor → Bi.w.heap.size ≤ b ∨ b ∈ Bi.bor
  blk0 : B.blk0 = Bi.blk0
  len0 : B.len0 = Bi.len0

/-- the marks of the loops that are over -/
def Marks (Bi B : Base) (ds : List Deferred) : Prop :=
  ds.Nodup ∧ ∀ x, x ∈ ds → ∃ D, x = { target := .collected D, args := #[] } ∧ Bi.w.heap.size ≤ D ∧ D ∉ B.bor ∧ B.w.heap[D]? = some (.deferred (some []))

def LvR (Bi : Base) (B : Base) (ds : List Deferred) (_ : Unit) : Prop := Chain Bi B ∧ Marks Bi B ds

section
variable {P : Program} {C : Ctx}

theorem callOK_none {r : Option Nat} {Lv : Base → List Deferred → Unit → Prop} : CallOK P C r hkNone Lv := fun _ _ _ _ _ _ _ _ _ _ _ _ _ _ _ _ _ h _ _ _ => h.elim
theorem rngOK_none {r : Option Nat} {Lv : Base → List Deferred → Unit → Prop} : RngOK P C r hkNone Lv := fun _ _ _ _ _ _ _ _ _ _ _ _ h _ _ _ => h.elim
theorem callOK_R {r : Option Nat} {A : AnnZ Unit} {tbl : Nat → Option ((t : Ty) × RngS t)} {Lv : Base → List Deferred → Unit → Prop} : CallOK P C r (hkR C A tbl) Lv := fun _ _ _ _ _ _ _ _ _ _ _ _ _ _ _ _ _ h _ _ _ => h.elim

theorem fz_at_loop {c : Fz} {r : Loop} : ¬ c.at (some (.loop r)) := by
  cases c with
  | cells c => rintro ⟨T, fr, e⟩; cases e
  | map es clock => intro e; simp [Fz.at] at e
theorem fz_at_deferred {c : Fz} {ds : Option (List Deferred)} : ¬ c.at (some (.deferred ds)) := by
  cases c with
  | cells c => rintro ⟨T, fr, e⟩; cases e
  | map es clock => intro e; simp [Fz.at] at e

/-- an object lies in no block of a loop's book-keeping -/
theorem obSat_book {ρ : Env} {w : World} {o b Cp : Nat} {x : Ob} (h : ObSat P ρ w o (some (b, Cp)) x) : (∀ r, w.heap[b]? ≠ some (.loop r)) ∧ ∀ ds, w.heap[b]? ≠ some (.deferred ds) := by
  have key : ∀ y, w.heap[b]? = some y → ((∀ r, y ≠ .loop r) ∧ ∀ ds, y ≠ .deferred ds) → (∀ r, w.heap[b]? ≠ some (.loop r)) ∧ ∀ ds, w.heap[b]? ≠ some (.deferred ds) := by
    intro y hy hn
    rw [hy]
    exact ⟨fun r e => hn.1 r (by simpa using e), fun ds e => hn.2 ds (by simpa using e)⟩
  cases x with
  | box T fz cs =>
    obtain ⟨b', C', vs, e, h1, _⟩ := h
    simp at e; obtain ⟨rfl, rfl⟩ := e
    exact key _ h1 ⟨by simp, by simp⟩
  | row E t fz nl l =>
    obtain ⟨_, _, _, vs, h1, _⟩ := h
    exact key _ h1 ⟨by simp, by simp⟩
  | map fz kt vt l =>
    obtain ⟨b', C', es, clock, e, h1, _⟩ := h
    simp at e; obtain ⟨rfl, rfl⟩ := e
    exact key _ h1 ⟨by simp, by simp⟩
  | iter kt vt left cur =>
    obtain ⟨b', C', y, e, h1, h2, _⟩ := h
    simp at e; obtain ⟨rfl, rfl⟩ := e
    refine key _ h1 ⟨fun r e => ?_, fun ds e => ?_⟩ <;> subst e <;> simp [IterRd] at h2
  | mape kt vt l k s =>
    obtain ⟨b', C', es, clock, e, h1, _⟩ := h
    simp at e; obtain ⟨rfl, rfl⟩ := e
    exact key _ h1 ⟨by simp, by simp⟩

theorem blk_book {B : Base} {ρ : Env} {σ : St} {w : World} (hS : Sat P B ρ σ.obj w) {o b Cp : Nat} (h : ρ.blk o = some (some (b, Cp))) : (∀ r, w.heap[b]? ≠ some (.loop r)) ∧ ∀ ds, w.heap[b]? ≠ some (.deferred ds) := by
  cases hobj : σ.obj o with
  | none => rw [hS.dead o hobj] at h; cases h
  | some x' =>
    obtain ⟨p, hp, hs⟩ := hS.obs o x' hobj
    rw [h] at hp; simp at hp; subst hp
    exact obSat_book hs

/-- the loop's record is turned -/
theorem sat_put {B : Base} {ρ : Env} {obj : Nat → Option Ob} {w : World} (hS : Sat P B ρ obj w) {l : Nat} {r : Loop} (o : Obj) (hl : l < B.w.heap.size) (hb : l ∉ B.bor) (hr : w.heap[l]? = some (.loop r)) :
    Sat P { B with w := B.w.putObj l o } ρ obj (w.putObj l o) := by
  have hne : ∀ b c, ρ.H b = some c → b ≠ l := by
    intro b c hc e
    subst e
    have := hS.good _ _ hc
    rw [hr] at this
    exact fz_at_loop this
  refine ⟨hS.os, hS.tape, hS.output, hS.drawn, by simpa using hS.size, fun b c hc => ?_, fun b h1 h2 => hS.oldH b (by simpa using h1) h2, fun b h1 h2 => ?_, ?_, hS.dead, hS.inj, fun o' b Cp h => by simpa using hS.own o' b Cp h⟩
  · rw [World.putObj_heap_other (hne b c hc)]
    exact hS.good b c hc
  · have h1' : b < B.w.heap.size := by simpa using h1
    show (w.putObj l o).heap[b]? = (B.w.putObj l o).heap[b]?
    by_cases e : b = l
    · subst e
      rw [World.putObj_heap_same (Array.getElem?_eq_some_iff.1 hr).1, World.putObj_heap_same hl]
    · rw [World.putObj_heap_other e, World.putObj_heap_other e]
      exact hS.old b h1' h2
  · intro o' x hx
    obtain ⟨p, hp, hs⟩ := hS.obs o' x hx
    refine ⟨p, hp, obSat_mono (Env.le.refl ρ []) (by simp) (fun _ _ _ _ _ ho => by simp at ho) (fun b Cp hpb => ⟨rfl, ?_⟩) hs⟩
    subst hpb
    refine World.putObj_heap_other (fun e => ?_)
    subst e
    exact (obSat_book hs).1 r hr

theorem look_reSl {slots : List Nat} : ∀ (l : List (Nat × SV)) (s : Nat) (v : SV), look (reSl slots l) s = some v → ∃ i, (i, v) ∈ l ∧ slotAt slots i = s
  | [], s, v, h => by simp [reSl, look] at h
  | (i, u) :: l, s, v, h => by
    simp only [reSl, List.map_cons, look] at h
    cases hb : Nat.beq (slotAt slots i) s with
    | true => rw [hb] at h; simp at h; subst h; exact ⟨i, by simp, Nat.eq_of_beq_eq_true hb⟩
    | false =>
      rw [hb] at h
      obtain ⟨j, h1, h2⟩ := look_reSl l s v h
      exact ⟨j, by simp [h1], h2⟩

theorem oSl_look : ∀ (ps : List OPar) (d : OD ps) (i : Nat) (j : Nat) (v : SV), (j, v) ∈ oSl ps d i → look (oSl ps d i) j = some v
  | [], d, i, j, v, h => by simp [oSl] at h
  | p :: ps, d, i, j, v, h => by
    have : ∃ sv, oSl (p :: ps) d i = (i, sv) :: oSl ps d.2 (i + 1) := by cases p <;> exact ⟨_, rfl⟩
    obtain ⟨sv, e⟩ := this
    rw [e] at h ⊢
    rcases List.mem_cons.1 h with h | h
    · simp at h; obtain ⟨rfl, rfl⟩ := h; exact look_cons_eq _ _ _
    · have hl := oSl_look ps d.2 (i + 1) j v h
      have := oSl_ge ps d.2 (i + 1) j v hl
      rw [look_cons_ne (by omega)]
      exact hl

end
end Go.X
/-
  A range over a function: one round is sound; the statement is.
-/
namespace Go.X
open Go.RowKit (Below)

/-- what the statement keeps while the iterator runs -/
structure RRes (P : Program) (w : World) (H0 : Imm) (bs : List Nat) (rec : Loop) (ps : List OPar) (vals : List Value) (d : OD ps) {D : Type} (G : List D → KD ps) (q : List D) (fp : Nat → Prop) (H : Imm) (W : World) : Prop where
  os : W.os = w.os
  tape : W.tape = w.tape
  output : W.output = w.output
  drawn : w.drawn ≤ W.drawn
  size : w.heap.size + 2 ≤ W.heap.size
  good : Good H W
  mono : ∀ b c, H0 b = some c → H b = some c
  old : ∀ b, b < w.heap.size → b ∉ bs → W.heap[b]? = w.heap[b]? ∧ H b = H0 b
  mark : W.heap[w.heap.size]? = some (.deferred (some []))
  loop : W.heap[w.heap.size + 1]? = some (.loop rec)
  args : ∃ bs', OArgs P H W ps vals (setK ps d (G q)) bs' ∧ bs'.Nodup ∧ ∀ b, b ∈ bs' → (b ∈ bs ∨ (fp b ∧ w.heap.size + 2 ≤ b)) ∧ b < W.heap.size

section
variable {P : Program} {C : Ctx}

theorem rres_stable {w : World} {H0 : Imm} {bs : List Nat} {rec : Loop} {ps : List OPar} {vals : List Value} {d : OD ps} {D : Type} {G : List D → KD ps} (hbs : ∀ b, b ∈ bs → b < w.heap.size) :
    Res.stable (RRes P w H0 bs rec ps vals d G) (w.heap.size + 2) := by
  intro q fp H W H' W' h e1 e2 e3 e3' e4 hg hm hk
  have low : ∀ b, b < w.heap.size + 2 → W'.heap[b]? = W.heap[b]? ∧ H' b = H b := fun b hb => hk b (Nat.lt_of_lt_of_le hb h.size) (.inl hb)
  refine ⟨e1.trans h.os, e2.trans h.tape, e3.trans h.output, Nat.le_trans h.drawn e3', Nat.le_trans h.size e4, hg, fun b c hb => hm b c (h.mono b c hb), fun b h1 h2 => ?_, ?_, ?_, ?_⟩
  · obtain ⟨k1, k2⟩ := low b (by omega)
    obtain ⟨k3, k4⟩ := h.old b h1 h2
    exact ⟨k1.trans k3, k2.trans k4⟩
  · rw [(low _ (by omega)).1]; exact h.mark
  · rw [(low _ (by omega)).1]; exact h.loop
  · obtain ⟨bs', g1, g2, g3⟩ := h.args
    refine ⟨bs', oArgs_keep hm g1 (fun b hb => ?_), g2, fun b hb => ⟨(g3 b hb).1, Nat.lt_of_lt_of_le (g3 b hb).2 e4⟩⟩
    refine hk b (g3 b hb).2 ?_
    rcases (g3 b hb).1 with h1 | h1
    · have := hbs b h1; exact .inl (by omega)
    · exact .inr h1.1

theorem round_ok (hC : C.ok P) (hm : P.follows .mixedOrders = true) {t : Ty} {A : AnnZ Unit} {rs : RngS t} {p : Nat} {as b : Code} {L : List (Ty.st [t]).Data → Prop} {d : OD rs.ps} (hround : roundVC C A rs p as b L d) (hall : allKept rs.ps = true)
    (hnm : nodupB (oNms rs.ps 0) = true) (hsl : slotsOk C.n p rs.slots = true) {a0 : Act} (hn0 : a0.tmps.size = C.n) {fn : FuncId} {w : World} {H0 : Imm} {bs : List Nat} (hbs : ∀ b, b ∈ bs → b < w.heap.size) {vals : List Value}
    (hvals : vals = rs.slots.map (fun s => a0.tmps.getD s undef)) {rec : Loop} (hrec : rec = { state := .ready, pending := none, fn, tmps := a0.tmps, params := #[p], assign := as, body := b, defers := w.heap.size }) :
    YB P [t] (w.heap.size + 2) (w.heap.size + 1) (RRes P w H0 bs rec rs.ps vals d (rs.G d)) (fun _ _ _ _ => False) (fun q => ∃ rest, L (q ++ rest)) := by
  intro q x vx fp H W hPm hR hgW hB0 hfpW hvx
  obtain ⟨rest, hL⟩ := hPm
  have hL' : L (q ++ x :: rest) := by simpa using hL
  obtain ⟨bs', r10, r11, r12⟩ := hR.args
  obtain ⟨v, rfl, hv⟩ : ∃ v, vx = [v] ∧ t.rv H v x.1 := by
    cases vx with
    | nil => exact hvx.elim
    | cons v r => obtain ⟨h1, h2⟩ := hvx; simp only [rvs] at h2; subst h2; exact ⟨v, rfl, h1⟩
  have hloop := hR.loop
  have hlW : w.heap.size + 1 < W.heap.size := (Array.getElem?_eq_some_iff.1 hloop).1
  have hlb : w.heap.size + 1 ∉ bs' := by
    intro hm'
    rcases (r12 _ hm').1 with h | h
    · have := hbs _ h; omega
    · have := h.2; omega
  have hDb : w.heap.size ∉ bs' := by
    intro hm'
    rcases (r12 _ hm').1 with h | h
    · have := hbs _ h; omega
    · have := h.2; omega
  have hy := run_yield (P := P) (args := [v].toArray) hloop (by rw [hrec]; rfl)
  rw [hrec] at hy
  refine ⟨fn, _, as, b, hy, ?_⟩
  refine roundIn_of_wpIn (F := Fence.wide) trivial ?_
  have ht : ((#[p] : Array Tmp).zip [v].toArray).foldl (fun tmps (x : Tmp × Value) => match x with | (t, a) => tmps.setIfInBounds t a) a0.tmps = a0.tmps.setIfInBounds p v := by simp
  simp only at ht ⊢
  rw [ht]
  -- the round's state
  have hsp : p < C.n ∧ p ∉ rs.slots ∧ ∀ s, s ∈ rs.slots → s < C.n := by
    unfold slotsOk at hsl
    split at hsl
    · rename_i h1 h2 h3
      exact ⟨Nat.le_of_ble_eq_true h1, memb_false h2, fun s hs => Nat.le_of_ble_eq_true (List.all_eq_true.1 h3 s hs)⟩
    · cases hsl
  let d' := setK rs.ps d (rs.G d q)
  have hlen := oArgs_length rs.ps vals d' bs' r10
  let B0 : Base := ⟨W, H, bs', fun _ => none, fun _ => 0⟩
  let ρ0 : Env := ⟨H, fun _ => none, fun _ => 0⟩
  have hS0 : Sat P B0 ρ0 (oo []) W := by
    refine ⟨rfl, rfl, rfl, Nat.le_refl _, Nat.le_refl _, hgW, fun _ _ _ => rfl, fun _ _ _ => rfl, ?_, fun _ _ => rfl, ?_, ?_⟩
    · intro o x hx; simp [oo, St.obj, look] at hx
    · intro o o' b C1 C2 h1; simp [ρ0] at h1
    · intro o b C1 h1; simp [ρ0] at h1
  obtain ⟨ρf, ad, hslf⟩ := init_sat rs.ps 0 hS0 (d := d') r10 r11 (fun b hb => ⟨.inr hb, fun o C' h => by simp [ρ0] at h⟩) (nodupB_nodup _ hnm)
    (fun n _ => ⟨by simp [oo, St.obj, look], fun o T fz cs h => by simp [oo, St.obj, look] at h⟩)
  let Bx : Base := ⟨W, H, bs', ρf.blk, ρf.len⟩
  have hSf : Sat P Bx ρf (⟨(p, .dat t x.1) :: reSl rs.slots (oSl rs.ps d' 0), oOb rs.ps d' 0⟩ : St).obj W := by
    have := sat_base (B' := Bx) ad.sat rfl rfl rfl
    rw [List.append_nil] at this
    exact this
  have hR0 : RelD P Bx C.n [] ⟨(p, .dat t x.1) :: reSl rs.slots (oSl rs.ps d' 0), oOb rs.ps d' 0⟩ { tmps := a0.tmps.setIfInBounds p v, defers := [] } W := by
    refine ⟨_, (addD_nil _).symm, rfl, by simpa using hn0, ρf, hSf, ?_, fun o p _ hp => ⟨hp, rfl⟩, fun _ _ hb => by rw [ad.H]; exact hb⟩
    intro s y hy
    simp only [Array.getD_eq_getD_getElem?, Array.getElem?_setIfInBounds]
    by_cases hs : s = p
    · subst hs
      rw [look_cons_eq] at hy
      simp at hy; subst hy
      simp only [if_true]
      rw [if_pos (by rw [hn0]; exact hsp.1)]
      simp only [Option.getD_some, SV.den]
      rw [ad.H]; exact hv
    · rw [look_cons_ne (fun h => hs h.symm)] at hy
      rw [if_neg (fun h => hs h.symm)]
      obtain ⟨i, hi, hsi⟩ := look_reSl _ s y hy
      obtain ⟨u, hu, hdu⟩ := hslf i y (oSl_look _ _ _ _ _ hi)
      rw [hvals] at hu
      simp only [Nat.sub_zero, List.getElem?_map] at hu
      unfold slotAt at hsi
      cases hsl2 : rs.slots[i]? with
      | none => rw [hsl2] at hu; cases hu
      | some s' =>
        rw [hsl2] at hu hsi
        simp only at hsi
        subst hsi
        simp only [Option.map_some, Option.some.injEq] at hu
        subst hu
        simpa only [Array.getD_eq_getD_getElem?] using hdu
  refine vcgZ_sound (r := some (w.heap.size + 1)) hC hm A hkNone (fun B ds _ => B = Bx ∧ ds = []) callOK_none rngOK_none as _ () _ _ _ W Bx [] (hround q x rest hL') ⟨rfl, rfl⟩ hR0 (fun e σ1 _ a1 w1 B1 ds1 _ hK1 hB1 hR1 => ?_)
  obtain ⟨rfl, rfl⟩ := hB1
  cases e with
  | ret => exact hK1.elim
  | exit id => exact hK1.elim
  | normal =>
  obtain ⟨a1', rfl, q1, q2, ρ1, q3, q4, q5⟩ := hR1
  rw [addD_nil]
  have hl1 : w1.heap[w.heap.size + 1]? = some (.loop rec) := by rw [q3.old _ hlW hlb]; exact hloop
  refine ⟨_, run_beginRound hl1 (by rw [hrec]), ?_⟩
  let busy : Obj := .loop { rec with state := .busy }
  let By : Base := { Bx with w := W.putObj (w.heap.size + 1) busy }
  have hS2 : Sat P By ρ1 σ1.obj (w1.putObj (w.heap.size + 1) busy) := sat_put q3 busy hlW hlb hl1
  have hR2 : RelD P By C.n [] σ1 a1' (w1.putObj (w.heap.size + 1) busy) := ⟨a1', (addD_nil _).symm, q1, q2, ρ1, hS2, q4, q5⟩
  refine vcgZ_sound (r := some (w.heap.size + 1)) hC hm A hkNone (fun B ds _ => B = By ∧ ds = []) callOK_none rngOK_none b σ1 () _ _ _ _ By [] hK1 ⟨rfl, rfl⟩ hR2 (fun e σ3 _ a3 w3 B3 ds3 _ hK3 hB3 hR3 => ?_)
  obtain ⟨rfl, rfl⟩ := hB3
  cases e with
  | ret => exact hK3.elim
  | exit id => exact hK3.elim
  | normal =>
  obtain ⟨a3', rfl, s1, s2, ρ3, s3, s4, s5⟩ := hR3
  have hWy : By.w.heap.size = W.heap.size := by simp [By]
  have hl3 : w3.heap[w.heap.size + 1]? = some busy := by
    rw [s3.old _ (by rw [hWy]; exact hlW) hlb]; exact World.putObj_heap_same hlW
  simp only [toExit, roundPost]
  refine ⟨_, _, run_endRound none hl3, ?_⟩
  simp only [finishK] at hK3
  split at hK3
  case h_2 => exact hK3.elim
  rename_i k o2 f2 hkept
  split at hK3
  case h_2 => exact hK3.elim
  rename_i hno hme
  obtain ⟨ρ4, hS4, hle4, hblk4, hln4⟩ := freeze_sat (σ := σ3) f2 s3
  have hkeep : Keeps σ3 (σ3.frz f2) o2 := by
    intro o ho
    rw [obj_frz, if_neg]
    exact fun hm => meets_false _ _ hme o hm ho
  have e3 := getKept_sound hS4 (fz_frz σ3 _) rs.ps 0 vals k o2 f2 hkept hlen (fun j sh bb v hj hvj => by
      obtain ⟨y0, hx⟩ := own_slot rs.ps d' 0 j sh bb hj
      obtain ⟨y, y1, y2⟩ := hslf (0 + j) _ hx
      have : y = v := by
        rw [show 0 + j - 0 = j by omega, hvj] at y1
        simpa using y1.symm
      subst this
      refine den_pin (fun p hp => ?_) y2
      rw [hblk4] at hp
      obtain ⟨q1, q2⟩ := s5.1 (rootN (0 + j)) p (by unfold rootN; omega) hp
      exact ⟨q1, by rw [hln4]; exact q2⟩) (fun o ho => ho) hkeep
  have hmono : ∀ b c, H b = some c → ρ4.H b = some c := fun b c hb => hle4.H b c (s5.2 b c hb)
  have e4 : OArgs P ρ4.H w3 rs.ps vals (setK rs.ps d' k) (borOf ρ4 o2) := oArgs_set hmono hall r10 e3
  rw [setK_setK, hK3] at e4
  obtain ⟨ready, hready⟩ : ∃ ready : Obj, ready = .loop { rec with state := .ready, pending := none } := ⟨_, rfl⟩
  have hrd : ready = .loop rec := by rw [hready, hrec]
  have hS5 : Sat P _ ρ4 (σ3.frz f2).obj (w3.putObj (w.heap.size + 1) ready) := sat_put hS4 ready (by rw [hWy]; exact hlW) hlb hl3
  have hw3 : ∀ b, b < W.heap.size → b ∉ bs' → b ≠ w.heap.size + 1 → (w3.putObj (w.heap.size + 1) ready).heap[b]? = W.heap[b]? ∧ ρ4.H b = H b := by
    intro b h1 h2 h3
    rw [World.putObj_heap_other h3]
    refine ⟨?_, hS4.oldH b (by rw [hWy]; exact h1) h2⟩
    rw [hS4.old b (by rw [hWy]; exact h1) h2]
    exact World.putObj_heap_other h3
  have hkb : ∀ b, b ∈ borOf ρ4 o2 → b < w3.heap.size ∧ (W.heap.size ≤ b ∨ b ∈ bs') ∧ b ≠ w.heap.size + 1 := by
    intro b hb
    obtain ⟨o, Cp, _, h1⟩ := (mem_borOf _).1 hb
    refine ⟨(blk_lt (σ := σ3.frz f2) hS4 h1).1, ?_, fun e => ?_⟩
    · have := hS4.own o b Cp h1
      rw [hWy] at this
      exact this
    · subst e
      exact (blk_book (σ := σ3.frz f2) hS4 h1).1 _ hl3
  have hsz : W.heap.size ≤ w3.heap.size := by have := hS4.size; rw [hWy] at this; exact this
  have eW : (({ rec with state := if (none : Option Code).isNone = true then LoopState.ready else .done, pending := none } : Loop)) = { rec with state := .ready, pending := none } := rfl
  refine ⟨true, fun b => (fp b ∨ W.heap.size ≤ b) ∧ b < w3.heap.size, ρ4.H, rfl, ⟨by simpa using hsz, ?_, hmono, fun b h1 h2 h3 => ?_, fun b hb => ⟨hb.1, by simpa using hb.2, ?_⟩⟩, ?_⟩
  · have := hS5.good
    rw [hready] at this
    exact this
  · have hnb : b ∉ bs' := by
      intro hm'
      rcases (r12 _ hm').1 with h | h
      · have := hbs _ h; omega
      · exact h3 h.1
    have := hw3 b h1 hnb (by omega)
    rw [hready] at this
    exact this
  · rcases hb.1 with h | h
    · exact (hfpW b h).2
    · omega
  · show RRes P w H0 bs rec rs.ps vals d (rs.G d) (q ++ [x]) _ ρ4.H (w3.putObj (w.heap.size + 1) (.loop { rec with state := .ready, pending := none }))
    rw [← hready]
    refine ⟨hS4.os.trans hR.os, hS4.tape.trans hR.tape, hS4.output.trans hR.output, Nat.le_trans hR.drawn hS4.drawn, by have := hR.size; simp; omega, hS5.good, fun b c hb => hmono b c (hR.mono b c hb), fun b h1 h2 => ?_, ?_, ?_, borOf ρ4 o2, ?_, ?_, fun b hb => ?_⟩
    · have hnb : b ∉ bs' := by
        intro hm'
        rcases (r12 _ hm').1 with h | h
        · exact h2 h
        · have := h.2; omega
      obtain ⟨k1, k2⟩ := hw3 b (by have := hR.size; omega) hnb (by omega)
      obtain ⟨k3, k4⟩ := hR.old b h1 h2
      exact ⟨k1.trans k3, k2.trans k4⟩
    · rw [(hw3 _ (by omega) hDb (by omega)).1]; exact hR.mark
    · rw [World.putObj_heap_same (Array.getElem?_eq_some_iff.1 hl3).1, hrd]
    · refine oArgs_keep (fun _ _ h => h) e4 (fun b hb => ⟨World.putObj_heap_other (hkb b hb).2.2, rfl⟩)
    · exact borOf_nodup hS4 _ (nodupB_nodup _ hno)
    · obtain ⟨k1, k2, _⟩ := hkb b hb
      refine ⟨?_, by simpa using k1⟩
      rcases k2 with h | h
      · exact .inr ⟨⟨.inr h, k1⟩, by have := hR.size; omega⟩
      · rcases (r12 b h).1 with h' | h'
        · exact .inl h'
        · exact .inr ⟨⟨.inl h'.1, k1⟩, h'.2⟩

end
end Go.X
/-
  A range over a function: the statement is sound; functions that hold such statements.
-/
namespace Go.X
open Go.RowKit (Below)

/-- what is known of the iterators is true -/
def SeqsOK (P : Program) (tbl : Nat → Option ((t : Ty) × RngS t)) : Prop :=
  ∀ k t (rs : RngS t) sv pr L v ρ, tbl k = some ⟨t, rs⟩ → rs.seq sv = some (pr, L) → pr → SV.den P ρ sv v → SeqV P ρ.H [t] L v

section
variable {P : Program} {C : Ctx}

theorem good_put {H : Imm} {w : World} {l : Nat} {r : Loop} (hg : Good H w) (o : Obj) (hr : w.heap[l]? = some (.loop r)) : Good H (w.putObj l o) := by
  intro b c hc
  have hne : b ≠ l := by
    intro e
    subst e
    have := hg _ _ hc
    rw [hr] at this
    exact fz_at_loop this
  rw [World.putObj_heap_other hne]
  exact hg b c hc

theorem rngOK_R (hC : C.ok P) (hm : P.follows .mixedOrders = true) {A : AnnZ Unit} {tbl : Nat → Option ((t : Ty) × RngS t)} {Bi : Base} (hseq : SeqsOK P tbl) : RngOK P C none (hkR C A tbl) (LvR Bi) := by
  intro g ps as b σ ys K B ds a w Q h hL hRel hQ
  simp only [hkR] at h
  split at h
  case h_2 => exact h.elim
  rename_i t rs p htb hps
  split at h
  case h_2 => exact h.elim
  rename_i pr L d os fz hsq hz
  split at h
  case h_2 => exact h.elim
  rename_i hno hme hall hnm hsl
  obtain ⟨hpr, hpre, hset, hround, hcont⟩ := h
  obtain ⟨a0, rfl, hd0, hn0, ρ, hS, hSl, hPin⟩ := hRel
  have hpsa : ps = #[p] := Array.toList_inj.1 (by simpa using hps)
  subst hpsa
  obtain ⟨vals, hvals⟩ : ∃ vals : List Value, vals = rs.slots.map (fun s => a0.tmps.getD s undef) := ⟨_, rfl⟩
  have hdl : SV.denL P ρ (rs.slots.map σ.get) vals := by
    have := denL_map (P := P) (ρ := ρ) (σ := σ) (fun x => den_opnd (P := P) (ρ := ρ) hSl x) (rs.slots.map Operand.tmp)
    rw [List.map_map, List.map_map] at this
    rw [hvals]
    exact this
  obtain ⟨ρ1, hle1, hS1, hb1, hargs, hbn, hpost⟩ := oCall_split (dst := rs.dst) (rs := []) (pre := rs.pre) hC hz hno hme hS hdl
  obtain ⟨bs, hbs0⟩ : ∃ bs, bs = borOf ρ1 os := ⟨_, rfl⟩
  rw [← hbs0] at hargs hbn hpost
  have hbs : ∀ b, b ∈ bs → b < w.heap.size := by
    intro b hb
    rw [hbs0] at hb
    obtain ⟨o, Cp, _, h1⟩ := (mem_borOf _).1 hb
    exact (blk_lt (σ := σ.frz fz) hS1 h1).1
  have hgv := SeqV.mono hle1.H (hseq _ _ _ _ _ _ _ ρ htb hsq hpr (den_opnd (P := P) (ρ := ρ) hSl g))
  obtain ⟨gf, lb, ev, en, hit⟩ := hgv
  have ev' : (addD ds a0).eval g = .func (.func gf) #[] lb := by rw [addD_eval]; exact ev
  refine wpIn_rangeFunc ?_
  intro fn _
  obtain ⟨rec, hrec⟩ : ∃ rec : Loop, rec = { state := .ready, pending := none, fn, tmps := a0.tmps, params := #[p], assign := as, body := b, defers := w.heap.size } := ⟨_, rfl⟩
  obtain ⟨W1, hW1⟩ : ∃ W1, (w.alloc (.deferred (some []))).alloc (.loop rec) = W1 := ⟨_, rfl⟩
  have hsz1 : W1.heap.size = w.heap.size + 2 := by rw [← hW1]; simp
  have hlow : ∀ b, b < w.heap.size → W1.heap[b]? = w.heap[b]? := by
    intro b hb
    rw [← hW1]
    exact (Below.heap_alloc _ _ _ (by simp; omega)).trans (Below.heap_alloc _ _ _ hb)
  have hD1 : W1.heap[w.heap.size]? = some (.deferred (some [])) := by
    rw [← hW1]; exact (Below.heap_alloc _ _ _ (by simp)).trans (World.alloc_heap_new w _)
  have hl1 : W1.heap[w.heap.size + 1]? = some (.loop rec) := by
    rw [← hW1]; have := World.alloc_heap_new (w.alloc (.deferred (some []))) (.loop rec); rwa [World.size_alloc] at this
  have hg1 : Good ρ1.H W1 := by
    intro b c hc
    rw [hlow b (hS1.good.lt hc)]
    exact hS1.good b c hc
  have eos : W1.os = w.os ∧ W1.tape = w.tape ∧ W1.output = w.output ∧ w.drawn ≤ W1.drawn := by rw [← hW1]; exact ⟨rfl, rfl, rfl, Nat.le_refl _⟩
  refine ⟨w.heap.size + 1, [{ target := .collected w.heap.size, args := #[] }], W1, { target := .fn (.func gf) lb, args := #[.func (.yield (w.heap.size + 1)) #[] #[]] }, W1, gf,
    #[.func (.yield (w.heap.size + 1)) #[] #[]] ++ lb, W1, ?_, ?_, fun _ _ => trivial, ?_, fun hd => by simp [Fence.wide] at hd, ?_⟩
  · rw [← hW1, hrec]; exact run_enterLoop_outer _ _ _ _ _
  · simp only [resolve, ev']
    simp [go_sem]
  · simp [invoke, go_sem, en _ _]
  · refine callsIn_wf.2 ((hit ρ1.H W1 (w.heap.size + 1) (RRes P w ρ1.H bs rec rs.ps vals d (rs.G d)) (fun _ _ _ _ => False) (fun _ _ h => h) hg1 ?_ ?_ ?_ ?_).mono ?_)
    · rw [hsz1]; exact rres_stable hbs
    · intro _ _ _ _ _ _ h; exact h.elim
    · rw [hsz1]; exact round_ok hC hm hround hall hnm hsl hn0 hbs hvals hrec
    · refine ⟨eos.1, eos.2.1, eos.2.2.1, eos.2.2.2, by rw [hsz1]; exact Nat.le_refl _, hg1, fun _ _ h => h, fun b h1 _ => ⟨hlow b h1, rfl⟩, hD1, hl1, bs, ?_, hbn, fun b hb => ⟨.inl hb, by rw [hsz1]; have := hbs b hb; omega⟩⟩
      rw [hset]
      exact oArgs_keep (fun _ _ h => h) hargs (fun b hb => ⟨hlow b (hbs b hb), rfl⟩)
    · rintro e W' ⟨v, rfl, h⟩
      rcases h with ⟨xs, fp', H', hxs, hR'⟩ | ⟨_, _, _, hf⟩
      case inr => exact hf.elim
      have hlp := hR'.loop
      refine ⟨none, _, by have := run_endLoop (P := P) hlp (by rw [hrec]; simp); rw [hrec] at this; exact this, ?_⟩
      simp only
      obtain ⟨exh, hexh⟩ : ∃ exh : Obj, exh = .loop { rec with state := .exhausted } := ⟨_, rfl⟩
      have hc := hcont xs hxs
      split at hc
      case h_2 => exact hc.elim
      rename_i out hout
      split at hc
      case h_2 => exact hc.elim
      rename_i hnew
      obtain ⟨bs', g1, g2, g3⟩ := hR'.args
      have hne : ∀ b, b ∈ bs' → b ≠ w.heap.size + 1 := by
        intro b hb e
        rcases (g3 b hb).1 with h | h
        · have := hbs b h; omega
        · have := h.2; omega
      have hP : OPost ρ1.H w bs ⟨rs.ps, [], rs.pre, fun d => ((), rs.G d xs)⟩ vals d (.returned (oneV [])) (W'.putObj (w.heap.size + 1) exh) := by
        refine ⟨[], H', [], bs', rfl, ⟨hR'.os, hR'.tape, hR'.output, hR'.drawn, by have := hR'.size; simp; omega, fun b h1 h2 => ?_, fun b h1 h2 => (hR'.old b h1 h2).2, good_put hR'.good exh hlp⟩, ⟨rfl, rfl⟩,
          oKept_of_args (d := d) hall (oArgs_keep (fun _ _ h => h) g1 (fun b hb => ⟨World.putObj_heap_other (hne b hb), rfl⟩)), by simpa using g2, fun b hb => ?_⟩
        · rw [World.putObj_heap_other (by omega)]; exact (hR'.old b h1 h2).1
        · have hb : b ∈ bs' := by simpa using hb
          rcases (g3 b hb).1 with h | h
          · exact .inl h
          · exact .inr (by have := h.2; omega)
      obtain ⟨v', _, ρ4, hS4, hle4, _, _⟩ := hpost _ out hout _ _ hP
      have hwx : ({ W' with heap := W'.heap.setIfInBounds (w.heap.size + 1) exh } : World) = W'.putObj (w.heap.size + 1) exh := rfl
      let σ' : St := ⟨σ.sl, out.wr ++ (doFz σ out.fz ++ σ.ob)⟩
      let B' : Base := { B with w := W'.putObj (w.heap.size + 1) exh, H := ρ4.H, bor := borOf ρ4 (keys σ'.ob) }
      have hS5 : Sat P B' ρ4 σ'.obj (W'.putObj (w.heap.size + 1) exh) := sat_rebase (σ := σ') hS4 hS4.good (fun _ _ h => h) (fun _ _ _ _ => ⟨rfl, rfl⟩)
      have hnw := fun n hn => isNew_facts (newAll_mem _ hnew n hn)
      have hfin : RelD P B' C.n ({ target := .collected w.heap.size, args := #[] } :: ds) σ' (addD ({ target := .collected w.heap.size, args := #[] } :: ds) a0) (W'.putObj (w.heap.size + 1) exh) := by
        refine ⟨a0, rfl, hd0, hn0, ρ4, hS5, fun s sv hs => ?_, ?_⟩
        · exact SV.den_mono hle4 _ _ (fun r hr => (hnw r hr).sl s sv (look_mem _ _ _ hs)) (hSl s sv hs)
        · have h5 := hPin.mono hle4 (fun n hn => (hnw n hn).lt)
          exact ⟨h5.1, fun _ _ h => h⟩
      have hborn : ∀ b, b ∈ borOf ρ4 (keys σ'.ob) → B.w.heap.size ≤ b ∨ b ∈ B.bor := by
        intro b hb
        obtain ⟨o, Cp, _, h1⟩ := (mem_borOf _).1 hb
        exact hS4.own o b Cp h1
      have hchain : Chain Bi B' := by
        obtain ⟨c1, c2, c3, c3', c4, c5, c6, c7, c8, c9⟩ := hL.1
        refine ⟨hS4.os.trans c1, hS4.tape.trans c2, hS4.output.trans c3, Nat.le_trans c3' hS4.drawn, Nat.le_trans c4 hS4.size, fun b c hb => hle4.H b c (hPin.2 b c (c5 b c hb)), fun b h1 h2 => ?_, fun b hb => ?_, c8, c9⟩
        · obtain ⟨k1, k2, k3⟩ := c6 b h1 h2
          have hlt : b < B.w.heap.size := Nat.lt_of_lt_of_le h1 c4
          refine ⟨(hS4.old b hlt k3).trans k1, (hS4.oldH b hlt k3).trans k2, fun hm' => ?_⟩
          rcases hborn b hm' with h | h
          · omega
          · exact k3 h
        · rcases hborn b hb with h | h
          · exact .inl (Nat.le_trans c4 h)
          · exact c7 b h
      have hDw : (W'.putObj (w.heap.size + 1) exh).heap[w.heap.size]? = some (.deferred (some [])) := by
        rw [World.putObj_heap_other (by omega)]; exact hR'.mark
      have hmarks : Marks Bi B' ({ target := .collected w.heap.size, args := #[] } :: ds) := by
        obtain ⟨m1, m2⟩ := hL.2
        have hlt : ∀ x, x ∈ ds → ∃ D, x = { target := .collected D, args := #[] } ∧ D < B.w.heap.size := by
          intro x hx
          obtain ⟨D, e, _, _, h3⟩ := m2 x hx
          exact ⟨D, e, (Array.getElem?_eq_some_iff.1 h3).1⟩
        refine ⟨List.nodup_cons.2 ⟨fun hm' => ?_, m1⟩, fun x hx => ?_⟩
        · obtain ⟨D, e, h1⟩ := hlt _ hm'
          simp at e
          have := hS.size
          omega
        · rcases List.mem_cons.1 hx with rfl | hx
          · refine ⟨w.heap.size, rfl, Nat.le_trans hL.1.size hS.size, fun hm' => ?_, hDw⟩
            obtain ⟨o, Cp, _, h1⟩ := (mem_borOf _).1 hm'
            exact (blk_book (σ := σ') hS4 h1).2 _ hDw
          · obtain ⟨D, e, k1, k2, k3⟩ := m2 x hx
            have hlt : D < B.w.heap.size := (Array.getElem?_eq_some_iff.1 k3).1
            refine ⟨D, e, k1, fun hm' => ?_, (hS4.old D hlt k2).trans k3⟩
            rcases hborn D hm' with h | h
            · omega
            · exact k2 h
      have hE : Ext σ σ' := ⟨⟨[], rfl⟩, ⟨out.wr ++ doFz σ out.fz, by simp [σ']⟩⟩
      have := hQ σ' () _ _ B' _ hc hE ⟨hchain, hmarks⟩ hfin
      rw [hexh] at this
      rw [hrec] at this
      have ea : (addD ({ target := .collected w.heap.size, args := #[] } :: ds) a0) = { addD ds a0 with defers := [{ target := .collected w.heap.size, args := #[] }] ++ (addD ds a0).defers } := by simp [addD, hd0]
      rw [ea] at this
      exact this

end
end Go.X
/-
  Functions that hold ranges over functions: their calls.
-/
namespace Go.X
open Go.RowKit (Below)

/-- what a call leaves whose results are new -/
def OPost0 (H : Imm) (w : World) (rs : List Sh) (r : RD rs) : Ending → World → Prop :=
  fun e w' => ∃ vs H' rb, e = .returned (oneV vs) ∧ HExt H w H' w' ∧ ORes H' w' rs vs r rb ∧ rb.Nodup ∧ ∀ b, b ∈ rb → w.heap.size ≤ b

def finishR (fn : Func) (rs : List Sh) (Rl : RD rs → Prop) : Ex → St → Unit → Prop
  | .exit _, _, _ => False
  | _, σ, _ => match getRes σ rs fn.results.toList with
    | some (r, o1, f1) => match nodupB o1, meets f1 o1 with
      | true, false => Rl r
      | _, _ => False
    | none => False

section
variable {P : Program} {C : Ctx}

theorem leave_marks {fn : Func} {tmps : Array Value} {R : Ending → World → Prop} : ∀ (ds : List Deferred) (w : World), ds.Nodup → (∀ x, x ∈ ds → ∃ D, x = { target := .collected D, args := #[] } ∧ w.heap[D]? = some (.deferred (some []))) →
    (∀ w' : World, w'.os = w.os → w'.tape = w.tape → w'.output = w.output → w.drawn ≤ w'.drawn → w'.heap.size = w.heap.size → (∀ b, ({ target := .collected b, args := #[] } : Deferred) ∉ ds → w'.heap[b]? = w.heap[b]?) → ∃ v, (Go.results fn tmps).run P w' = .ok v w' ∧ R (.returned v) w') →
    LeavesInM Fence.wide 0 P fn tmps R ds .returning w
  | [], w, _, _, k => k w rfl rfl rfl (Nat.le_refl _) rfl (fun _ _ => rfl)
  | x :: ds, w, hnd, hds, k => by
    rw [List.nodup_cons] at hnd
    obtain ⟨D, rfl, hD⟩ := hds x (by simp)
    refine ⟨by simp, .inl ⟨D, w.putObj D (.deferred none), rfl, run_takeDeferred hD, leave_marks ds _ hnd.2 (fun y hy => ?_) (fun w' e1 e2 e3 e3' e4 hb => k w' e1 e2 e3 e3' (by rw [e4]; simp) (fun b hnb => ?_))⟩⟩
    · obtain ⟨D', rfl, hD'⟩ := hds y (List.mem_cons_of_mem _ hy)
      refine ⟨D', rfl, ?_⟩
      rw [World.putObj_heap_other]
      · exact hD'
      · rintro rfl; exact hnd.1 hy
    · rw [hb b (fun h => hnb (List.mem_cons_of_mem _ h)), World.putObj_heap_other]
      rintro rfl; exact hnb (by simp)

theorem rcall_gen (hC : C.ok P) (hm : P.follows .mixedOrders = true) {f : Nat} {fn : Func} {body : Code} (hf : P.funcs[f]? = some fn) (hb : fn.body = some body) (hn : fn.ntmps = C.n) (A : AnnZ Unit) {hk : Hook Unit} (hhk : ∀ B, CallOK P C none hk (LvR B) ∧ RngOK P C none hk (LvR B))
    {sl : List (Nat × SV)} {vals : List Value} (hlen : vals.length ≤ C.n) {rs : List Sh} {Rl : RD rs → Prop} (hv : vcgZ C A hk body ⟨sl, []⟩ () (finishR fn rs Rl)) {H : Imm} {w : World} (hg : Good H w)
    (hsl : ∀ ρ : Env, ρ.H = H → ∀ k v, look sl k = some v → ∃ x, vals[k]? = some x ∧ SV.den P ρ v x) : Calls P f vals.toArray w (fun e w' => ∃ r, Rl r ∧ OPost0 H w rs r e w') := by
  refine (callsIn_wide (n := 0)).1 (callsIn_of_wp_marks hf hb trivial ?_ rfl)
  let ρ : Env := ⟨H, fun _ => none, fun _ => 0⟩
  let B : Base := ⟨w, H, [], fun _ => none, fun _ => 0⟩
  have hS : Sat P B ρ (⟨sl, []⟩ : St).obj w := by
    refine ⟨rfl, rfl, rfl, Nat.le_refl _, Nat.le_refl _, hg, fun _ _ _ => rfl, fun _ _ _ => rfl, ?_, fun _ _ => rfl, ?_, ?_⟩
    · intro o x hx; simp [St.obj, look] at hx
    · intro o o' b C1 C2 h1; simp [ρ] at h1
    · intro o b C1 h1; simp [ρ] at h1
  have hRel : RelD P B C.n [] ⟨sl, []⟩ { tmps := vals.toArray ++ Array.replicate (fn.ntmps - vals.toArray.size) undef, defers := [] } w := by
    refine ⟨_, (addD_nil _).symm, rfl, by simp; omega, ρ, hS, ?_, fun o p _ hb => by simp [ρ] at hb, fun _ _ hb => hb⟩
    intro k v hk
    obtain ⟨x, h1, h2⟩ := hsl ρ rfl k v hk
    rw [frame_get (x := x) h1]
    exact h2
  have hL0 : LvR B B [] () := ⟨⟨rfl, rfl, rfl, Nat.le_refl _, Nat.le_refl _, fun _ _ h => h, fun b _ h => ⟨rfl, rfl, h⟩, fun b h => .inr h, rfl, rfl⟩, List.nodup_nil, fun x hx => by simp at hx⟩
  refine vcgZ_sound (r := none) hC hm A hk (LvR B) (hhk B).1 (hhk B).2 body _ () _ _ _ w B [] hv hL0 hRel (fun e σ ys a' w' B' ds hE hK hL hR => ?_)
  obtain ⟨a1, rfl, q1, q2, ρ', q3, q4, q5⟩ := hR
  obtain ⟨hch, hmk⟩ := hL
  have main : (match getRes σ rs fn.results.toList with
    | some (r, o1, f1) => match nodupB o1, meets f1 o1 with
      | true, false => Rl r
      | _, _ => False
    | none => False) → LeavesInM Fence.wide 0 P fn (addD ds a1).tmps (fun e w' => ∃ r, Rl r ∧ OPost0 H w rs r e w') (addD ds a1).defers .returning w' := by
    intro hr
    split at hr
    case h_2 => exact hr.elim
    rename_i r o1 f1 hres
    split at hr
    case h_2 => exact hr.elim
    rename_i hno hme
    have ed : (addD ds a1).defers = ds := by simp [addD, q1]
    have et : (addD ds a1).tmps = a1.tmps := rfl
    rw [ed, et]
    obtain ⟨ρ2, hS2, hle, hblk, hln⟩ := freeze_sat (σ := σ) f1 q3
    have hd : ∀ k, SV.den P ρ2 (σ.get k) (a1.tmps.getD k undef) := by
      intro k
      have := den_opnd (P := P) (a := a1) q4 (.tmp k)
      exact SV.den_mono hle _ _ (fun o ho => by simp at ho) this
    have hkeep : Keeps σ (σ.frz f1) o1 := by
      intro o ho
      rw [obj_frz, if_neg]
      exact fun hm => meets_false _ _ hme o hm ho
    obtain ⟨ss, e1, e2⟩ := getRes_sound hS2 (fz_frz σ _) hd rs _ _ _ _ hres (fun o ho => ho) hkeep
    have hDs : ∀ x, x ∈ ds → ∃ D, x = { target := .collected D, args := #[] } ∧ w.heap.size ≤ D ∧ D ∉ B'.bor ∧ D < B'.w.heap.size ∧ w'.heap[D]? = some (.deferred (some [])) := by
      intro x hx
      obtain ⟨D, e, k1, k2, k3⟩ := hmk.2 x hx
      have hlt := (Array.getElem?_eq_some_iff.1 k3).1
      exact ⟨D, e, k1, k2, hlt, (hS2.old D hlt k2).trans k3⟩
    refine leave_marks ds w' hmk.1 (fun x hx => ?_) (fun w2 g1 g2 g3 g3' g4 g5 => ?_)
    · obtain ⟨D, e, _, _, _, h⟩ := hDs x hx
      exact ⟨D, e, h⟩
    have hno_low : ∀ b, b < w.heap.size → ({ target := .collected b, args := #[] } : Deferred) ∉ ds := by
      intro b hb hm'
      obtain ⟨D, e, k1, _⟩ := hDs _ hm'
      simp at e
      omega
    have hno_obj : ∀ o b Cp, ρ2.blk o = some (some (b, Cp)) → ({ target := .collected b, args := #[] } : Deferred) ∉ ds := by
      intro o b Cp hb hm'
      obtain ⟨D, e, _, _, _, h⟩ := hDs _ hm'
      simp at e
      subst e
      exact (blk_book (σ := σ.frz f1) hS2 hb).2 _ h
    have hgood : Good ρ2.H w2 := by
      intro b c hc
      have h1 := hS2.good b c hc
      rw [g5 b (fun hm' => ?_)]
      · exact h1
      · obtain ⟨D, e, _, _, _, h⟩ := hDs _ hm'
        simp at e
        subst e
        rw [h] at h1
        exact fz_at_deferred h1
    have hrb : ∀ b, b ∈ borOf ρ2 o1 → w.heap.size ≤ b ∧ w2.heap[b]? = w'.heap[b]? := by
      intro b hb
      obtain ⟨o, Cp, _, h1⟩ := (mem_borOf _).1 hb
      refine ⟨?_, g5 b (hno_obj o b Cp h1)⟩
      rcases hS2.own o b Cp h1 with h | h
      · exact Nat.le_trans hch.size h
      · rcases hch.own b h with h | h
        · exact h
        · simp [B] at h
    refine ⟨_, run_results e1 a1.tmps w2, r, hr, ss.map (fun s => a1.tmps.getD s undef), ρ2.H, borOf ρ2 o1, rfl, ⟨⟨g1.trans (hS2.os.trans hch.os), g2.trans (hS2.tape.trans hch.tape), g3.trans (hS2.output.trans hch.output), ?_, fun b hb => ?_⟩, hgood, fun b hb => ?_, Nat.le_trans (Nat.le_trans hch.drawn hS2.drawn) g3'⟩, ?_, borOf_nodup hS2 _ (nodupB_nodup _ hno), fun b hb => (hrb b hb).1⟩
    · rw [g4]; exact Nat.le_trans hch.size hS2.size
    · obtain ⟨k1, k2, k3⟩ := hch.old b hb (by simp [B])
      rw [g5 b (hno_low b hb)]
      exact (hS2.old b (Nat.lt_of_lt_of_le hb hch.size) k3).trans k1
    · obtain ⟨k1, k2, k3⟩ := hch.old b hb (by simp [B])
      exact (hS2.oldH b (Nat.lt_of_lt_of_le hb hch.size) k3).trans k2
    · have keepRes : ∀ (rs : List Sh) (vs : List Value) (r : RD rs) (bs : List Nat), ORes ρ2.H w' rs vs r bs → (∀ b, b ∈ bs → w2.heap[b]? = w'.heap[b]?) → ORes ρ2.H w2 rs vs r bs := by
        intro rs
        induction rs with
        | nil => intro vs r bs h _; exact h
        | cons s rs ih =>
          intro vs r bs h hk
          cases vs with
          | nil => exact h.elim
          | cons v vs =>
            obtain ⟨b1, b2, rfl, h1, h2⟩ := h
            exact ⟨b1, b2, rfl, shV_keep (fun _ _ h => h) h1 (fun b hb => ⟨hk b (List.mem_append_left _ hb), rfl⟩), ih vs r.2 b2 h2 (fun b hb => hk b (List.mem_append_right _ hb))⟩
      exact keepRes _ _ _ _ e2 (fun b hb => (hrb b hb).2)
  cases e with
  | normal => exact main hK
  | ret => exact main hK
  | exit id => exact hK.elim

/-! ### Results that are data -/

def toSt : (rs : List Ty) → RD (rs.map fun t => .cl (.dat t)) → (Ty.st rs).Data
  | [], _ => ()
  | _ :: rs, d => (d.1, toSt rs d.2)

theorem oRes_rvs {H : Imm} {w : World} : ∀ (rs : List Ty) (vs : List Value) (r : RD (rs.map fun t => .cl (.dat t))) (bs : List Nat), ORes H w (rs.map fun t => .cl (.dat t)) vs r bs → rvs H rs vs (toSt rs r)
  | [], vs, r, bs, h => h.1
  | t :: rs, [], r, bs, h => h.elim
  | t :: rs, v :: vs, r, bs, h => by
    obtain ⟨b1, b2, _, h1, h2⟩ := h
    exact ⟨h1.1, oRes_rvs rs vs r.2 b2 h2⟩

theorem post_of {H : Imm} {w : World} {rs : List Ty} {r : RD (rs.map fun t => .cl (.dat t))} {e : Ending} {w' : World} (h : OPost0 H w (rs.map fun t => .cl (.dat t)) r e w') : Post H w rs (toSt rs r) e w' := by
  obtain ⟨vs, H', rb, rfl, hE, hr, _, _⟩ := h
  have h1 := oRes_rvs rs vs r rb hr
  refine ⟨_, H', rfl, hE, ?_⟩
  have := res_one h1
  unfold oneRes at this
  unfold oneV
  exact this

/-- a function with data for its results that holds ranges over functions -/
@[irreducible] def rfnVC (C : Ctx) (A : AnnZ Unit) (hk : Hook Unit) (fn : Func) (body : Code) (s : Spec) : Prop :=
  ∀ d : PD s.ps, gives (s.pre d) (vcgZ C A hk body ⟨initSl s.ps d 0, []⟩ () (finishR fn (s.rs.map fun t => .cl (.dat t)) (fun r => toSt s.rs r = s.F d)))

theorem rfn_ok (hC : C.ok P) (hm : P.follows .mixedOrders = true) {f : Nat} {fn : Func} {body : Code} {s : Spec} (hf : P.funcs[f]? = some fn) (hb : fn.body = some body) (hname : (fn.name == "runtime.NumGoroutine") = false) (hn : fn.ntmps = C.n) (hps : s.ps.length ≤ C.n)
    {A : AnnZ Unit} {hk : Hook Unit} (hhk : ∀ B, CallOK P C none hk (LvR B) ∧ RngOK P C none hk (LvR B)) (h : rfnVC C A hk fn body s) : FnOK P f s := by
  unfold rfnVC at h
  refine ⟨enters_of hf hb hname, fun H w vals d hg hp hpre => ?_⟩
  have hlen := pvs_length hp
  refine (rcall_gen hC hm hf hb hn A hhk (by omega) (gives_all _ _ (h d) hpre) hg (fun ρ hρ k v hk => ?_)).mono fun e w' ⟨r, hr, hpost⟩ => ?_
  · obtain ⟨x, h1, h2⟩ := initSl_den (P := P) (ρ := ρ) s.ps vals d 0 (by rw [hρ]; exact hp) k v hk
    exact ⟨x, by simpa using h1, h2⟩
  · rw [← hr]; exact post_of hpost

end
end Go.X
/-
  Functions that hand back a closure over memory that stays; functions to which such a closure is handed.
-/
namespace Go.X
open Go.RowKit (Below)

/-- a closure is handed back, over variables that stay as they are -/
structure CSpec where
  ps : List Par
  pre : PD ps → List Prop
  g : Nat
  cs : List Ty
  F : PD ps → (Ty.st cs).Data

def epsOf : (cs : List Ty) → (Ty.st cs).Data → List SV
  | [], _ => []
  | t :: ts, d => .ep t d.1 :: epsOf ts d.2

def refVs (H : Imm) : (cs : List Ty) → List Value → (Ty.st cs).Data → Prop
  | [], vs, _ => vs = []
  | t :: ts, v :: vs, d => refV H t v d.1 ∧ refVs H ts vs d.2
  | _ :: _, [], _ => False

def zipRefs (σ : St) : (cs : List Ty) → List SV → Option ((Ty.st cs).Data × List Nat)
  | [], [] => some ((), [])
  | t :: ts, v :: vs => match toRef σ t v with
    | some (x, f) => match zipRefs σ ts vs with
      | some (xs, f') => some ((x, xs), f ++ f')
      | none => none
    | none => none
  | _, _ => none

def cCall (C : Ctx) (s : CSpec) (σ : St) (svs : List SV) : Option Out := match zipArgs C σ s.ps svs with
  | some (d, fz) => some ⟨s.pre d, [], .clo s.g (epsOf s.cs (s.F d)), fz, [], []⟩
  | none => none

structure CFnOK (P : Program) (f : Nat) (s : CSpec) : Prop where
  enters : enters P f
  calls : ∀ H w vals d, Good H w → pvs P H s.ps vals d → AllP (s.pre d) → Calls P f vals.toArray w (fun e w' => ∃ lb H', e = .returned (.func (.func s.g) #[] lb) ∧ HExt H w H' w' ∧ refVs H' s.cs lb.toList (s.F d))

def finishC (fn : Func) (s : CSpec) (want : (Ty.st s.cs).Data) : Ex → St → Prop
  | .exit _, _ => False
  | _, σ => match fn.results.toList with
    | [.tmp r] => match σ.get r with
      | .clo g caps => match Nat.beq g s.g, zipRefs σ s.cs caps with
        | true, some (x, _) => x = want
        | _, _ => False
      | _ => False
    | _ => False

@[irreducible] def cfnVC (C : Ctx) (A : Ann) (fn : Func) (body : Code) (s : CSpec) : Prop :=
  ∀ d : PD s.ps, gives (s.pre d) (vcg C A body ⟨initSl s.ps d 0, []⟩ (finishC fn s (s.F d)))

/-- a function to which a closure of 'g' is handed first: known by what the closure has captured -/
structure VSpec where
  g : Nat
  k : Nat
  s : OSpec

structure VOK (P : Program) (f : Nat) (v : VSpec) : Prop where
  enters : enters P f
  calls : ∀ H w (lb rest : List Value) d bs, lb.length = v.k → Good H w → OArgs P H w v.s.ps (lb ++ rest) d bs → bs.Nodup → AllP (v.s.pre d) → Calls P f (Value.func (.func v.g) #[] lb.toArray :: rest).toArray w (OPost H w bs v.s (lb ++ rest) d)

def vCall (C : Ctx) (v : VSpec) (dst : Nat) (σ : St) : List SV → Option Out
  | .clo g caps :: rest => match Nat.beq g v.g, Nat.beq caps.length v.k with
    | true, true => oCall C v.s dst σ (caps ++ rest)
    | _, _ => none
  | _ => none

/-- all kinds of effects -/
def xEff (C : Ctx) (os : List (Nat × OSpec)) (cs : List (Nat × CSpec)) (vs : List (Nat × VSpec)) (f dst : Nat) (σ : St) (svs : List SV) : Option Out :=
  match look os f with
  | some s => oCall C s dst σ svs
  | none => match look cs f with
    | some s => cCall C s σ svs
    | none => match look vs f with
      | some v => vCall C v dst σ svs
      | none => none

section
variable {P : Program} {B : Base} {C : Ctx} {σ : St} {ρ : Env} {w : World}

theorem refVs_den {H : Imm} : ∀ (cs : List Ty) (vs : List Value) (d : (Ty.st cs).Data), refVs H cs vs d → ρ.H = H → SV.denL P ρ (epsOf cs d) vs
  | [], vs, d, h, _ => by simp only [refVs] at h; subst h; simp [epsOf, SV.denL]
  | t :: ts, [], d, h, _ => h.elim
  | t :: ts, v :: vs, d, h, hH => by
    obtain ⟨h1, h2⟩ := h
    simp only [epsOf, SV.denL]
    refine ⟨v, vs, rfl, ?_, refVs_den ts vs d.2 h2 hH⟩
    simp only [SV.den]
    rw [hH]; exact h1

theorem zipRefs_sound {τ : St} (hS : Sat P B ρ τ.obj w) {fz : List Nat} (hF : Frz σ τ fz) : ∀ {cs : List Ty} {svs : List SV} {d : (Ty.st cs).Data} {fz' : List Nat}, zipRefs σ cs svs = some (d, fz') → (∀ o, o ∈ fz' → o ∈ fz) → ∀ {vs : List Value}, SV.denL P ρ svs vs → refVs ρ.H cs vs d
  | [], [], d, fz', h, _, vs, hv => by simpa [SV.denL, refVs] using hv
  | [], _ :: _, d, fz', h, _, vs, hv => by simp [zipRefs] at h
  | _ :: _, [], d, fz', h, _, vs, hv => by simp [zipRefs] at h
  | t :: ts, v :: svs, d, fz', h, hf, vs, hv => by
    simp only [zipRefs] at h
    split at h
    case h_2 => cases h
    rename_i x f hx
    split at h
    case h_2 => cases h
    rename_i xs f' hxs
    simp at h
    obtain ⟨rfl, rfl⟩ := h
    simp only [SV.denL] at hv
    obtain ⟨u, r, rfl, h1, h2⟩ := hv
    exact ⟨toRef_sound hS hF hx (fun o ho => hf o (List.mem_append_left _ ho)) h1, zipRefs_sound hS hF hxs (fun o ho => hf o (List.mem_append_right _ ho)) h2⟩

theorem cCall_sound (hC : C.ok P) {f : Nat} {s : CSpec} {svs : List SV} {out : Out} (hf : CFnOK P f s) (h : cCall C s σ svs = some out) {vals : List Value} (hS : Sat P B ρ σ.obj w) (hd : SV.denL P ρ svs vals) (hvc : AllP out.vc) :
    Calls P f vals.toArray w (fun e w' => ∃ v, e = .returned v ∧ Leaves P B ρ σ out v w') := by
  unfold cCall at h
  split at h
  case h_2 => cases h
  rename_i d fz hz
  simp at h; subst h
  obtain ⟨ρ1, hS1, hle1, _, _⟩ := freeze_sat fz hS
  have hall := SV.denL_mono hle1 _ _ (fun o ho => by simp at ho) hd
  refine (hf.calls ρ1.H w _ d hS1.good (zipArgs_sound hC hS1 (fz_frz σ fz) hz (fun o ho => ho) hall) hvc).mono fun e w' he => ?_
  obtain ⟨lb, H', rfl, hE, hr⟩ := he
  obtain ⟨hS2, hle2⟩ := sat_call hS1 (fun o b Cp hb => (blk_lt (σ := σ.frz fz) hS1 hb).1) hE
  refine ⟨_, rfl, _, ?_, hle1.trans hle2, ?_, trivial⟩
  · show Sat P B _ (σ.frz fz).obj w'
    exact hS2
  · simp only [SV.den]
    exact ⟨lb, rfl, refVs_den _ _ _ hr rfl⟩

theorem cfn_ok (hC : C.ok P) (hm : P.follows .mixedOrders = true) {f : Nat} {fn : Func} {body : Code} {s : CSpec} (hf : P.funcs[f]? = some fn) (hb : fn.body = some body)
    (hname : (fn.name == "runtime.NumGoroutine") = false) (hn : fn.ntmps = C.n) (hps : s.ps.length ≤ C.n) (A : Ann) (h : cfnVC C A fn body s) : CFnOK P f s := by
  unfold cfnVC at h
  refine ⟨enters_of hf hb hname, fun H w vals d hg hp hpre => ?_⟩
  have hlen := pvs_length hp
  refine calls_of_wp hf hb ?_
  have hv := gives_all _ _ (h d) hpre
  let ρ : Env := ⟨H, fun _ => none, fun _ => 0⟩
  have hS : Sat P ⟨w, H, [], fun _ => none, fun _ => 0⟩ ρ (⟨initSl s.ps d 0, []⟩ : St).obj w := by
    refine ⟨rfl, rfl, rfl, Nat.le_refl _, Nat.le_refl _, hg, fun _ _ _ => rfl, fun _ _ _ => rfl, ?_, fun _ _ => rfl, ?_, ?_⟩
    · intro o x hx; simp [St.obj, look] at hx
    · intro o o' b C1 C2 h1; simp [ρ] at h1
    · intro o b C1 h1; simp [ρ] at h1
  have hR : Rel P ⟨w, H, [], fun _ => none, fun _ => 0⟩ C.n ⟨initSl s.ps d 0, []⟩ { tmps := vals.toArray ++ Array.replicate (fn.ntmps - vals.toArray.size) undef, defers := [] } w := by
    refine ⟨rfl, by simp; omega, ρ, hS, ?_, fun o p _ hb => by simp [ρ] at hb, fun _ _ hb => hb⟩
    intro k v hk
    obtain ⟨x, h1, h2⟩ := initSl_den (P := P) (ρ := ρ) s.ps vals d 0 hp k v hk
    rw [frame_get (x := x) (by simpa using h1)]
    exact h2
  refine vcg_sound hC hm A body _ _ _ _ w hv hR (fun e σ a' w' _ hK hR' => ?_)
  have main : (match fn.results.toList with
    | [.tmp r] => match σ.get r with
      | .clo g caps => match Nat.beq g s.g, zipRefs σ s.cs caps with
        | true, some (x, _) => x = s.F d
        | _, _ => False
      | _ => False
    | _ => False) → a'.defers = [] ∧ ∃ v, (Go.results fn a'.tmps).run P w' = .ok v w' ∧ ∃ lb H', Ending.returned v = .returned (.func (.func s.g) #[] lb) ∧ HExt H w H' w' ∧ refVs H' s.cs lb.toList (s.F d) := by
    intro hr
    split at hr
    case h_2 => exact hr.elim
    rename_i r hres
    split at hr
    case h_2 => exact hr.elim
    rename_i g caps hget
    split at hr
    case h_2 => exact hr.elim
    rename_i x fz hg' hz
    have := Nat.eq_of_beq_eq_true hg'
    subst this
    subst hr
    obtain ⟨h1, h2, ρ', hS', hSl, _⟩ := hR'
    obtain ⟨ρ2, hS2, hle, _, _⟩ := freeze_sat (σ := σ) fz hS'
    have hd := den_opnd (P := P) (a := a') hSl (.tmp r)
    simp only [opnd] at hd
    rw [hget] at hd
    simp only [SV.den] at hd
    obtain ⟨lb, e1, e2⟩ := hd
    have e3 := zipRefs_sound hS2 (fz_frz σ _) hz (fun o ho => ho) (SV.denL_mono hle _ _ (fun o ho => by simp at ho) e2)
    refine ⟨h1, _, run_results (ss := [r]) (by simpa using hres) _ _, lb, ρ2.H, ?_, ?_, e3⟩
    · simp only [List.map_cons, List.map_nil]
      exact congrArg Ending.returned e1
    · have below : Below w.heap.size w w' := ⟨hS2.os, hS2.tape, hS2.output, hS2.size, fun b hb => hS2.old b hb (by simp)⟩
      exact ⟨below, hS2.good, fun b hb => hS2.oldH b hb (by simp), hS2.drawn⟩
  cases e with
  | normal => exact main hK
  | ret => exact main hK
  | exit id => exact hK.elim

theorem vCall_sound (hC : C.ok P) {f dst : Nat} {v : VSpec} {svs : List SV} {out : Out} (hf : VOK P f v) (h : vCall C v dst σ svs = some out) {vals : List Value} (hS : Sat P B ρ σ.obj w) (hd : SV.denL P ρ svs vals) (hvc : AllP out.vc) :
    Calls P f vals.toArray w (fun e w' => ∃ v, e = .returned v ∧ Leaves P B ρ σ out v w') := by
  unfold vCall at h
  split at h
  case h_2 => cases h
  rename_i g caps rest
  split at h
  case h_2 => cases h
  rename_i hg hk
  have hg := Nat.eq_of_beq_eq_true hg
  have hk := Nat.eq_of_beq_eq_true hk
  subst hg
  simp only [SV.denL] at hd
  obtain ⟨u, r, rfl, h1, h2⟩ := hd
  simp only [SV.den] at h1
  obtain ⟨lb, rfl, h3⟩ := h1
  have hall := denL_append _ _ _ _ h3 h2
  have h0 := h
  unfold oCall at h0
  split at h0
  · cases h0
  rename_i d os fz hz
  split at h0
  case h_2 => cases h0
  rename_i hno hme _ _
  simp at h0
  obtain ⟨ρ1, _, hS1, _, hargs, hbn, hpost⟩ := oCall_split (dst := dst) (rs := v.s.rs) (pre := v.s.pre) hC hz hno hme hS hall
  have := hf.calls ρ1.H w lb.toList r d (borOf ρ1 os) (by rw [← denL_length _ _ h3, hk]) hS1.good hargs hbn (by rw [← h0] at hvc; exact hvc)
  rw [show (Value.func (.func v.g) #[] lb.toList.toArray :: r).toArray = (Value.func (.func v.g) #[] lb :: r).toArray from by simp] at this
  exact this.mono fun e w' he => hpost v.s.F out h e w' he

theorem xEff_sound (hC : C.ok P) {os : List (Nat × OSpec)} {cs : List (Nat × CSpec)} {vs : List (Nat × VSpec)} (ho : ∀ f s, look os f = some s → OFnOK P f s) (hc : ∀ f s, look cs f = some s → CFnOK P f s) (hv : ∀ f s, look vs f = some s → VOK P f s)
    {f dst : Nat} {svs : List SV} {out : Out} (h : xEff C os cs vs f dst σ svs = some out) :
    enters P f ∧ ∀ B ρ w vals, Sat P B ρ σ.obj w → SV.denL P ρ svs vals → AllP out.vc → σ.obj dst = none → NoRef σ.obj dst →
      Calls P f vals.toArray w (fun e w' => ∃ v, e = .returned v ∧ Leaves P B ρ σ out v w') := by
  unfold xEff at h
  split at h
  · rename_i s hs
    exact ⟨(ho f s hs).enters, fun B ρ w vals hS hd hvc _ _ => oCall_sound hC (ho f s hs) h hS hd hvc⟩
  · split at h
    · rename_i s hs
      exact ⟨(hc f s hs).enters, fun B ρ w vals hS hd hvc _ _ => cCall_sound hC (hc f s hs) h hS hd hvc⟩
    · split at h
      · rename_i v hs
        exact ⟨(hv f v hs).enters, fun B ρ w vals hS hd hvc _ _ => vCall_sound hC (hv f v hs) h hS hd hvc⟩
      · cases h

end
end Go.X
/-
  Calls of functions of whose results only a relation is known, and to which closures may be handed; functions that hold such calls and ranges over functions.
-/
namespace Go.X
open Go.RowKit (Below)

/-- a function of whose results a relation is known; 'as': which of its arguments are closures, of what, with how many captures -/
structure RSpec where
  as : List (Option (Nat × Nat))
  ps : List OPar
  rs : List Sh
  pre : OD ps → List Prop
  R : OD ps → RD rs × KD ps → Prop

def flatS : List (Option (Nat × Nat)) → List SV → Option (List SV)
  | [], [] => some []
  | none :: as, v :: vs => match flatS as vs with
    | some r => some (v :: r)
    | none => none
  | some gk :: as, .clo g' caps :: vs => match Nat.beq gk.1 g', Nat.beq caps.length gk.2, flatS as vs with
    | true, true, some r => some (caps ++ r)
    | _, _, _ => none
  | _, _ => none

def flatV : List (Option (Nat × Nat)) → List Value → List Value → Prop
  | [], vs, fl => vs = [] ∧ fl = []
  | none :: as, vs, fl => ∃ v vs' fl', vs = v :: vs' ∧ fl = v :: fl' ∧ flatV as vs' fl'
  | some gk :: as, vs, fl => ∃ lb vs' fl', vs = .func (.func gk.1) #[] lb :: vs' ∧ fl = lb.toList ++ fl' ∧ lb.size = gk.2 ∧ flatV as vs' fl'

/-- the same with one outcome -/
def RSpec.at (s : RSpec) (r : RD s.rs × KD s.ps) : OSpec := ⟨s.ps, s.rs, s.pre, fun _ => r⟩

structure ROK (P : Program) (f : Nat) (s : RSpec) : Prop where
  enters : enters P f
  calls : ∀ H w vals fl d bs, flatV s.as vals fl → Good H w → OArgs P H w s.ps fl d bs → bs.Nodup → AllP (s.pre d) →
    Calls P f vals.toArray w (fun e w' => ∃ r, s.R d r ∧ OPost H w bs (s.at r) fl d e w')

/-- calls of the functions in a table, and ranges -/
def hkC (C : Ctx) (A : AnnZ Unit) (tbl : Nat → Option ((t : Ty) × RngS t)) (sps : List Nat) (rt : List (Nat × Nat × RSpec)) : Hook Unit :=
  ⟨fun d => memb sps d, fun cal args σ _ K => match cal with
    | .clo f [] => match look rt f with
      | some p => match flatS p.2.as args with
        | some svs => match zipO C σ p.2.ps svs with
          | some (d, os, fz) => match nodupB os, meets fz os with
            | true, false => AllP (p.2.pre d) ∧ ∀ r, p.2.R d r → (match oCall C (p.2.at r) p.1 σ svs with
              | some out => match newAll ⟨σ, []⟩ out.nw with
                | true => K out.sv ⟨σ.sl, out.wr ++ (doFz σ out.fz ++ σ.ob)⟩ ()
                | false => False
              | none => False)
            | _, _ => False
          | none => False
        | none => False
      | none => False
    | _ => False, (hkR C A tbl).rng⟩

section
variable {P : Program} {C : Ctx}

theorem flat_sound {ρ : Env} : ∀ (as : List (Option (Nat × Nat))) (svs fs : List SV) (vals : List Value), flatS as svs = some fs → SV.denL P ρ svs vals → ∃ fl, flatV as vals fl ∧ SV.denL P ρ fs fl
  | [], svs, fs, vals, h, hd => by
    cases svs with
    | nil =>
      simp only [flatS, Option.some.injEq] at h; subst h
      simp only [SV.denL] at hd; subst hd
      exact ⟨[], ⟨rfl, rfl⟩, by simp [SV.denL]⟩
    | cons a r => simp [flatS] at h
  | none :: as, [], fs, vals, h, hd => by simp [flatS] at h
  | none :: as, v :: vs, fs, vals, h, hd => by
    simp only [flatS] at h
    split at h
    case h_2 => cases h
    rename_i r hr
    simp only [Option.some.injEq] at h; subst h
    simp only [SV.denL] at hd
    obtain ⟨x, xs, rfl, h1, h2⟩ := hd
    obtain ⟨fl, k1, k2⟩ := flat_sound as vs r xs hr h2
    exact ⟨x :: fl, ⟨x, xs, fl, rfl, rfl, k1⟩, by simp only [SV.denL]; exact ⟨x, fl, rfl, h1, k2⟩⟩
  | some gk :: as, svs, fs, vals, h, hd => by
    unfold flatS at h
    split at h
    · rename_i e; cases e
    · rename_i e; cases e
    · rename_i gk' as' g' caps vs e
      simp only [List.cons.injEq, Option.some.injEq] at e
      obtain ⟨rfl, rfl⟩ := e
      split at h
      case h_2 => cases h
      rename_i r hg hl hr
      simp only [Option.some.injEq] at h; subst h
      have hg := Nat.eq_of_beq_eq_true hg
      have hl := Nat.eq_of_beq_eq_true hl
      subst hg
      simp only [SV.denL] at hd
      obtain ⟨x, xs, rfl, h1, h2⟩ := hd
      simp only [SV.den] at h1
      obtain ⟨lb, rfl, h3⟩ := h1
      obtain ⟨fl, k1, k2⟩ := flat_sound as vs r xs hr h2
      have hn := denL_length _ _ h3
      refine ⟨lb.toList ++ fl, ⟨lb, xs, fl, rfl, rfl, ?_, k1⟩, denL_append _ _ _ _ h3 k2⟩
      rw [← hl, hn]; simp
    · cases h

theorem callOK_C (hC : C.ok P) {A : AnnZ Unit} {tbl : Nat → Option ((t : Ty) × RngS t)} {sps : List Nat} {rt : List (Nat × Nat × RSpec)} (hrt : ∀ f p, look rt f = some p → ROK P f p.2) {Bi : Base} : CallOK P C none (hkC C A tbl sps rt) (LvR Bi) := by
  intro o c f d σ ys K B ds a w next Q hop hc hdst hd h hL hRel hK
  obtain ⟨a0, rfl, hd0, hn0, ρ, hS, hSl, hPin⟩ := hRel
  have hnd : ∀ c, o.op ≠ .defer c := fun c e => by rw [hop] at e; cases e
  have hfv := den_opnd (P := P) (ρ := ρ) hSl f
  have hargs := denL_map (P := P) (ρ := ρ) (σ := σ) (fun x => den_opnd (P := P) (ρ := ρ) hSl x) c.args.toList
  refine ⟨fun _ _ => trivial, ?_⟩
  rw [Oper.semAt_eq _ _ _ hnd]
  simp only [hkC] at h
  split at h
  case h_2 => exact h.elim
  rename_i k hv
  split at h
  case h_2 => exact h.elim
  rename_i p hp
  split at h
  case h_2 => exact h.elim
  rename_i svs hfl
  split at h
  case h_2 => exact h.elim
  rename_i dd os fz hz
  split at h
  case h_2 => exact h.elim
  rename_i hno hme
  obtain ⟨hpre, hcont⟩ := h
  have hok := hrt k p hp
  rw [hv] at hfv
  simp only [SV.den] at hfv
  obtain ⟨vs, ef, hcaps⟩ := hfv
  simp only [SV.denL, Array.toList_eq_nil_iff] at hcaps
  subst hcaps
  obtain ⟨fl, hflV, hflD⟩ := flat_sound (P := P) (ρ := ρ) _ _ _ _ hfl hargs
  obtain ⟨ρ1, hle1, hS1, hb1, hoargs, hbn, hpost⟩ := oCall_split (dst := p.1) (rs := p.2.rs) (pre := p.2.pre) hC hz hno hme hS hflD
  have hex : (execOp (addD ds a0).eval o).run P w = .ok (.enter k (c.args.map a0.eval)) w := by
    have ef' : (addD ds a0).eval f = .func (.func k) #[] #[] := by rw [addD_eval]; exact ef
    simp only [execOp, hop, Sem.run_bind, resolve, hc, Deferred.ofValue, ef', Sem.run_pure, Result.andThen_ok, invoke]
    have e2 : (addD ds a0).eval = a0.eval := by exact addD_eval _ _
    rw [e2, ← hok.enters (c.args.map a0.eval) w]
    simp
  rw [hex]
  simp only [Oper.uponIn]
  refine ⟨fun hd => by simp [Fence.wide] at hd, callsIn_wf.2 ?_⟩
  have hc1 := hok.calls ρ1.H w _ fl dd (borOf ρ1 os) hflV hS1.good hoargs hbn hpre
  rw [show (c.args.toList.map a0.eval).toArray = c.args.map a0.eval from by apply Array.toList_inj.1; simp] at hc1
  refine hc1.mono fun e w' he => ?_
  obtain ⟨r, hr, hP⟩ := he
  have hc2 := hcont r hr
  split at hc2
  case h_2 => exact hc2.elim
  rename_i out hout
  split at hc2
  case h_2 => exact hc2.elim
  rename_i hnew
  obtain ⟨v, rfl, ρ4, hS4, hle4, hdv, _⟩ := hpost _ out hout e w' hP
  simp only
  rw [hdst]
  have hnw := fun n hn => isNew_facts (newAll_mem _ hnew n hn)
  have hE : Ext σ ⟨σ.sl, out.wr ++ (doFz σ out.fz ++ σ.ob)⟩ := ⟨⟨[], rfl⟩, ⟨out.wr ++ doFz σ out.fz, by simp⟩⟩
  have hput : (addD ds a0).put (some d) v = addD ds (a0.put (some d) v) := rfl
  rw [hput]
  refine hK out.sv _ () v w' B hc2 hE hL ⟨a0.put (some d) v, rfl, by simpa [Act.put] using hd0, by simpa [Act.put] using hn0, ρ4, hS4, ?_, hPin.mono hle4 (fun n hn => (hnw n hn).lt)⟩
  intro s y hx
  simp only [Act.put]
  by_cases hs : s = d
  · subst hs
    rw [look_cons_eq] at hx
    simp at hx; subst hx
    simp only [Array.getD_eq_getD_getElem?, Array.getElem?_setIfInBounds]
    simp only [if_true]
    rw [if_pos (by rw [hn0]; exact hd)]
    exact hdv
  · rw [look_cons_ne (fun h => hs h.symm)] at hx
    simp only [Array.getD_eq_getD_getElem?, Array.getElem?_setIfInBounds]
    rw [if_neg (fun h => hs h.symm)]
    have := SV.den_mono hle4 _ _ (fun r hr => (hnw r hr).sl s y (look_mem _ _ _ hx)) (hSl s y hx)
    simpa only [Array.getD_eq_getD_getElem?] using this

/-- both kinds are sound -/
theorem hkC_ok (hC : C.ok P) (hm : P.follows .mixedOrders = true) {A : AnnZ Unit} {tbl : Nat → Option ((t : Ty) × RngS t)} (hseq : SeqsOK P tbl) {sps : List Nat} {rt : List (Nat × Nat × RSpec)} (hrt : ∀ f p, look rt f = some p → ROK P f p.2) (B : Base) :
    CallOK P C none (hkC C A tbl sps rt) (LvR B) ∧ RngOK P C none (hkC C A tbl sps rt) (LvR B) :=
  ⟨callOK_C hC hrt, fun g ps as b σ ys K B' ds a w Q h => rngOK_R hC hm hseq g ps as b σ ys K B' ds a w Q h⟩

/-- the same with a loop's annotation that knows the arguments -/
@[irreducible] def rfnVCd (C : Ctx) (s : Spec) (A : PD s.ps → AnnZ Unit) (hk : Hook Unit) (fn : Func) (body : Code) : Prop :=
  ∀ d : PD s.ps, gives (s.pre d) (vcgZ C (A d) hk body ⟨initSl s.ps d 0, []⟩ () (finishR fn (s.rs.map fun t => .cl (.dat t)) (fun r => toSt s.rs r = s.F d)))

theorem rfn_okd (hC : C.ok P) (hm : P.follows .mixedOrders = true) {f : Nat} {fn : Func} {body : Code} {s : Spec} (hf : P.funcs[f]? = some fn) (hb : fn.body = some body) (hname : (fn.name == "runtime.NumGoroutine") = false) (hn : fn.ntmps = C.n) (hps : s.ps.length ≤ C.n)
    {A : PD s.ps → AnnZ Unit} {hk : Hook Unit} (hhk : ∀ B, CallOK P C none hk (LvR B) ∧ RngOK P C none hk (LvR B)) (h : rfnVCd C s A hk fn body) : FnOK P f s := by
  unfold rfnVCd at h
  refine ⟨enters_of hf hb hname, fun H w vals d hg hp hpre => ?_⟩
  have hlen := pvs_length hp
  refine (rcall_gen hC hm hf hb hn (A d) hhk (by omega) (gives_all _ _ (h d) hpre) hg (fun ρ hρ k v hk => ?_)).mono fun e w' ⟨r, hr, hpost⟩ => ?_
  · obtain ⟨x, h1, h2⟩ := initSl_den (P := P) (ρ := ρ) s.ps vals d 0 (by rw [hρ]; exact hp) k v hk
    exact ⟨x, by simpa using h1, h2⟩
  · rw [← hr]; exact post_of hpost

def tbl0 : Nat → Option ((t : Ty) × RngS t) := fun _ => none
theorem tbl0_ok : SeqsOK P tbl0 := fun _ _ _ _ _ _ _ _ h => by cases h

/-- no step of a range has another's hook -/
theorem noRng {ts : List Ty} {l B0 : Nat} {R Rx : Res (Ty.st ts).Data} {sps : List Nat} {Pm : List (Ty.st ts).Data → Prop} (hR : R.stable B0) (hB : YB P ts B0 l R Rx Pm) :
    CallOK P C none (hkY ts l sps Pm (fun _ => none)) (LvY ts B0 R Rx) ∧ RngOK P C none (hkY ts l sps Pm (fun _ => none)) (LvY ts B0 R Rx) :=
  ⟨callOK_Y hR hB (fun _ _ h => by cases h), rngOK_Y⟩

/-- nothing kept: nothing is left behind -/
def noOwn : List OPar → Bool
  | [] => true
  | .own _ _ :: _ => false
  | _ :: ps => noOwn ps
theorem noOwn_kept {H H' : Imm} {w w' : World} : ∀ {ps : List OPar} {vs : List Value} {d : OD ps} {bs : List Nat} (k : KD ps), noOwn ps = true → OArgs P H w ps vs d bs → OKept H' w' ps vs k [] ∧ bs = []
  | [], vs, d, bs, k, _, h => ⟨rfl, h.2⟩
  | p :: ps, [], d, bs, k, _, h => h.elim
  | .own _ _ :: ps, v :: vs, d, bs, k, h0, _ => by cases h0
  | .val t :: ps, v :: vs, d, bs, k, h0, h => by
    obtain ⟨b1, b2, rfl, h1, h2⟩ := h
    obtain ⟨k1, k2⟩ := noOwn_kept (ps := ps) k h0 h2
    exact ⟨k1, by rw [k2, h1.2]; rfl⟩
  | .ref t :: ps, v :: vs, d, bs, k, h0, h => by
    obtain ⟨b1, b2, rfl, h1, h2⟩ := h
    obtain ⟨k1, k2⟩ := noOwn_kept (ps := ps) k h0 h2
    exact ⟨k1, by rw [k2, h1.2]; rfl⟩
  | .nil :: ps, v :: vs, d, bs, k, h0, h => by
    obtain ⟨b1, b2, rfl, h1, h2⟩ := h
    obtain ⟨k1, k2⟩ := noOwn_kept (ps := ps) k h0 h2
    exact ⟨k1, by rw [k2, h1.2]; rfl⟩
  | .clo f :: ps, v :: vs, d, bs, k, h0, h => by
    obtain ⟨b1, b2, rfl, h1, h2⟩ := h
    obtain ⟨k1, k2⟩ := noOwn_kept (ps := ps) k h0 h2
    exact ⟨k1, by rw [k2, h1.2]; rfl⟩
  | .fn a b :: ps, v :: vs, d, bs, k, h0, h => by
    obtain ⟨b1, b2, rfl, h1, h2⟩ := h
    obtain ⟨k1, k2⟩ := noOwn_kept (ps := ps) k h0 h2
    exact ⟨k1, by rw [k2, h1.2]; rfl⟩

/-- a function whose results are new, of nothing of the caller's own -/
theorem opost_of {H : Imm} {w : World} {ps : List OPar} {rs : List Sh} {pre : OD ps → List Prop} {vs : List Value} {d : OD ps} {bs : List Nat} (h0 : noOwn ps = true) (ha : OArgs P H w ps vs d bs) {r : RD rs} (k : KD ps) {e : Ending} {w' : World} (h : OPost0 H w rs r e w') :
    OPost H w bs ⟨ps, rs, pre, fun _ => (r, k)⟩ vs d e w' := by
  obtain ⟨us, H', rb, rfl, hE, hr, hn, hb⟩ := h
  obtain ⟨_, rfl⟩ := noOwn_kept (H' := H') (w' := w') k h0 ha
  have hk := fun H' w' => (noOwn_kept (P := P) (H := H) (w := w) (H' := H') (w' := w') k h0 ha).1
  refine ⟨us, H', rb, [], rfl, ⟨hE.below.os, hE.below.tape, hE.below.output, hE.drawn, hE.below.size, fun b h1 _ => hE.below.block b h1, fun b h1 _ => hE.old b h1, hE.good⟩, hr, hk _ _, by simpa using hn, fun b hb' => .inr (hb b (by simpa using hb'))⟩


/-- what is asked of such a function's body -/
@[irreducible] def rokVC (C : Ctx) (A : AnnZ Unit) (hk : Hook Unit) (fn : Func) (body : Code) (s : RSpec) (args : OD s.ps → List SV) : Prop :=
  ∀ d, AllP (s.pre d) → vcgZ C A hk body ⟨initSV (args d) 0, []⟩ () (finishR fn s.rs (fun r => ∃ k, s.R d (r, k)))

/-- such a function's contract, out of its body -/
theorem rok_of (hC : C.ok P) (hm : P.follows .mixedOrders = true) {f : Nat} {fn : Func} {body : Code} {s : RSpec} (hf : P.funcs[f]? = some fn) (hb : fn.body = some body) (hname : (fn.name == "runtime.NumGoroutine") = false) (hn : fn.ntmps = C.n) {A : AnnZ Unit} {hk : Hook Unit}
    (hhk : ∀ B, CallOK P C none hk (LvR B) ∧ RngOK P C none hk (LvR B)) {args : OD s.ps → List SV} (h0 : noOwn s.ps = true)
    (hden : ∀ H w vals fl d bs, flatV s.as vals fl → OArgs P H w s.ps fl d bs → ∀ ρ : Env, ρ.H = H → SV.denL P ρ (args d) vals) (hlen : ∀ d, Nat.ble (args d).length C.n = true)
    (hv : rokVC C A hk fn body s args) : ROK P f s := by
  unfold rokVC at hv
  refine ⟨enters_of hf hb hname, fun H w vals fl d bs hfl hg ha hnd hpre => ?_⟩
  have hd := fun ρ hρ => hden H w vals fl d bs hfl ha ρ hρ
  have h1 := denL_length _ _ (hd ⟨H, fun _ => none, fun _ => 0⟩ rfl)
  have h2 := Nat.le_of_ble_eq_true (hlen d)
  refine (rcall_gen hC hm hf hb hn A hhk (by omega) (hv d hpre) hg (fun ρ hρ k v hkv => ?_)).mono fun e w' ⟨r, hr, hpost⟩ => ?_
  · obtain ⟨x, h3, h4, _⟩ := initSV_den _ _ 0 (hd ρ hρ) k v hkv
    exact ⟨x, by simpa using h3, h4⟩
  · obtain ⟨k, hk'⟩ := hr
    exact ⟨(r, k), hk', opost_of h0 ha k hpost⟩

end
end Go.X
