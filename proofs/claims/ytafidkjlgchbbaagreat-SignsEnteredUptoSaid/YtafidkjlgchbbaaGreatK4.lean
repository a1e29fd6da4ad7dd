/-
  A region in any order: sound.
-/
import Derived.Test.YtafidkjlgchbbaaGreatK3
import Derived.Tactics
import Derived.Control
import Derived.Deep.LoopGhost
namespace Go.X
open Go.RowKit (Below)

section
variable {P : Program} {B : Base} {C : Ctx} {ops : Array Oper} {Q : Exit → Act → World → Prop}

/-- what is known of an operation that was run in its place -/
structure OpFact (C : Ctx) (ops : List Oper) (as : List Act1) (rs : RS) (i : Nat) (o : Oper) (x : Act1) : Prop where
  get : as[i]? = some x
  eff : effOf C ops o (share (slotsOf ops o) (bld (fun k => decide (k < i)) as rs)).2 = some x.e
  fit : fits C ops o (bld (fun k => decide (k < i)) as rs) x.e = true
  cl : closed (share (slotsOf ops o) (bld (fun k => decide (k < i)) as rs)).1 (share (slotsOf ops o) (bld (fun k => decide (k < i)) as rs)).2 x.e = true
  slots : x.slots = slotsOf ops o
  os : x.os = (share (slotsOf ops o) (bld (fun k => decide (k < i)) as rs)).1
  ws : x.ws = keys x.e.ob ++ (x.e.nw ++ (match x.e.nw, isCallV o.op with | [], false => [] | _, _ => [dstOf o]))
  mv : x.mv = isMv o
  rwo : x.rwo = noNew o x.e

theorem runAny_spec {oa : List Oper} : ∀ (l : List Oper) (rs rsF : RS) (as : List Act1), runAny C oa l rs = some (as, rsF) →
    as.length = l.length ∧ rsF = bld (fun _ => true) as rs ∧ ∀ i o, l[i]? = some o → ∃ x, OpFact C oa as rs i o x
  | [], rs, rsF, as, h => by
    simp [runAny] at h
    obtain ⟨rfl, rfl⟩ := h
    exact ⟨rfl, rfl, fun i o h => by simp at h⟩
  | o :: r, rs, rsF, as, h => by
    simp only [runAny] at h
    split at h
    · cases h
    rename_i e he
    split at h
    case h_2 => cases h
    rename_i hf hc
    split at h
    · cases h
    rename_i as' rs' hr
    simp only [Option.some.injEq, Prod.mk.injEq] at h
    obtain ⟨rfl, rfl⟩ := h
    obtain ⟨i1, i2, i3⟩ := runAny_spec r _ _ _ hr
    refine ⟨by simp [i1], by rw [bld_cons _ _ _ _ rfl]; exact i2, fun i o' hi => ?_⟩
    cases i with
    | zero =>
      simp at hi; subst hi
      have e0 : ∀ as', bld (fun k => decide (k < 0)) as' rs = rs := fun as' => bld_none _ _ (fun k => by simp)
      refine ⟨_, by simp; rfl, ?_, ?_, ?_, rfl, ?_, rfl, rfl, rfl⟩
      · rw [e0]; exact he
      · rw [e0]; exact hf
      · rw [e0]; exact hc
      · rw [e0]
    | succ i =>
      obtain ⟨x, g1, g2, g3, g4, g5, g6, g7, g8, g9⟩ := i3 i o' (by simpa using hi)
      have es : ∀ y : Act1, y.e = e → bld (fun k => decide (k < i + 1)) (y :: as') rs = bld (fun k => decide (k < i)) as' (addEff e rs) := by
        intro y hy
        rw [bld_cons _ _ _ _ (by simp), hy]
        congr 1
        funext k
        simp
      refine ⟨x, by simpa using g1, ?_, ?_, ?_, g5, ?_, g7, g8, g9⟩
      · rw [es _ rfl]; exact g2
      · rw [es _ rfl]; exact g3
      · rw [es _ rfl]; exact g4
      · rw [es _ rfl]; exact g6

theorem effOf_keys {oa : List Oper} {o : Oper} {R : RS} {e : Eff} (h : effOf C oa o R = some e) : (∃ sv, e.sl = slOf o sv) ∧ ∀ s g v, (s, g, v) ∈ e.gl → o.dst = some s ∧ o.guard = some g := by
  unfold effOf at h
  split at h
  · split at h
    · cases h
    · simp at h; subst h; exact ⟨⟨_, rfl⟩, fun s g v hm => by simp at hm⟩
  · rename_i g0 hg0
    split at h
    · cases h
    · split at h
      · cases h
      · split at h
        · simp at h; subst h
          refine ⟨⟨_, rfl⟩, fun s g v hm => ?_⟩
          simp only at hm
          split at hm
          · rename_i d hd
            simp at hm
            obtain ⟨rfl, rfl, rfl⟩ := hm
            exact ⟨hd, hg0⟩
          · simp at hm
        · cases h

theorem keys_slOf {o : Oper} {sv : SV} {s : Nat} : s ∈ keys (slOf o sv) ↔ o.dst = some s := by
  unfold slOf
  split
  · rename_i d hd; rw [hd]; simp [keys]; exact eq_comm
  · rename_i hd; rw [hd]; simp [keys]

theorem guardSlots_mem {l : List Oper} {j dj : Nat} {b : Bool} (h : dstAt l j = some dj) : dj ∈ guardSlots l l.length (some (j, b)) := by
  unfold dstAt at h
  cases hl : l[j]? with
  | none => rw [hl] at h; cases h
  | some o =>
    rw [hl] at h
    simp only at h
    have : 0 < l.length := by have := (List.getElem?_eq_some_iff.1 hl).1; omega
    obtain ⟨n, hn⟩ : ∃ n, l.length = n + 1 := ⟨l.length - 1, by omega⟩
    rw [hn]
    simp only [guardSlots, hl, h]
    exact List.mem_cons_self

section
variable {as : List Act1} {rs : RS} {D : Nat → Bool} {i : Nat} {o : Oper} {x : Act1} {nb : Bool}

/-- at whatever has been done the operation looks at the same -/
theorem share_D (hall : ∀ k o', ops.toList[k]? = some o' → ∃ y, OpFact C ops.toList as rs k o' y) (hlen : as.length = ops.toList.length) (hx : OpFact C ops.toList as rs i o x)
    (hNT : ∀ k y, as[k]? = some y → D k ≠ decide (k < i) → NT rs.st nb x y) (hst : ∀ k y, as[k]? = some y → D k ≠ decide (k < i) → ∀ r, r ∈ y.ws → r ∉ x.names) :
    share (slotsOf ops.toList o) (bld D as rs) = share (slotsOf ops.toList o) (bld (fun k => decide (k < i)) as rs) := by
  have glk : ∀ (k : Nat) (y : Act1), as[k]? = some y → ∀ z, z ∈ y.e.gl → z.1 ∈ keys y.e.sl := by
    intro k y hk z hz
    have hlt := (List.getElem?_eq_some_iff.1 hk).1
    have hlt2 : k < ops.toList.length := by omega
    obtain ⟨y', hy'⟩ := hall k ops.toList[k] (List.getElem?_eq_getElem hlt2)
    have := hy'.get
    rw [hk] at this; simp at this; subst this
    obtain ⟨⟨sv, h1⟩, h2⟩ := effOf_keys hy'.eff
    obtain ⟨s, g, v⟩ := z
    rw [h1]
    exact keys_slOf.2 (h2 s g v hz).1
  refine share_congr ?_ ?_ ?_
  · simp only [bld, keep_append]
    congr 1
    refine keep_eL as 0 (fun k y h1 h2 => keep_nil _ (fun z hz => ?_))
    rw [← hx.slots]
    exact (hNT k y h1 (by simpa using h2)).s2 z.1 ((mem_keys _ _).2 ⟨z.2, hz⟩)
  · simp only [bld, keep_append]
    congr 1
    refine keep_eL as 0 (fun k y h1 h2 => keep_nil _ (fun z hz => ?_))
    rw [← hx.slots]
    exact (hNT k y h1 (by simpa using h2)).s2 z.1 (glk k y h1 z hz)
  · intro r hr
    rw [← hx.os] at hr
    rw [bld_obj, bld_obj]
    rw [look_eL (D := D) (D' := fun k => decide (k < i)) as 0 (fun k y h1 h2 => look_none_keys _ _ (fun hk => ?_))]
    have hlt := (List.getElem?_eq_some_iff.1 h1).1
    have hlt2 : k < ops.toList.length := by omega
    obtain ⟨y', hy'⟩ := hall k ops.toList[k] (List.getElem?_eq_getElem hlt2)
    have := hy'.get
    rw [h1] at this; simp at this; subst this
    refine hst k y h1 (by simpa using h2) r ?_ ?_
    · rw [hy'.ws]; exact List.mem_append_left _ hk
    · unfold Act1.names; simp [hr]

theorem noBoxes_mem : ∀ (l : List Act1), noBoxes l = true → ∀ y, y ∈ l → ∀ r T fz cs, (r, some (.box T fz cs)) ∉ y.e.ob := by
  have one : ∀ (l : List (Nat × Option Ob)), nbOb l = true → ∀ r T fz cs, (r, some (.box T fz cs)) ∉ l := by
    intro l
    induction l with
    | nil => intro _ r T fz cs h; simp at h
    | cons z l ih =>
      intro h r T fz cs hm
      rcases List.mem_cons.1 hm with rfl | hm
      · simp [nbOb] at h
      · refine ih ?_ r T fz cs hm
        unfold nbOb at h
        split at h
        · contradiction
        · cases h
        · rename_i e; injection e with _ e; subst e; exact h
  intro l
  induction l with
  | nil => intro _ y h; simp at h
  | cons z l ih =>
    intro h y hy
    simp only [noBoxes] at h
    split at h
    · rename_i h1
      rcases List.mem_cons.1 hy with rfl | hy
      · exact one _ h1
      · exact ih h y hy
    · cases h

theorem boxFree_mem {σ : St} : ∀ (l : List Nat), boxFree σ l = true → ∀ r, r ∈ l → ∀ T fz cs, σ.obj r ≠ some (.box T fz cs)
  | [], _, r, h, _, _, _ => by simp at h
  | z :: l, h, r, hm, T, fz, cs => by
    simp only [boxFree] at h
    split at h
    · cases h
    · rename_i hne
      rcases List.mem_cons.1 hm with rfl | hm
      · exact hne T fz cs
      · exact boxFree_mem l h r hm T fz cs

theorem rlOb_free {σ : St} : ∀ (l : List Nat), (∀ r, r ∈ l → ∀ T fz cs, σ.obj r ≠ some (.box T fz cs)) → rlOb σ l = []
  | [], _ => rfl
  | z :: l, h => by
    simp only [rlOb]
    split
    · rename_i e; exact absurd e (h z (by simp) _ _ _)
    · exact rlOb_free l (fun r hr => h r (by simp [hr]))

theorem near_free {σ : St} {l : List Nat} (h : ∀ r, r ∈ l → ∀ T fz cs, σ.obj r ≠ some (.box T fz cs)) : ∀ n, near σ n l = l
  | 0 => rfl
  | n + 1 => by simp only [near, rlOb_free l h, union]; exact near_free h n

theorem visible_nil : ∀ (l : List (Nat × (Nat × Bool) × SV)), visible l [] = []
  | [] => rfl
  | z :: l => by simp only [visible, inChain]; exact visible_nil l

theorem effOf_mv {oa : List Oper} {R R' : RS} (h : isMv o = true) (hs : R.st.sl = R'.st.sl) : effOf C oa o R = effOf C oa o R' := by
  unfold isMv at h
  split at h
  · rename_i z h1 h2
    have e : opnd (seenBy R []) z = opnd (seenBy R' []) z := by
      cases z with
      | tmp t => simp only [opnd, St.get, seenBy, visible_nil, List.nil_append, hs]
      | const v => rfl
      | global g => rfl
      | func f => rfl
    simp only [effOf, h2, outOf, h1, evalOp, Out.pure, e, doFz]
  · cases h

/-- at whatever has been done the operation does the same -/
theorem eff_D (hall : ∀ k o', ops.toList[k]? = some o' → ∃ y, OpFact C ops.toList as rs k o' y) (hlen : as.length = ops.toList.length) (hx : OpFact C ops.toList as rs i o x) (hnb : nb = true → noBoxes as = true)
    (hNT : ∀ k y, as[k]? = some y → D k ≠ decide (k < i) → NT rs.st nb x y) :
    effOf C ops.toList o (share (slotsOf ops.toList o) (bld D as rs)).2 = some x.e ∧ closed (share (slotsOf ops.toList o) (bld D as rs)).1 (share (slotsOf ops.toList o) (bld D as rs)).2 x.e = true := by
  by_cases hm : ∃ k y r, as[k]? = some y ∧ D k ≠ decide (k < i) ∧ r ∈ y.ws ∧ r ∈ x.names
  · obtain ⟨k0, y0, r0, m1, m2, m3, m4⟩ := hm
    obtain ⟨n1, _, n3, n4⟩ := (hNT k0 y0 m1 m2).o2 r0 m3 m4
    have hno := noBoxes_mem as (hnb n1)
    rw [hx.mv] at n3
    have glk : ∀ (k : Nat) (y : Act1), as[k]? = some y → ∀ z, z ∈ y.e.gl → z.1 ∈ keys y.e.sl := by
      intro k y hk z hz
      have hlt := (List.getElem?_eq_some_iff.1 hk).1
      have hlt2 : k < ops.toList.length := by omega
      obtain ⟨y', hy'⟩ := hall k ops.toList[k] (List.getElem?_eq_getElem hlt2)
      have := hy'.get
      rw [hk] at this; simp at this; subst this
      obtain ⟨⟨sv, h1⟩, h2⟩ := effOf_keys hy'.eff
      obtain ⟨s, g, v⟩ := z
      rw [h1]
      exact keys_slOf.2 (h2 s g v hz).1
    have ksl : keep (slotsOf ops.toList o) (bld D as rs).st.sl = keep (slotsOf ops.toList o) (bld (fun k => decide (k < i)) as rs).st.sl := by
      simp only [bld, keep_append]
      congr 1
      refine keep_eL as 0 (fun k y h1 h2 => keep_nil _ (fun z hz => ?_))
      rw [← hx.slots]
      exact (hNT k y h1 (by simpa using h2)).s2 z.1 ((mem_keys _ _).2 ⟨z.2, hz⟩)
    have kgl : keep (slotsOf ops.toList o) (bld D as rs).gl = keep (slotsOf ops.toList o) (bld (fun k => decide (k < i)) as rs).gl := by
      simp only [bld, keep_append]
      congr 1
      refine keep_eL as 0 (fun k y h1 h2 => keep_nil _ (fun z hz => ?_))
      rw [← hx.slots]
      exact (hNT k y h1 (by simpa using h2)).s2 z.1 (glk k y h1 z hz)
    have free : ∀ (D' : Nat → Bool) (r : Nat), r ∈ x.os → ∀ T fz cs, (bld D' as rs).st.obj r ≠ some (.box T fz cs) := by
      intro D' r hr T fz cs he
      rw [bld_obj] at he
      split at he
      · rename_i z hz
        subst he
        obtain ⟨k, y, h1, _, h3⟩ := (mem_eL _ _ _ _ _).1 (look_mem _ _ _ hz)
        exact hno y (List.mem_of_getElem? h1) r T fz cs h3
      · exact boxFree_mem _ n4 r hr T fz cs he
    have hos := hx.os
    have base : ∀ r, r ∈ union (rlSl (keep (slotsOf ops.toList o) (bld (fun k => decide (k < i)) as rs).st.sl)) (rlGl (keep (slotsOf ops.toList o) (bld (fun k => decide (k < i)) as rs).gl)) → r ∈ x.os := by
      intro r hr
      rw [hos]
      unfold share
      exact near_mem 3 _ r hr
    have n5 : (share (slotsOf ops.toList o) (bld D as rs)).1 = x.os := by
      rw [hos]
      unfold share
      simp only
      rw [ksl, kgl, near_free (fun r hr => free D r (base r hr)), near_free (fun r hr => free (fun k => decide (k < i)) r (base r hr))]
    refine ⟨?_, ?_⟩
    · rw [← hx.eff]
      exact effOf_mv n3 (by unfold share; exact ksl)
    · have hc := hx.cl
      rw [← hos] at hc
      rw [n5]
      unfold closed at hc ⊢
      split at hc
      case h_2 => cases hc
      rename_i c1 c2 c3 c4 c5
      have c0 : rlOb (share (slotsOf ops.toList o) (bld D as rs)).2.st x.os = [] := rlOb_free _ (fun r hr T fz cs he => by
        rw [share_obj] at he
        split at he
        · exact free D r hr T fz cs he
        · cases he)
      rw [c0, c2, c3, c4, c5]
      rfl
  · have hst : ∀ k y, as[k]? = some y → D k ≠ decide (k < i) → ∀ r, r ∈ y.ws → r ∉ x.names := fun k y h1 h2 r h3 h4 => hm ⟨k, y, r, h1, h2, h3, h4⟩
    rw [share_D hall hlen hx hNT hst]
    exact ⟨hx.eff, hx.cl⟩

theorem newP_D (hall : ∀ k o', ops.toList[k]? = some o' → ∃ y, OpFact C ops.toList as rs k o' y) (hlen : as.length = ops.toList.length) (hNT : ∀ k y, as[k]? = some y → D k ≠ decide (k < i) → NT rs.st nb x y) {d : Nat} (hd : d ∈ x.ws) (hrw : x.rwo = false)
    (h : NewP (bld (fun k => decide (k < i)) as rs) d) : NewP (bld D as rs) d := by
  have fact : ∀ k y, as[k]? = some y → ∃ o', OpFact C ops.toList as rs k o' y := by
    intro k y h1
    have hlt := (List.getElem?_eq_some_iff.1 h1).1
    have hlt2 : k < ops.toList.length := by omega
    obtain ⟨y', hy'⟩ := hall k ops.toList[k] (List.getElem?_eq_getElem hlt2)
    have := hy'.get
    rw [h1] at this; simp at this; subst this
    exact ⟨_, hy'⟩
  have o1 : ∀ {y : Act1}, NT rs.st nb x y → d ∉ y.names := fun {y} h hn => by
    have := (h.o1 d hd hn).rwo
    rw [hrw] at this; cases this
  have nore : ∀ {sv : SV}, d ∉ sv.rl → sv.refs d = false := fun {sv} hn => by
    cases hc : sv.refs d with
    | false => rfl
    | true => exact absurd (refs_rl sv d hc) hn
  refine ⟨?_, ?_, ?_, ?_, h.lt⟩
  · have h1 := h.obj
    rw [bld_obj] at h1 ⊢
    rw [look_eL (D := D) (D' := fun k => decide (k < i)) as 0 (fun k y h1 h2 => look_none_keys _ _ (fun hk => ?_))]
    · exact h1
    · obtain ⟨o', hy⟩ := fact k y h1
      exact (hNT k y h1 (by simpa using h2)).ws d hd (by rw [hy.ws]; exact List.mem_append_left _ hk)
  · intro s v hm
    simp only [bld] at hm
    rcases List.mem_append.1 hm with hm | hm
    · obtain ⟨k, y, h1, h2, h3⟩ := (mem_eL _ _ _ _ _).1 hm
      simp only [Nat.zero_add] at h2
      by_cases hk : k < i
      · exact h.sl s v (by simp only [bld]; exact List.mem_append_left _ ((mem_eL _ _ _ _ _).2 ⟨k, y, h1, by simpa using hk, h3⟩))
      · refine nore fun hr => o1 (hNT k y h1 (by rw [h2]; simp [hk])) ?_
        unfold Act1.names
        exact List.mem_append_left _ (mem_rlSl _ s v d h3 hr)
    · exact h.sl s v (by simp only [bld]; exact List.mem_append_right _ hm)
  · intro s g v hm
    simp only [bld] at hm
    rcases List.mem_append.1 hm with hm | hm
    · obtain ⟨k, y, h1, h2, h3⟩ := (mem_eL _ _ _ _ _).1 hm
      simp only [Nat.zero_add] at h2
      by_cases hk : k < i
      · exact h.gl s g v (by simp only [bld]; exact List.mem_append_left _ ((mem_eL _ _ _ _ _).2 ⟨k, y, h1, by simpa using hk, h3⟩))
      · refine nore fun hr => o1 (hNT k y h1 (by rw [h2]; simp [hk])) ?_
        unfold Act1.names
        exact List.mem_append_right _ (List.mem_append_left _ (mem_rlGl _ s g v d h3 hr))
    · exact h.gl s g v (by simp only [bld]; exact List.mem_append_right _ hm)
  · intro r T fz cs hm
    simp only [bld] at hm
    rcases List.mem_append.1 hm with hm | hm
    · obtain ⟨k, y, h1, h2, h3⟩ := (mem_eL _ _ _ _ _).1 hm
      simp only [Nat.zero_add] at h2
      by_cases hk : k < i
      · exact h.ob r T fz cs (by simp only [bld]; exact List.mem_append_left _ ((mem_eL _ _ _ _ _).2 ⟨k, y, h1, by simpa using hk, h3⟩))
      · cases hc : SV.refs.refsL d cs with
        | false => rfl
        | true =>
          refine absurd ?_ (o1 (hNT k y h1 (by rw [h2]; simp [hk])))
          unfold Act1.names
          exact List.mem_append_right _ (List.mem_append_right _ (List.mem_append_left _ (mem_rlObs _ r T fz cs d h3 (refsL_rlL cs d hc))))
    · exact h.ob r T fz cs (by simp only [bld]; exact List.mem_append_right _ hm)

theorem fits_D (hall : ∀ k o', ops.toList[k]? = some o' → ∃ y, OpFact C ops.toList as rs k o' y) (hlen : as.length = ops.toList.length) (hx : OpFact C ops.toList as rs i o x)
    (hNT : ∀ k y, as[k]? = some y → D k ≠ decide (k < i) → NT rs.st nb x y) : FitsP C ops o (bld D as rs) x.e := by
  have hf := fits_facts (ops := ops) hx.fit
  refine ⟨hf.frame, fun d hd s j b v hm => ?_, hf.guard, fun d hd => ?_, fun hor => ?_⟩
  · simp only [bld] at hm
    rcases List.mem_append.1 hm with hm | hm
    · obtain ⟨k, y, h1, h2, h3⟩ := (mem_eL _ _ _ _ _).1 hm
      simp only [Nat.zero_add] at h2
      by_cases hk : k < i
      · exact hf.gl d hd s j b v (by simp only [bld]; exact List.mem_append_left _ ((mem_eL _ _ _ _ _).2 ⟨k, y, h1, by simpa using hk, h3⟩))
      · have nt := hNT k y h1 (by rw [h2]; simp [hk])
        have hlt := (List.getElem?_eq_some_iff.1 h1).1
        have hlt2 : k < ops.toList.length := by omega
        obtain ⟨y', hy'⟩ := hall k ops.toList[k] (List.getElem?_eq_getElem hlt2)
        have := hy'.get
        rw [h1] at this; simp at this; subst this
        obtain ⟨⟨sv, k1⟩, k2⟩ := effOf_keys hy'.eff
        obtain ⟨k3, k4⟩ := k2 s (j, b) v h3
        obtain ⟨⟨sv', k5⟩, _⟩ := effOf_keys hx.eff
        have hdk : d ∈ keys x.e.sl := by rw [k5]; exact keys_slOf.2 hd
        obtain ⟨dj, k6, _⟩ := (fits_facts (ops := ops) hy'.fit).guard s k3 j b k4
        refine ⟨fun e => ?_, dj, k6, fun e => ?_⟩
        · subst e; exact nt.sl s hdk (by rw [k1]; exact keys_slOf.2 k3)
        · subst e
          refine nt.s1 dj hdk ?_
          rw [hy'.slots]
          unfold slotsOf
          rw [k4]
          exact List.mem_append_right _ (guardSlots_mem k6)
    · exact hf.gl d hd s j b v (by simp only [bld]; exact List.mem_append_right _ hm)
  · refine newP_D hall hlen hNT (by rw [hx.ws]; exact List.mem_append_right _ (List.mem_append_left _ hd)) ?_ (hf.nw d hd)
    rw [hx.rwo]
    unfold noNew
    split
    · rename_i h1 _; rw [h1] at hd; simp at hd
    · rfl
  · refine newP_D hall hlen hNT ?_ ?_ (hf.dst hor)
    case refine_2 =>
      rw [hx.rwo]
      unfold noNew
      split
      · rename_i h1 h2
        rcases hor with h | h
        · exact absurd h1 h
        · rw [h2] at h; cases h
      · rfl
    rw [hx.ws]
    refine List.mem_append_right _ (List.mem_append_right _ ?_)
    split
    · rename_i h1 h2
      rcases hor with h | h
      · exact absurd h1 h
      · rw [h2] at h; cases h
    · exact List.mem_cons_self

end

theorem inv_congr {n : Nat} {r s : RS} {a : Act} {w : World} (h : Inv P B n ops r a w) (h1 : ∀ k, look s.st.sl k = look r.st.sl k) (h2 : ∀ k, s.st.obj k = r.st.obj k) (h3 : ∀ y, y ∈ s.gl → y ∈ r.gl) : Inv P B n ops s a w := by
  obtain ⟨hd, hn, ρ, hS, hSl, hG, hP⟩ := h
  refine ⟨hd, hn, ρ, by rw [show s.st.obj = r.st.obj from funext h2]; exact hS, fun k v hv => hSl k v (by rw [← h1]; exact hv), fun k g v hm => hG k g v (h3 _ hm), hP⟩

end
end Go.X
/-
  A region in any order: sound (the walk over the orders).
-/
namespace Go.X
open Go.RowKit (Below)

theorem countP_lt {p q : Nat → Bool} : ∀ (l : List Nat) (x : Nat), x ∈ l → p x = true → q x = false → (∀ y, q y = true → p y = true) → l.countP q < l.countP p
  | [], x, h, _, _, _ => by simp at h
  | y :: l, x, h, hp, hq, hqp => by
    have le : l.countP q ≤ l.countP p := List.countP_mono_left fun z _ hz => hqp z hz
    simp only [List.countP_cons]
    rcases List.mem_cons.1 h with rfl | h
    · simp [hp, hq]; omega
    · have := countP_lt l x h hp hq hqp
      have : (if q y = true then 1 else 0) ≤ (if p y = true then 1 else 0) := by
        cases hy : q y with
        | false => simp
        | true => simp [hqp y hy]
      omega

def cnt (n : Nat) (listed : Array Bool) : Nat := (List.range n).countP fun k => !(listed.getD k false)

theorem getD_set {listed : Array Bool} {i : Nat} (hi : i < listed.size) (k : Nat) : (listed.setIfInBounds i true).getD k false = if k = i then true else listed.getD k false := by
  simp only [Array.getD_eq_getD_getElem?, Array.getElem?_setIfInBounds]
  by_cases e : k = i
  · subst e; simp [hi]
  · rw [if_neg (fun h => e h.symm), if_neg e]

theorem cnt_set {n : Nat} {listed : Array Bool} {i : Nat} (hi : i < listed.size) (hn : i < n) (hu : listed.getD i false = false) : cnt n (listed.setIfInBounds i true) < cnt n listed := by
  refine countP_lt _ i (by simpa using hn) (by simp [hu]) (by rw [getD_set hi]; simp) (fun y hy => ?_)
  rw [getD_set hi] at hy
  split at hy
  · simp at hy
  · exact hy

def Clo (ops : Array Oper) (D : Nat → Bool) : Prop := ∀ k o, ops.toList[k]? = some o → D k = true → ∀ e, e ∈ o.after.toList → Region.binds .any e = true → D e.on = true

theorem preds_in {ops : Array Oper} {ps : List (List Nat)} (hps : allPreds ops.toList [] = some ps) {D : Nat → Bool} (hD : Clo ops D) : ∀ (n k : Nat), k < n → ∀ o p, ops.toList[k]? = some o →
    (∀ e, e ∈ o.after.toList → Region.binds .any e = true → D e.on = true) → ps[k]? = some p → ∀ j, j ∈ p → D j = true
  | 0, k, h, _, _, _, _, _, _, _ => by omega
  | n + 1, k, hk, o, p, ho, he, hp, j, hj => by
    obtain ⟨_, h2⟩ := allPreds_spec _ _ _ hps
    obtain ⟨p', e1, e2⟩ := h2 k o ho
    simp only [List.length_nil, Nat.zero_add] at e1 e2
    rw [hp] at e1; simp at e1; subst e1
    obtain ⟨h3, h4⟩ := predsOf_spec _ _ _ e2
    obtain ⟨e, g1, g2, g3⟩ := h4 j hj
    rcases g3 with rfl | ⟨q, g4, g5⟩
    · exact he e g1 g2
    · have hlt : e.on < k := by have := h3 e g1 g2; simp at this; omega
      have hlen := (List.getElem?_eq_some_iff.1 ho).1
      rw [List.getElem?_take_of_lt hlt] at g4
      have ho2 := List.getElem?_eq_getElem (l := ops.toList) (i := e.on) (by omega)
      exact preds_in hps hD n e.on (by omega) _ q ho2 (fun e' h1 h2 => hD e.on _ ho2 (he e g1 g2) e' h1 h2) g4 j g5

theorem mem_ready {ops : Array Oper} {listed : Array Bool} (hs : listed.size = ops.size) {i : Nat} : i ∈ Region.ready .any ops listed ↔ ∃ o, ops.toList[i]? = some o ∧ listed.getD i false = false ∧ ∀ e, e ∈ o.after.toList → Region.binds .any e = true → listed.getD e.on false = true := by
  unfold Region.ready
  simp only [List.mem_filter, List.mem_range, Bool.and_eq_true, Bool.not_eq_true', Array.getElem?_toList]
  constructor
  · rintro ⟨h1, h2, h3⟩
    have ho : ops[i]? = some ops[i] := Array.getElem?_eq_getElem h1
    rw [ho] at h3
    simp only [Option.map_some, Option.getD_some, Array.all_eq_true_iff_forall_mem] at h3
    refine ⟨ops[i], ho, ?_, fun e he hb => ?_⟩
    · rw [Array.getD_eq_getD_getElem?] at h2 ⊢
      have : listed[i]? = some listed[i] := Array.getElem?_eq_getElem (by omega)
      rw [this] at h2 ⊢
      simpa using h2
    · have := h3 e (by simpa using he)
      simpa [hb] using this
  · rintro ⟨o, h1, h2, h3⟩
    have hlt := (Array.getElem?_eq_some_iff.1 h1).1
    refine ⟨hlt, ?_, ?_⟩
    · rw [Array.getD_eq_getD_getElem?] at h2 ⊢
      have : listed[i]? = some listed[i] := Array.getElem?_eq_getElem (by omega)
      rw [this] at h2 ⊢
      simpa using h2
    · rw [h1]
      simp only [Option.map_some, Option.getD_some, Array.all_eq_true_iff_forall_mem]
      intro e he
      cases hb : Region.binds .any e with
      | false => simp
      | true => simp [h3 e (by simpa using he) hb]

theorem all_listed {ops : Array Oper} {ps : List (List Nat)} (hps : allPreds ops.toList [] = some ps) {listed : Array Bool} (hs : listed.size = ops.size) (hr : Region.ready .any ops listed = []) :
    ∀ n k, k < n → k < ops.size → listed.getD k false = true
  | 0, k, h, _ => by omega
  | n + 1, k, hk, hlt => by
    cases hu : listed.getD k false with
    | true => rfl
    | false =>
      have ho : ops.toList[k]? = some ops.toList[k] := List.getElem?_eq_getElem (by simpa using hlt)
      obtain ⟨_, h2⟩ := allPreds_spec _ _ _ hps
      obtain ⟨p', e1, e2⟩ := h2 k _ ho
      obtain ⟨h3, _⟩ := predsOf_spec _ _ _ e2
      have : k ∈ Region.ready .any ops listed := (mem_ready hs).2 ⟨_, ho, hu, fun e he hb => all_listed hps hs hr n e.on (by have := h3 e he hb; simp at this; omega) (by have := h3 e he hb; simp at this; omega)⟩
      rw [hr] at this; simp at this

section
variable {P : Program} {B : Base} {C : Ctx} {ops : Array Oper} {Q : Exit → Act → World → Prop} {as : List Act1} {rs : RS} {ps : List (List Nat)}

theorem any_sound (hC : C.ok P) (hall : ∀ k o', ops.toList[k]? = some o' → ∃ y, OpFact C ops.toList as rs k o' y) (hlen : as.length = ops.toList.length) (hps : allPreds ops.toList [] = some ps) {nb : Bool} (hnb : nb = true → noBoxes as = true) (hord : ordered rs.st nb as as ps 0 = true)
    (hvc : ∀ y, y ∈ as → AllG y.e.guard y.e.vc) (hQ : ∀ a w, Inv P B C.n ops (bld (fun _ => true) as rs) a w → Q .normal a w) :
    ∀ (fuel : Nat) (listed : Array Bool) (a : Act) (w : World), listed.size = ops.size → cnt ops.size listed ≤ fuel → Clo ops (fun k => listed.getD k false) → Inv P B C.n ops (bld (fun k => listed.getD k false) as rs) a w →
      wpAny P .any ops Q fuel listed a w := by
  have fin : ∀ (listed : Array Bool) (a : Act) (w : World), (∀ k, k < ops.size → listed.getD k false = true) → Inv P B C.n ops (bld (fun k => listed.getD k false) as rs) a w → Q .normal a w := by
    intro listed a w hl hI
    refine hQ a w ?_
    have e : ∀ {α : Type} (f : Act1 → List α), eL f (fun k => listed.getD k false) as 0 = eL f (fun _ => true) as 0 := fun f => eL_congr f as 0 (fun k _ hk => hl k (by simp at hlen; omega))
    have : bld (fun k => listed.getD k false) as rs = bld (fun _ => true) as rs := by unfold bld; rw [e, e, e]
    rw [← this]; exact hI
  intro fuel
  induction fuel with
  | zero =>
    intro listed a w hs hc _ hI
    have hl : ∀ k, k < ops.size → listed.getD k false = true := by
      intro k hk
      cases hu : listed.getD k false with
      | true => rfl
      | false =>
        have h0 : cnt ops.size listed = 0 := by omega
        have := List.countP_eq_zero.1 h0 k (by simpa using hk)
        simp [hu] at this
    refine ⟨?_, fin listed a w hl hI⟩
    rw [List.eq_nil_iff_forall_not_mem]
    intro i hi
    obtain ⟨o, h1, h2, _⟩ := (mem_ready hs).1 hi
    have := (List.getElem?_eq_some_iff.1 h1).1
    rw [hl i (by simpa using this)] at h2; cases h2
  | succ fuel ih =>
    intro listed a w hs hc hclo hI
    refine ⟨fun hr => fin listed a w (fun k hk => all_listed hps hs hr (k + 1) k (by omega) hk) hI, fun i hi => ?_⟩
    obtain ⟨o, h1, h2, h3⟩ := (mem_ready hs).1 hi
    have hlt : i < ops.size := by have := (List.getElem?_eq_some_iff.1 h1).1; simpa using this
    obtain ⟨x, hx⟩ := hall i o h1
    have hspec := ordered_spec _ _ _ _ hord
    have opOf : ∀ (k : Nat) (y : Act1), as[k]? = some y → ∃ o', ops.toList[k]? = some o' := by
      intro k y hk
      have := (List.getElem?_eq_some_iff.1 hk).1
      exact ⟨_, List.getElem?_eq_getElem (by omega)⟩
    have hNT : ∀ (k : Nat) (y : Act1), as[k]? = some y → (fun k => listed.getD k false) k ≠ decide (k < i) → NT rs.st nb x y := by
      intro k y hk hne
      simp only at hne
      obtain ⟨o', ho'⟩ := opOf k y hk
      by_cases hki : k < i
      · have hu : listed.getD k false = false := by cases hh : listed.getD k false <;> simp_all
        obtain ⟨p, e1, e2⟩ := hspec i x hx.get
        rcases e2 k y (by omega) hk with h | h
        · exact h.symm
        · have := preds_in hps hclo (i + 1) i (by omega) o p h1 h3 e1 k h
          rw [hu] at this; cases this
      · have hu : listed.getD k false = true := by cases hh : listed.getD k false <;> simp_all
        have hne' : k ≠ i := fun e => by subst e; rw [h2] at hu; cases hu
        obtain ⟨p, e1, e2⟩ := hspec k y hk
        rcases e2 i x (by omega) hx.get with h | h
        · exact h
        · have := preds_in hps hclo (k + 1) k (by omega) o' p ho' (fun e he hb => hclo k o' ho' hu e he hb) e1 i h
          rw [h2] at this; cases this
    obtain ⟨heff, hcl⟩ := eff_D (D := fun k => listed.getD k false) hall hlen hx hnb hNT
    have hfit := fits_D (D := fun k => listed.getD k false) hall hlen hx hNT
    have hset : ∀ k, (listed.setIfInBounds i true).getD k false = if k = i then true else listed.getD k false := getD_set (by omega)
    have hclo' : Clo ops (fun k => (listed.setIfInBounds i true).getD k false) := by
      intro k o' ho' hk e he hb
      simp only at hk ⊢
      rw [hset] at hk ⊢
      split
      · rfl
      · by_cases e' : k = i
        · subst e'
          rw [h1] at ho'; simp at ho'; subst ho'
          exact h3 e he hb
        · rw [if_neg e'] at hk
          exact hclo k o' ho' hk e he hb
    have hstep := step_sound (K := wpAny P .any ops Q fuel (listed.setIfInBounds i true)) (Q := Q) hC heff hfit (share_fit hcl) hI (hvc x (List.mem_of_getElem? hx.get)) (fun a' w' hI' _ => by
      refine ih _ a' w' (by simpa using hs) (by have := cnt_set (n := ops.size) (by omega) hlt h2; omega) hclo' ?_
      have ins : ∀ {α : Type} (f : Act1 → List (Nat × α)) (s : Nat), (∀ (k : Nat) (y : Act1), i < k → as[k]? = some y → listed.getD k false = true → look (f x) s ≠ none → look (f y) s = none) →
          look (eL f (fun k => (listed.setIfInBounds i true).getD k false) as 0) s = look (f x ++ eL f (fun k => listed.getD k false) as 0) s := by
        intro α f s hh
        refine look_insert (i := i) h2 (by show (listed.setIfInBounds i true).getD i false = true; rw [hset, if_pos rfl]) (fun k hk => by show (listed.setIfInBounds i true).getD k false = _; rw [hset, if_neg hk]) as 0 i (by omega) hx.get (fun k y h4 h5 h6 h7 => ?_)
        exact hh k y h4 h5 (by simpa using h6) h7
      refine inv_congr hI' (fun s => ?_) (fun r => ?_) (fun y hy => ?_)
      · simp only [bld, addEff]
        rw [look_append, ins (fun x => x.e.sl) s (fun k y h4 h5 h6 h7 => look_none_keys _ _ (fun hk => (hNT k y h5 (by show listed.getD k false ≠ _; rw [h6]; simp; omega)).sl s (look_keys h7) hk)), ← look_append, List.append_assoc]
      · have e1 : (addEff x.e (bld (fun k => listed.getD k false) as rs)).st.obj r = (match look (x.e.ob ++ eL (fun x => x.e.ob) (fun k => listed.getD k false) as 0) r with | some y => y | none => rs.st.obj r) := by
          simp only [St.obj, addEff, bld]
          rw [← List.append_assoc, look_append]
          cases look (x.e.ob ++ eL (fun x => x.e.ob) (fun k => listed.getD k false) as 0) r <;> rfl
        have hins := ins (fun x => x.e.ob) r (fun k y h4 h5 h6 h7 => look_none_keys _ _ (fun hk => by
          obtain ⟨o', ho'⟩ := opOf k y h5
          obtain ⟨y', hy'⟩ := hall k o' ho'
          have := hy'.get
          rw [h5] at this; simp at this; subst this
          exact (hNT k y h5 (by show listed.getD k false ≠ _; rw [h6]; simp; omega)).ws r (by rw [hx.ws]; exact List.mem_append_left _ (look_keys h7)) (by rw [hy'.ws]; exact List.mem_append_left _ hk)))
        rw [bld_obj, e1, hins]
        cases look (x.e.ob ++ eL (fun x => x.e.ob) (fun k => listed.getD k false) as 0) r <;> rfl
      · simp only [bld, addEff] at hy ⊢
        rcases List.mem_append.1 hy with hy | hy
        · obtain ⟨k, z, g1, g2, g3⟩ := (mem_eL _ _ _ _ _).1 hy
          simp only [Nat.zero_add] at g2
          rw [hset] at g2
          by_cases e : k = i
          · subst e
            have := hx.get
            rw [g1] at this; simp at this; subst this
            exact List.mem_append_left _ g3
          · rw [if_neg e] at g2
            exact List.mem_append_right _ (List.mem_append_left _ ((mem_eL _ _ _ _ _).2 ⟨k, z, g1, by simpa using g2, g3⟩))
        · exact List.mem_append_right _ (List.mem_append_right _ hy))
    unfold wpOp
    have hoi : ops[i]? = some o := by simpa using h1
    rw [hoi]
    simp only
    split
    · rename_i hw; rw [if_pos hw] at hstep; exact .inl hstep
    · rename_i hw; rw [if_neg hw] at hstep; exact hstep

end
end Go.X
/-
  A region, in one order or in any: sound. What one state describes, another describes too: sound.
-/
namespace Go.X
open Go.RowKit (Below)

section
variable {P : Program} {B : Base} {C : Ctx} {Q : Exit → Act → World → Prop}

theorem bld_all (as : List Act1) (rs : RS) : bld (fun _ => true) as rs = as.foldl (fun r x => addEff x.e r) rs := by
  induction as generalizing rs with
  | nil => rfl
  | cons x as ih => rw [bld_cons _ _ _ _ rfl, ih]; rfl

theorem sat_drawn {ρ : Env} {obj : Nat → Option Ob} {w : World} (h : Sat P B ρ obj w) : Sat P B ρ obj { w with drawn := w.drawn + 1 } :=
  ⟨h.os, h.tape, h.output, (by exact Nat.le_succ_of_le h.drawn), h.size, h.good, h.oldH, h.old, fun o x hx => by
    obtain ⟨p, h1, h2⟩ := h.obs o x hx
    exact ⟨p, h1, obSat_mono (new := []) (Env.le.refl _ _) (by simp) (fun _ _ _ _ _ ho => by simp at ho) (fun _ _ _ => ⟨rfl, rfl⟩) h2⟩, h.dead, h.inj, h.own⟩

/-- a region, by its operations -/
def regQ (P : Program) (ops : Array Oper) (draw : Bool) (Q : Exit → Act → World → Prop) (a : Act) (w : World) : Prop :=
  match draw with
  | false => wpList P ops Q ops.toList a w
  | true => wpAny P .any ops Q ops.size (Array.replicate ops.size false) a { w with drawn := w.drawn + 1 }

theorem regQ_wp (hm : P.follows .mixedOrders = true) {id : Nat} {ops : Array Oper} {draw : Bool} {a : Act} {w : World} (h : regQ P ops draw Q a w) : (Code.region id ops draw).wp P Q a w := by
  cases draw with
  | false => exact wp_region_list h
  | true => exact wp_region_any hm h

theorem region_sound (hC : C.ok P) {ops : Array Oper} {draw : Bool} {σ : St} {es : List Eff} {rs : RS} {k : Prop} {a : Act} {w : World}
    (h : runRegion C ops.toList draw σ = some (es, rs)) (hk : vcSteps draw es k) (hR : Rel P B C.n σ a w) (hQ : k → ∀ a' w', Rel P B C.n rs.st a' w' → Q .normal a' w') :
    regQ P ops draw Q a w := by
  have hI : Inv P B C.n ops ⟨σ, []⟩ a w := by
    obtain ⟨h1, h2, ρ, h3, h4, h5⟩ := hR
    exact ⟨h1, h2, ρ, h3, h4, (fun s g v hm => by simp at hm), h5⟩
  have fin : ∀ {rs' : RS} {a' : Act} {w' : World}, Inv P B C.n ops rs' a' w' → Rel P B C.n rs'.st a' w' := fun ⟨h1, h2, ρ, h3, h4, _, h5⟩ => ⟨h1, h2, ρ, h3, h4, h5⟩
  cases draw with
  | false =>
    simp only [runRegion] at h
    exact runOps_sound hC _ _ _ _ _ _ h hk hI (fun hk' a' w' hI' => hQ hk' a' w' (fin hI'))
  | true =>
    simp only [runRegion] at h
    split at h
    case h_2 => cases h
    rename_i as rs' ps hr hp
    split at h
    case h_2 => cases h
    rename_i hord
    simp at h
    obtain ⟨rfl, rfl⟩ := h
    obtain ⟨i1, i2, i3⟩ := runAny_spec _ _ _ _ hr
    obtain ⟨hvc, hk'⟩ := vcSteps_any _ hk
    show wpAny P .any ops Q ops.size (Array.replicate ops.size false) a { w with drawn := w.drawn + 1 }
    have hI' : Inv P B C.n ops ⟨σ, []⟩ a { w with drawn := w.drawn + 1 } := by
      obtain ⟨h1, h2, ρ, h3, h4, h5⟩ := hI
      exact ⟨h1, h2, ρ, sat_drawn h3, h4, h5⟩
    refine any_sound hC i3 i1 hp (fun h => h) hord (fun y hy => hvc y.e (List.mem_map_of_mem hy)) (fun a' w' hI2 => hQ hk' a' w' (fin (by rw [i2]; exact hI2))) _ _ _ _ (by simp) ?_ ?_ ?_
    · unfold cnt
      exact Nat.le_trans List.countP_le_length (by simp)
    · intro j o ho hj
      simp only [Array.getD_eq_getD_getElem?, Array.getElem?_replicate] at hj
      split at hj <;> simp at hj
    · rw [bld_none as ⟨σ, []⟩ (fun j => by
        simp only [Array.getD_eq_getD_getElem?, Array.getElem?_replicate]
        split <;> simp)]
      exact hI'

end
end Go.X
/-
  What one state describes, another describes too: sound.
-/
namespace Go.X
open Go.RowKit (Below)

section
variable {P : Program} {B : Base} {σ τ : St} {ρ ρ' : Env} {w : World}

theorem decEqTy_eq {a b : Ty} (h : decEqTy a b = true) : a = b := by
  unfold decEqTy at h
  split at h
  · assumption
  · cases h

theorem eqSV_eq {t t' : Ty} {d : t.Data} {d' : t'.Data} (h : eqSV t t' d d') : ∃ e : t = t', castD e d = d' := by
  unfold eqSV at h
  split at h
  · rename_i x hx
    obtain ⟨e, rfl⟩ := cast?_some hx
    exact ⟨e, h⟩
  · exact h.elim

theorem subSV_sound (hS : Sat P B ρ σ.obj w) {new : List Nat} (hle : ρ.le ρ' new) (hnew : ∀ o, o ∈ new → ρ'.blk o = some none ∧ ρ'.len o = 0) {v v' : SV} (h : subSV σ v v')
    (hf : ∀ o, o ∈ new → v.refs o = false) {x : Value} (hx : SV.den P ρ v x) : SV.den P ρ' v' x := by
  have same : v = v' → SV.den P ρ' v' x := fun e => by subst e; exact SV.den_mono hle v x hf hx
  cases v' with
  | any => simp [SV.den]
  | dat t d =>
    have h2 : ∃ y, toDat σ t v = some (y, []) ∧ y = d := by
      unfold subSV at h
      cases v <;> simp only at h <;> (split at h <;> first | exact ⟨_, by assumption, h⟩ | exact h.elim)
    obtain ⟨y, h3, rfl⟩ := h2
    have := toDat_sound hS (fz := []) (fun o => ⟨.inl rfl, fun ho => by simp at ho⟩) h3 (fun o ho => ho) hx
    simp only [SV.den]
    exact Ty.rv_mono hle.H this
  | ep t d =>
    cases v <;> simp only [subSV] at h
    rename_i t' d'
    obtain ⟨e, rfl⟩ := eqSV_eq h
    subst e
    exact same rfl
  | own o t =>
    cases v <;> simp only [subSV] at h
    · rename_i o' t'
      split at h
      case h_2 => exact h.elim
      rename_i hb
      have := Nat.eq_of_beq_eq_true hb
      subst this
      have := SV.den_mono hle _ _ hf hx
      simpa only [SV.den] using this
    · rename_i u
      split at h
      case h_2 => exact h.elim
      rename_i h1 h2
      have := nilSlice h1
      subst this
      simp only [SV.den] at hx
      subst hx
      simp only [SV.den]
      intro p hp
      by_cases hn : o ∈ new
      · obtain ⟨e1, e2⟩ := hnew o hn
        rw [e1] at hp
        simp at hp; subst hp
        exact ⟨trivial, e2⟩
      · have := hle.blk o p hn hp
        rw [hS.dead o h2] at this; cases this
  | osl o t lo n =>
    cases v <;> simp only [subSV] at h
    rename_i o' t' lo' n'
    split at h
    case h_2 => exact h.elim
    rename_i h1 h2
    have := Nat.eq_of_beq_eq_true h1
    have := decEqTy_eq h2
    obtain ⟨rfl, rfl⟩ := h
    subst_vars
    exact same rfl
  | bp o k =>
    cases v <;> simp only [subSV] at h
    rename_i o' k'
    split at h
    case h_2 => exact h.elim
    rename_i h1 h2
    have := Nat.eq_of_beq_eq_true h1
    have := Nat.eq_of_beq_eq_true h2
    subst_vars
    exact same rfl
  | mp o =>
    cases v <;> simp only [subSV] at h
    split at h
    case h_2 => exact h.elim
    rename_i h1
    have := Nat.eq_of_beq_eq_true h1
    subst_vars
    exact same rfl
  | ip o =>
    cases v <;> simp only [subSV] at h
    split at h
    case h_2 => exact h.elim
    rename_i h1
    have := Nat.eq_of_beq_eq_true h1
    subst_vars
    exact same rfl
  | rp o t i off => cases v <;> simp only [subSV] at h
  | fn ps rs pre F => cases v <;> simp only [subSV] at h
  | fnp ps rs pre F => cases v <;> simp only [subSV] at h
  | fe q o T st ps rs pre K =>
    cases v <;> simp only [subSV] at h
    exact same h
  | clo f caps => cases v <;> simp only [subSV] at h
  | agg cs => cases v <;> simp only [subSV] at h
  | tup cs => cases v <;> simp only [subSV] at h
  | lit u => cases v <;> simp only [subSV] at h

theorem subSVs_sound (hS : Sat P B ρ σ.obj w) {new : List Nat} (hle : ρ.le ρ' new) (hnew : ∀ o, o ∈ new → ρ'.blk o = some none ∧ ρ'.len o = 0) :
    ∀ {cs cs' : List SV}, subSVs σ cs cs' → (∀ o, o ∈ new → SV.refs.refsL o cs = false) → ∀ {vs : List Value}, SV.denL P ρ cs vs → SV.denL P ρ' cs' vs
  | [], [], _, _, vs, hx => by simpa [SV.denL] using hx
  | c :: cs, c' :: cs', h, hf, vs, hx => by
    simp only [SV.denL] at hx ⊢
    obtain ⟨v, r, rfl, h1, h2⟩ := hx
    have f1 : ∀ o, o ∈ new → c.refs o = false := fun o ho => by
      have := hf o ho; simp only [SV.refs.refsL] at this; cases hc : c.refs o <;> simp_all
    have f2 : ∀ o, o ∈ new → SV.refs.refsL o cs = false := fun o ho => by
      have := hf o ho; simp only [SV.refs.refsL] at this; cases hc : c.refs o <;> simp_all
    exact ⟨v, r, rfl, subSV_sound hS hle hnew h.1 f1 h1, subSVs_sound hS hle hnew h.2 f2 h2⟩
  | [], _ :: _, h, _, _, _ => h.elim
  | _ :: _, [], h, _, _, _ => h.elim

theorem subSlots_spec : ∀ (ks : List Nat), subSlots σ τ ks → ∀ s, s ∈ ks → τ.get s = .any ∨ subSV σ (σ.get s) (τ.get s)
  | [], _, s, h => by simp at h
  | k :: r, h, s, hm => by
    have h2 : (τ.get k = .any ∨ subSV σ (σ.get k) (τ.get k)) ∧ subSlots σ τ r := by
      unfold subSlots at h
      split at h
      · rename_i e; exact ⟨.inl e, h⟩
      · exact ⟨.inr h.1, h.2⟩
    rcases List.mem_cons.1 hm with rfl | hm
    · exact h2.1
    · exact subSlots_spec r h2.2 s hm

theorem subObs_spec : ∀ (os : List Nat), subObs σ τ os → ∀ o, o ∈ os → ∀ x, τ.obj o = some x → subOb σ o x
  | [], _, o, h => by simp at h
  | k :: r, h, o, hm => by
    intro x hx
    have h2 : (∀ y, τ.obj k = some y → subOb σ k y) ∧ subObs σ τ r := by
      unfold subObs at h
      split at h
      · rename_i e; exact ⟨fun y hy => (by rw [e] at hy; cases hy), h⟩
      · rename_i y e; exact ⟨fun y' hy => (by rw [e] at hy; simp at hy; subst hy; exact h.1), h.2⟩
    rcases List.mem_cons.1 hm with rfl | hm
    · exact h2.1 x hx
    · exact subObs_spec r h2.2 o hm x hx

def isFzOb : Option Ob → Bool
  | some (.box _ true _) => true
  | some (.row _ _ true _ _) => true
  | some (.map true _ _ _) => true
  | _ => false

/-- what is asked of an object, in plain words -/
theorem subOb_spec {o : Nat} {x : Ob} (h : subOb σ o x) :
    (∃ T fz fz' cs cs', x = .box T fz cs ∧ σ.obj o = some (.box T fz' cs') ∧ subFz fz fz' = true ∧ subSVs σ cs' cs) ∨
    (∃ E t fz fz' nl nl' l, x = .row E t fz nl l ∧ σ.obj o = some (.row E t fz' nl' l) ∧ subFz fz fz' = true ∧ (nl = nl' ∨ nl = .unk ∨ (nl = .yes ∧ nl' = .no ∧ l ≠ []))) ∨
    (∃ E t nl, x = .row E t false nl [] ∧ nl ≠ .no ∧ σ.obj o = none ∧ freshSl o σ.sl = true ∧ freshOb o σ.ob = true ∧ o < 1000000) ∨
    (∃ kt vt fz fz' l, x = .map fz kt vt l ∧ σ.obj o = some (.map fz' kt vt l) ∧ subFz fz fz' = true) ∨
    (∃ kt vt left cur, x = .iter kt vt left none ∧ σ.obj o = some (.iter kt vt left cur)) := by
  cases x with
  | box T fz cs =>
    simp only [subOb] at h
    split at h
    case h_2 => exact h.elim
    rename_i T' fz' cs' ho
    split at h
    case h_2 => exact h.elim
    rename_i h1 h2
    have := Nat.eq_of_beq_eq_true h1
    subst this
    exact .inl ⟨_, _, _, _, _, rfl, ho, h2, h⟩
  | row E t fz nl l =>
    simp only [subOb] at h
    split at h
    · rename_i E' t' fz' nl' l' ho
      split at h
      case h_2 => exact h.elim
      rename_i h1 h2
      have := Nat.eq_of_beq_eq_true h1
      subst this
      have hboth : eqSV (.slice t') (.slice t) l' l ∧ (nl = nl' ∨ nl = .unk ∨ (nl = .yes ∧ nl' = .no ∧ l ≠ [])) := by
        split at h
        · rename_i h3
          refine ⟨h, ?_⟩
          cases nl <;> cases nl' <;> simp_all [subNl]
        · split at h
          · exact ⟨h.2, .inr (.inr ⟨rfl, rfl, h.1⟩)⟩
          · exact h.elim
      obtain ⟨h, hnl⟩ := hboth
      obtain ⟨e, he⟩ := eqSV_eq h
      have e' : t' = t := by injection e
      subst e'
      have : l' = l := he
      subst this
      exact .inr (.inl ⟨_, _, _, _, _, _, _, rfl, ho, h2, hnl⟩)
    · rename_i ho
      split at h
      · rename_i h1 h2
        subst h
        simp only [Bool.and_eq_true] at h2
        exact .inr (.inr (.inl ⟨_, _, _, rfl, by simp, ho, h1, h2.1, Nat.le_of_ble_eq_true h2.2⟩))
      · rename_i h1 h2
        subst h
        simp only [Bool.and_eq_true] at h2
        exact .inr (.inr (.inl ⟨_, _, _, rfl, by simp, ho, h1, h2.1, Nat.le_of_ble_eq_true h2.2⟩))
      · exact h.elim
    · exact h.elim
  | map fz kt vt l =>
    cases ho : σ.obj o with
    | none => simp only [subOb, ho] at h
    | some y =>
      cases y with
      | map fz' kt' vt' l' =>
        simp only [subOb, ho] at h
        cases h1 : subFz fz fz' with
        | false => simp [h1] at h
        | true =>
          simp only [h1] at h
          obtain ⟨e, he⟩ := eqSV_eq h
          obtain ⟨e1, e2⟩ : kt' = kt ∧ vt' = vt := by injection e with a b; exact ⟨a, b⟩
          subst e1
          subst e2
          have : l' = l := he
          subst this
          exact .inr (.inr (.inr (.inl ⟨_, _, _, _, _, rfl, rfl, h1⟩)))
      | _ => simp only [subOb, ho] at h
  | iter kt vt left cur =>
    cases cur with
    | some x => exact h.elim
    | none =>
      cases ho : σ.obj o with
      | none => simp only [subOb, ho] at h
      | some y =>
        cases y with
        | iter kt' vt' left' cur' =>
          simp only [subOb, ho] at h
          obtain ⟨e, he⟩ := eqSV_eq h
          obtain ⟨e1, e2⟩ : kt' = kt ∧ vt' = vt := by injection e with a b; exact ⟨a, b⟩
          subst e1
          subst e2
          have : left' = left := he
          subst this
          exact .inr (.inr (.inr (.inr ⟨_, _, _, _, rfl, rfl⟩)))
        | _ => simp only [subOb, ho] at h
  | mape kt vt l k s => exact h.elim

theorem rel_sub {n : Nat} {a : Act} {ks os : List Nat} (h : sub σ τ ks os) (hk : ∀ s, s ∉ ks → τ.get s = .any ∨ τ.get s = σ.get s) (ho : ∀ o, o ∉ os → τ.obj o = none ∨ τ.obj o = σ.obj o)
    (hR : Rel P B n σ a w) : Rel P B n τ a w := by
  obtain ⟨hs, hob⟩ := h
  obtain ⟨r1, r2, ρ, hS, hSl, hPin⟩ := hR
  let fzs := os.filter fun o => isFzOb (τ.obj o)
  obtain ⟨ρ1, hS1, hle1, hb1, hn1⟩ := freeze_sat (σ := σ) fzs hS
  let new := os.filter fun o => (σ.obj o).isNone && (τ.obj o).isSome
  have mem_new : ∀ o, o ∈ new ↔ o ∈ os ∧ σ.obj o = none ∧ τ.obj o ≠ none := by
    intro o
    simp only [new, List.mem_filter, Bool.and_eq_true, Option.isNone_iff_eq_none, Option.isSome_iff_ne_none]
  have born : ∀ o, o ∈ new → ∃ E t nl, τ.obj o = some (.row E t false nl []) ∧ nl ≠ .no ∧ freshSl o σ.sl = true ∧ freshOb o σ.ob = true ∧ o < 1000000 := by
    intro o hm
    obtain ⟨m1, m2, m3⟩ := (mem_new o).1 hm
    cases hx : τ.obj o with
    | none => exact absurd hx m3
    | some x =>
      rcases subOb_spec (subObs_spec os hob o m1 x hx) with ⟨_, _, _, _, _, _, e, _⟩ | ⟨_, _, _, _, _, _, _, _, e, _⟩ | ⟨E, t, nl, e, hn, _, f1, f2⟩ | ⟨_, _, _, _, _, _, e, _⟩ | ⟨_, _, _, _, _, e⟩
      · rw [m2] at e; cases e
      · rw [m2] at e; cases e
      · exact ⟨E, t, nl, by rw [e], hn, f1, f2⟩
      · rw [m2] at e; cases e
      · rw [m2] at e; cases e
  let ρ2 : Env := { H := ρ1.H, blk := fun o => match τ.obj o with | none => none | some _ => if o ∈ new then some none else ρ.blk o, len := fun o => if o ∈ new then 0 else ρ.len o }
  have hle : ρ.le ρ2 new := ⟨hle1.H, fun o p hn hp => by
    simp only [ρ2] at hp
    split at hp
    · cases hp
    · rw [if_neg hn] at hp; exact hp, fun o hn => by simp [ρ2, hn]⟩
  have hle' : ρ1.le ρ2 new := ⟨fun _ _ h => h, fun o p hn hp => by rw [hb1]; exact hle.blk o p hn hp, fun o hn => by rw [hn1]; exact hle.len o hn⟩
  have hnew : ∀ o, o ∈ new → ρ2.blk o = some none ∧ ρ2.len o = 0 := by
    intro o hm
    obtain ⟨E, t, nl, e, _⟩ := born o hm
    simp only [ρ2]
    rw [e]
    simp [hm]
  have freshV : ∀ s o, o ∈ new → (σ.get s).refs o = false := by
    intro s o hm
    obtain ⟨E, t, _, _, _, f, _⟩ := born o hm
    unfold St.get
    split
    · rename_i v hv; exact freshSl_mem _ _ _ _ f (look_mem _ _ _ hv)
    · rfl
  have freshB : ∀ k T fz cs, σ.obj k = some (.box T fz cs) → ∀ o, o ∈ new → SV.refs.refsL o cs = false := by
    intro k T fz cs hx o hm
    obtain ⟨E, t, _, _, _, _, f, _⟩ := born o hm
    simp only [St.obj] at hx
    split at hx
    · rename_i y hy; subst hx; exact freshOb_mem _ _ _ _ _ _ f (look_mem _ _ _ hy)
    · cases hx
  have blk2 : ∀ o b Cp, ρ2.blk o = some (some (b, Cp)) → ρ.blk o = some (some (b, Cp)) := by
    intro o b Cp h
    by_cases hm : o ∈ new
    · rw [(hnew o hm).1] at h; simp at h
    · exact hle.blk o _ hm h
  have obj1 : ∀ o, (σ.frz fzs).obj o = if o ∈ fzs then (σ.obj o).map frozenOb else σ.obj o := obj_frz σ fzs
  have fzmem : ∀ o, o ∈ fzs ↔ o ∈ os ∧ isFzOb (τ.obj o) = true := fun o => by simp [fzs, List.mem_filter]
  refine ⟨r1, r2, ρ2, ⟨hS.os, hS.tape, hS.output, hS.drawn, hS.size, hS1.good, hS1.oldH, hS.old, ?_, ?_, ?_, ?_⟩, ?_, hPin.mono hle (fun d hd => by obtain ⟨E, t, _, _, _, _, _, f⟩ := born d hd; exact f)⟩
  · intro o x hx
    have hblk : o ∉ new → ρ2.blk o = ρ.blk o := fun hn => by simp only [ρ2]; rw [hx]; simp [hn]
    by_cases hm : o ∈ os
    · rcases subOb_spec (subObs_spec os hob o hm x hx) with ⟨T, fz, fz', cs, cs', rfl, e, e1, e2⟩ | ⟨E, t, fz, fz', nl, nl', l, rfl, e, e1, hnl⟩ | ⟨E, t, nl, rfl, hnn, e, _⟩ | ⟨kt, vt, fz, fz', l, rfl, e, e1⟩ | ⟨kt, vt, left, cur, rfl, e⟩
      · have hnn : o ∉ new := fun hn => by have := ((mem_new o).1 hn).2.1; rw [e] at this; cases this
        have e3 : (σ.frz fzs).obj o = some (.box T fz cs') := by
          rw [obj1]
          cases fz with
          | true => rw [if_pos ((fzmem o).2 ⟨hm, by rw [hx]; rfl⟩), e]; rfl
          | false =>
            rw [if_neg (fun h => by have := ((fzmem o).1 h).2; rw [hx] at this; simp [isFzOb] at this), e]
            cases fz' <;> simp_all [subFz]
        obtain ⟨p, hp, hs2⟩ := hS1.obs o _ e3
        refine ⟨p, by rw [hblk hnn, ← hb1]; exact hp, ?_⟩
        simp only [ObSat] at hs2 ⊢
        obtain ⟨b, Cp, vs, rfl, k1, k2, k3, k4⟩ := hs2
        refine ⟨b, Cp, vs, rfl, k1, ?_, k3, k4⟩
        have hd : SV.denL P ρ cs' vs.toList := by
          obtain ⟨p', hp', hs3⟩ := hS.obs o _ e
          rw [← hb1, hp] at hp'
          simp at hp'; subst hp'
          simp only [ObSat] at hs3
          obtain ⟨b', C', vs', q0, q1, q2, _⟩ := hs3
          simp at q0
          obtain ⟨rfl, rfl⟩ := q0
          rw [k1] at q1
          simp at q1
          obtain ⟨rfl, _⟩ := q1
          exact q2
        exact subSVs_sound hS hle hnew e2 (freshB o T fz' cs' e) hd
      · have hnn : o ∉ new := fun hn => by have := ((mem_new o).1 hn).2.1; rw [e] at this; cases this
        have e3 : (σ.frz fzs).obj o = some (.row E t fz nl' l) := by
          rw [obj1]
          cases fz with
          | true => rw [if_pos ((fzmem o).2 ⟨hm, by rw [hx]; rfl⟩), e]; rfl
          | false =>
            rw [if_neg (fun h => by have := ((fzmem o).1 h).2; rw [hx] at this; simp [isFzOb] at this), e]
            cases fz' <;> simp_all [subFz]
        obtain ⟨p, hp, hs2⟩ := hS1.obs o _ e3
        refine ⟨p, by rw [hblk hnn, ← hb1]; exact hp, obSat_mono hle' hnn (fun _ _ _ e => by cases e) (fun _ _ _ => ⟨rfl, rfl⟩) ?_⟩
        rcases hnl with rfl | rfl | ⟨rfl, rfl, hne⟩
        · exact hs2
        rotate_left
        · simp only [ObSat] at hs2 ⊢
          obtain ⟨g1, g2, g3⟩ := hs2
          refine ⟨g1, g2, ?_⟩
          cases p with
          | none => exact absurd rfl g3.2
          | some q => exact ⟨fun _ => hne, g3.2⟩
        · simp only [ObSat] at hs2 ⊢
          obtain ⟨g1, g2, g3⟩ := hs2
          refine ⟨g1, g2, ?_⟩
          cases p with
          | none => exact ⟨g3.1, by simp⟩
          | some q => exact ⟨fun h => (by cases h), g3.2⟩
      · have hn : o ∈ new := (mem_new o).2 ⟨hm, e, by rw [hx]; simp⟩
        refine ⟨none, (hnew o hn).1, ?_⟩
        simp only [ObSat]
        exact ⟨(hnew o hn).2, by simp, trivial, hnn⟩
      · have hnn : o ∉ new := fun hn => by have := ((mem_new o).1 hn).2.1; rw [e] at this; cases this
        have e3 : (σ.frz fzs).obj o = some (.map fz kt vt l) := by
          rw [obj1]
          cases fz with
          | true => rw [if_pos ((fzmem o).2 ⟨hm, by rw [hx]; rfl⟩), e]; rfl
          | false =>
            rw [if_neg (fun h => by have := ((fzmem o).1 h).2; rw [hx] at this; simp [isFzOb] at this), e]
            cases fz' <;> simp_all [subFz]
        obtain ⟨p, hp, hs2⟩ := hS1.obs o _ e3
        refine ⟨p, by rw [hblk hnn, ← hb1]; exact hp, obSat_mono hle' hnn (fun _ _ _ e => by cases e) (fun _ _ _ => ⟨rfl, rfl⟩) hs2⟩
      · have hnn : o ∉ new := fun hn => by have := ((mem_new o).1 hn).2.1; rw [e] at this; cases this
        have e3 : (σ.frz fzs).obj o = some (.iter kt vt left cur) := by
          rw [obj1, if_neg (fun h => by have := ((fzmem o).1 h).2; rw [hx] at this; simp [isFzOb] at this), e]
        obtain ⟨p, hp, hs2⟩ := hS1.obs o _ e3
        refine ⟨p, by rw [hblk hnn, ← hb1]; exact hp, obSat_mono hle' hnn (fun _ _ _ e => by cases e) (fun _ _ _ => ⟨rfl, rfl⟩) ?_⟩
        simp only [ObSat] at hs2 ⊢
        obtain ⟨b, C, y, q1, q2, q3, q4⟩ := hs2
        refine ⟨b, C, y, q1, q2, ?_, q4⟩
        unfold IterRd at q3 ⊢
        split at q3
        · exact ⟨q3.1, rfl⟩
        · obtain ⟨es, clock, r1, r2, r3, r4, r5, r6, _⟩ := q3
          exact ⟨es, clock, r1, r2, r3, r4, r5, r6, trivial⟩
        · exact q3
    · rcases ho o hm with e | e
      · rw [hx] at e; cases e
      · have hnn : o ∉ new := fun hn => hm ((mem_new o).1 hn).1
        have e3 : (σ.frz fzs).obj o = some x := by
          rw [obj1, if_neg (fun h => hm ((fzmem o).1 h).1), ← e, hx]
        obtain ⟨p, hp, hs2⟩ := hS1.obs o _ e3
        exact ⟨p, by rw [hblk hnn, ← hb1]; exact hp, obSat_mono hle' hnn (fun T fz cs e4 o' ho' => freshB o T fz cs (by rw [← e, hx, e4]) o' ho') (fun _ _ _ => ⟨rfl, rfl⟩) hs2⟩
  · intro o hx; simp only [ρ2]; rw [hx]
  · intro o o' b C1 C2 h1 h2; exact hS.inj o o' b C1 C2 (blk2 _ _ _ h1) (blk2 _ _ _ h2)
  · intro o b Cp h1; exact hS.own o b Cp (blk2 _ _ _ h1)
  · intro s sv hv
    have hg : τ.get s = sv := by unfold St.get; rw [hv]
    have hd : SV.den P ρ (σ.get s) (a.tmps.getD s undef) := by
      have := den_opnd (a := a) hSl (.tmp s)
      simpa only [opnd, Act.eval] using this
    by_cases hm : s ∈ ks
    · rcases subSlots_spec ks hs s hm with e | e
      · rw [hg] at e; subst e; exact den_any _
      · rw [hg] at e; exact subSV_sound hS hle hnew e (fun o hn => freshV s o hn) hd
    · rcases hk s hm with e | e
      · rw [hg] at e; subst e; exact den_any _
      · rw [hg] at e; subst e; exact SV.den_mono hle _ _ (fun o hn => freshV s o hn) hd

end
end Go.X
/-
  A body: what is asked of it is enough.
-/
namespace Go.X
open Go.RowKit (Below)

def toExit : Ex → Exit
  | .normal => .normal
  | .ret => .ret
  | .exit id => .exit id

structure Ext (σ σ' : St) : Prop where
  sl : ∃ p, σ'.sl = p ++ σ.sl
  ob : ∃ p, σ'.ob = p ++ σ.ob

theorem Ext.refl (σ : St) : Ext σ σ := ⟨⟨[], rfl⟩, ⟨[], rfl⟩⟩
theorem Ext.trans {a b c : St} (h : Ext a b) (k : Ext b c) : Ext a c := by
  obtain ⟨⟨p, hp⟩, ⟨q, hq⟩⟩ := h
  obtain ⟨⟨p', hp'⟩, ⟨q', hq'⟩⟩ := k
  exact ⟨⟨p' ++ p, by rw [hp', hp, List.append_assoc]⟩, ⟨q' ++ q, by rw [hq', hq, List.append_assoc]⟩⟩

theorem ext_gc (n : Nat) (σ : St) : Ext σ (gc n σ) := by
  unfold gc
  split
  · exact Ext.refl σ
  · exact ⟨⟨_, rfl⟩, ⟨[], rfl⟩⟩

theorem ext_rename (s : Nat) (σ : St) : Ext σ (rename s σ) := by
  unfold rename
  split
  case h_2 => exact Ext.refl σ
  split
  · exact Ext.refl σ
  · split
    case h_2 => exact Ext.refl σ
    exact ⟨⟨_, (List.cons_append).symm⟩, ⟨[_, _], rfl⟩⟩

theorem ext_renameA (σ : St) (t : Nat) : Ext σ (renameA σ t) := by
  unfold renameA
  split
  case h_2 => exact Ext.refl σ
  unfold renameN
  split
  case h_2 => exact Ext.refl σ
  split
  case h_2 => exact Ext.refl σ
  split
  case h_2 => exact Ext.refl σ
  split
  case h_2 => exact Ext.refl σ
  exact ⟨⟨_, rfl⟩, ⟨[_, _, _], rfl⟩⟩

theorem ext_renameC (σ : St) (l : List Operand) : Ext σ (renameC σ l) := by
  unfold renameC
  split
  · exact ext_renameA σ _
  · exact Ext.refl σ

theorem ext_renameS (σ : St) (t : Nat) : Ext σ (renameS σ t) := by
  unfold renameS
  split
  case h_2 => exact Ext.refl σ
  unfold renameR
  split
  case h_2 => exact Ext.refl σ
  split
  case h_2 => exact Ext.refl σ
  split
  case h_2 => exact Ext.refl σ
  split
  case h_2 => exact Ext.refl σ
  exact ⟨⟨_, rfl⟩, ⟨[_, _, _], rfl⟩⟩

theorem ext_renames : ∀ (l : List Oper) (σ : St), Ext σ (renames l σ)
  | [], σ => Ext.refl σ
  | o :: r, σ => by
    simp only [renames]
    split
    · exact ((ext_rename _ σ).trans (ext_renameA _ _)).trans (ext_renames r _)
    · exact (ext_renameC σ _).trans (ext_renames r _)
    · exact (ext_renameS σ _).trans (ext_renames r _)
    · exact ext_renames r σ

theorem ext_runOps {C : Ctx} {ops : List Oper} : ∀ (l : List Oper) (rs rs' : RS) (es : List Eff), runOps C ops l rs = some (es, rs') → Ext rs.st rs'.st
  | [], rs, rs', es, h => by simp [runOps] at h; obtain ⟨_, rfl⟩ := h; exact Ext.refl _
  | o :: r, rs, rs', es, h => by
    simp only [runOps] at h
    split at h
    · cases h
    rename_i e he
    split at h
    · cases h
    split at h
    · cases h
    rename_i es' rs2 hr
    simp at h
    obtain ⟨_, rfl⟩ := h
    exact Ext.trans ⟨⟨_, rfl⟩, ⟨_, rfl⟩⟩ (ext_runOps r _ _ _ hr)

theorem ext_region {C : Ctx} {ops : List Oper} {draw : Bool} {σ : St} {es : List Eff} {rs : RS} (h : runRegion C ops draw σ = some (es, rs)) : Ext σ rs.st := by
  cases draw with
  | false => exact ext_runOps _ _ _ _ h
  | true =>
    simp only [runRegion] at h
    split at h
    case h_2 => cases h
    rename_i as rs' ps hr hp
    split at h
    case h_2 => cases h
    simp at h
    obtain ⟨_, rfl⟩ := h
    obtain ⟨_, i2, _⟩ := runAny_spec _ _ _ _ hr
    subst i2
    exact ⟨⟨_, rfl⟩, ⟨_, rfl⟩⟩

theorem look_const {α : Type} (x : α) : ∀ (ws : List Nat) (s : Nat), look (ws.map fun k => (k, x)) s = none ∨ look (ws.map fun k => (k, x)) s = some x
  | [], s => .inl rfl
  | k :: r, s => by
    simp only [List.map_cons, look]
    cases Nat.beq k s with
    | true => exact .inr rfl
    | false => exact look_const x r s

theorem keysTo_app {α : Type} : ∀ (p q : List (Nat × α)) (k : Nat), k ∈ keys p → k ∈ keysTo (p ++ q) q.length
  | [], q, k, h => by simp [keys] at h
  | (j, x) :: p, q, k, h => by
    simp only [List.cons_append, keysTo]
    have : Nat.ble ((p ++ q).length + 1) q.length = false := by
      cases hb : Nat.ble ((p ++ q).length + 1) q.length with
      | false => rfl
      | true => have := Nat.le_of_ble_eq_true hb; simp at this; omega
    rw [this]
    simp only [keys, List.mem_cons] at h
    rcases h with rfl | h
    · exact (mem_union _ _ _).2 (.inl (by simp))
    · exact (mem_union _ _ _).2 (.inr (keysTo_app p q k h))

section
variable {P : Program} {B : Base} {C : Ctx}

theorem head_get (L : LoopInv) (ws : List Nat) (σ : St) (x : L.X) (s : Nat) (h : s ∉ keys (L.sl x)) : (headSt L ws σ x).get s = .any ∨ (headSt L ws σ x).get s = σ.get s := by
  unfold St.get headSt
  simp only
  rw [look_append, look_none_keys _ _ h]
  simp only
  rw [look_append]
  rcases look_const SV.any ws s with e | e
  · rw [e]; exact .inr rfl
  · rw [e]; exact .inl rfl

theorem head_look (L : LoopInv) (ws : List Nat) (σ : St) (x : L.X) (s : Nat) (h : s ∉ keys (L.sl x)) : look (headSt L ws σ x).sl s = look (ws.map (fun s => (s, SV.any)) ++ σ.sl) s := by
  unfold headSt
  simp only
  rw [look_append, look_none_keys _ _ h]

theorem head_lookO (L : LoopInv) (ws : List Nat) (σ : St) (x : L.X) (s : Nat) (h : s ∉ keys (L.ob x)) : look (headSt L ws σ x).ob s = look (ws.map (fun s => (s, (none : Option Ob))) ++ σ.ob) s := by
  unfold headSt
  simp only
  rw [look_append, look_none_keys _ _ h]

theorem head_obj (L : LoopInv) (ws : List Nat) (σ : St) (x : L.X) (o : Nat) (h : o ∉ keys (L.ob x)) : (headSt L ws σ x).obj o = none ∨ (headSt L ws σ x).obj o = σ.obj o := by
  simp only [St.obj]
  rw [head_lookO L ws σ x o h, look_append]
  rcases look_const (none : Option Ob) ws o with e | e
  · rw [e]; exact .inr rfl
  · rw [e]; exact .inl rfl

theorem next_sound (hC : C.ok P) {ops : Array Oper} {d : Nat} {it : Operand} {r : List Oper} {σ : St} {K : Ex → St → Prop} {Q : Exit → Act → World → Prop} {a : Act} {w : World}
    (hop : nextOp ops.toList = some (d, it, r)) (h : nextVC C ops.toList r d it σ K) (hR : Rel P B C.n σ a w)
    (hQ : ∀ σ' a' w', Ext σ σ' → K .normal σ' → Rel P B C.n σ' a' w' → Q .normal a' w') : regQ P ops false Q a w := by
  unfold nextOp at hop
  split at hop
  · cases hop
  rename_i o rr hl
  split at hop
  case h_2 => cases hop
  rename_i it' d' e1 e2 e3
  simp at hop
  obtain ⟨rfl, rfl, rfl⟩ := hop
  unfold nextVC at h
  split at h
  case h_2 => exact h.elim
  rename_i ob hfr hit
  have hfr : d' < C.n := Nat.le_of_ble_eq_true hfr
  split at h
  case h_2 => exact h.elim
  rename_i kt vt left cur ho
  obtain ⟨hover, hnext⟩ := h
  obtain ⟨hd, hn, ρ, hS, hSl, hPin⟩ := hR
  show wpList P ops Q ops.toList a w
  rw [hl]
  have hw : Region.wanted o (yielded ops a.tmps) = true := by simp [Region.wanted, e3]
  unfold wpList
  rw [if_pos hw]
  refine .inl ?_
  have hden := den_opnd (P := P) (ρ := ρ) hSl it'
  rw [hit] at hden
  obtain ⟨p, hp, hs⟩ := hS.obs ob _ ho
  simp only [ObSat] at hs
  obtain ⟨b, Cp, y, rfl, k1, k2, k3⟩ := hs
  simp only [SV.den] at hden
  obtain ⟨b', C', f1, f2⟩ := hden _ hp
  simp at f1
  obtain ⟨rfl, rfl⟩ := f1
  have hg : (∀ c T fr, y ≠ .cells c T fr) → (getObj b).run P w = .ok y w := fun hne => by
    cases y with
    | cells c T fr => exact absurd rfl (hne c T fr)
    | _ => simp [getObj, Sem.run, k1]
  have hblt : b < w.heap.size := (Array.getElem?_eq_some_iff.1 k1).1
  -- what follows
  have rest : ∀ (σ2 : St) (a2 : Act) (w2 : World), Ext σ σ2 → restVC C ops.toList rr σ.ob.length σ2 K → Rel P B C.n σ2 a2 w2 → wpList P ops Q rr a2 w2 := by
    intro σ2 a2 w2 hE hv hR2
    unfold restVC at hv
    split at hv
    · exact hv.elim
    rename_i ss rs hr
    obtain ⟨g1, g2, ρ2, g3, g4, g5⟩ := hR2
    refine runOps_sound hC _ _ _ _ _ _ hr hv ⟨g1, g2, ρ2, g3, g4, (fun s g v hm => by simp at hm), g5⟩ (fun hk' a' w' hI' => ?_)
    obtain ⟨i1, i2, ρ3, i3, i4, _, i5⟩ := hI'
    have e1 := ext_runOps _ _ _ _ hr
    exact hQ _ a' w' (hE.trans (e1.trans ((ext_gc _ _).trans (ext_renames _ _)))) hk' (rel_renames _ (rel_gc ⟨i1, i2, ρ3, i3, i4, i5⟩))
  have slotsPut : ∀ (ρ2 : Env) (sv : SV) (v : Value), ρ.le ρ2 [] → SV.den P ρ2 sv v → Slots P ρ2 ((d', sv) :: σ.sl) (a.put o.dst v) := by
    intro ρ2 sv v hle hv s x hx
    rw [e2]
    simp only [Act.put]
    by_cases hs : s = d'
    · subst hs
      rw [look_cons_eq] at hx
      simp at hx; subst hx
      simp only [Array.getD_eq_getD_getElem?, Array.getElem?_setIfInBounds]
      simp only [if_true]
      rw [if_pos (by rw [hn]; exact hfr)]
      exact hv
    · rw [look_cons_ne (fun h => hs h.symm)] at hx
      simp only [Array.getD_eq_getD_getElem?, Array.getElem?_setIfInBounds]
      rw [if_neg (fun h => hs h.symm)]
      have := SV.den_mono hle _ _ (fun r hr => by simp at hr) (hSl s x hx)
      simpa only [Array.getD_eq_getD_getElem?] using this
  have szPut : ∀ v, (a.put o.dst v).tmps.size = C.n ∧ (a.put o.dst v).defers = [] := by
    intro v; rw [e2]; simp only [Act.put]; exact ⟨by simpa using hn, hd⟩
  have over : ∀ w2 : World, Sat P B ρ σ.obj w2 → left = [] → (execOp a.eval o).run P w = .ok (.value (.tuple #[.bool false])) w2 → o.wp P a w (wpList P ops Q rr) Q := by
    intro w2 hS2 hl0 hrun
    unfold Oper.wp
    rw [hrun]
    simp only [Oper.upon]
    refine rest ⟨(d', .tup [.dat .bool false]) :: σ.sl, σ.ob⟩ _ _ ⟨⟨[_], rfl⟩, ⟨[], rfl⟩⟩ (hover hl0) ⟨(szPut _).2, (szPut _).1, ρ, hS2, slotsPut ρ _ _ (Env.le.refl _ _) ?_, hPin⟩
    simp only [SV.den, SV.denL]
    exact ⟨_, rfl, _, _, rfl, rv_bool _, rfl⟩
  unfold IterRd at k2
  split at k2
  · refine over w hS k2.1 ?_
    simp [execOp, e1, Instr.next, f2, hg (by intros; simp)]
  · rename_i m since seen stepped
    obtain ⟨es, clock, h1, h2, h3, h4, h5, ⟨fs, h6, h7, h8⟩, _⟩ := k2
    have hm : w.heap[m]? = some (.map es clock) := hS.good m _ h1
    have hg2 : (getObj m).run P w = .ok (.map es clock) w := by simp [getObj, Sem.run, hm]
    have hchk : (!seen.isEmpty && !es.isEmpty && es.all (fun x => decide (x.born ≥ stepped))) = false := by
      rcases h5 with rfl | rfl
      · simp
      · cases hes : es.isEmpty with
        | true => simp
        | false =>
          have : ∃ e, es[0]? = some e := by
            have : 0 < es.size := by
              cases h0 : es.size with
              | zero => simp [Array.isEmpty, h0] at hes
              | succ n => omega
            exact ⟨es[0], Array.getElem?_eq_getElem this⟩
          obtain ⟨e0, he0⟩ := this
          have hb := h3 0 e0 he0
          have : es.all (fun x => decide (x.born ≥ stepped)) = false := by
            rw [Array.all_eq_false]
            obtain ⟨hlt, hx⟩ := Array.getElem?_eq_some_iff.1 he0
            exact ⟨0, hlt, by rw [hx]; simp; omega⟩
          simp [this]
    have hleft : (es.filter fun e => !seen.contains e.born) = fs.toArray := by
      rw [h6, ← Array.toList_inj]; simp
    have hborn : ∀ e, e ∈ fs → e.born < since := by
      intro e he
      rw [h6, List.mem_filter] at he
      obtain ⟨i, hi⟩ := List.getElem?_of_mem he.1
      have := h3 i e (by simpa using hi)
      omega
    have hold : (fs.toArray.filter fun x => decide (x.born < since)) = fs.toArray := by
      rw [← Array.toList_inj]
      simp only [Array.toList_filter]
      rw [List.filter_eq_self.2]
      intro e he; simpa using hborn e he
    have hnew : (fs.toArray.filter fun x => decide (x.born ≥ since)) = #[] := by
      rw [← Array.toList_inj]
      simp only [Array.toList_filter]
      rw [List.filter_eq_nil_iff.2]
      intro e he
      have := hborn e (by simpa using he)
      simp; omega
    cases hfs : fs with
    | nil =>
      have hl0 : left = [] := by rw [hfs] at h7; exact List.length_eq_zero_iff.1 h7.symm
      rw [hfs] at hleft
      refine over w hS hl0 ?_
      have hN : (Instr.next (a.eval it') false o.type).run P w = .ok (.tuple #[.bool false]) w := by
        rw [f2]
        unfold Instr.next
        simp only [Sem.run_bind, hg (by intros; simp), Result.andThen_ok, hg2, hchk, Bool.false_eq_true, if_false, hleft]
        simp [Question.forced]
      simp [execOp, e1, hN]
    | cons f0 fr =>
      have hne : fs ≠ [] := by rw [hfs]; simp
      -- the one that is drawn
      have hrun0 : ∃ (c : Nat) (w1 : World), c < fs.length ∧ (choose (.mapNext fs.length)).run P w = .ok c w1 ∧ (w1 = w ∨ w1 = { w with drawn := w.drawn + 1 }) := by
        have hpos : 0 < fs.length := List.length_pos_iff.2 hne
        rw [run_choose]
        split
        · exact ⟨0, w, hpos, rfl, .inl rfl⟩
        · refine ⟨_, _, ?_, rfl, .inr rfl⟩
          simp only [Question.cut]
          exact Nat.mod_lt _ hpos
      obtain ⟨c, w1, hc, hrun, hw1⟩ := hrun0
      obtain ⟨e, he⟩ : ∃ e, fs[c]? = some e := ⟨fs[c], List.getElem?_eq_getElem hc⟩
      obtain ⟨x, hx⟩ : ∃ x, left[c]? = some x := ⟨left[c], List.getElem?_eq_getElem (by omega)⟩
      obtain ⟨e', q1, q2, q3⟩ := h8 c x hx
      rw [he] at q1; simp at q1; subst q1
      have hS1 : Sat P B ρ σ.obj w1 := by rcases hw1 with rfl | rfl; exact hS; exact sat_drawn hS
      have k1' : w1.heap[b]? = some (.mapIter (some m) since seen stepped) := by rcases hw1 with rfl | rfl <;> exact k1
      have hset : ∀ y : Obj, (setObj b y).run P w1 = .ok () { w1 with heap := w1.heap.setIfInBounds b y } := fun y => by simp [setObj, Sem.run, k1']
      have hexec : (execOp a.eval o).run P w = .ok (.value (.tuple #[.bool true, e.key, e.val])) { w1 with heap := w1.heap.setIfInBounds b (.mapIter (some m) since (seen.push e.born) clock) } := by
        have hemp : fs.toArray.isEmpty = false := by rw [hfs]; rfl
        have hN : (Instr.next (a.eval it') false o.type).run P w = .ok (.tuple #[.bool true, e.key, e.val]) { w1 with heap := w1.heap.setIfInBounds b (.mapIter (some m) since (seen.push e.born) clock) } := by
          rw [f2]
          unfold Instr.next
          have hcand : ((if fs.toArray.isEmpty = true then #[none] else #[]) ++ Array.map some (fs.toArray ++ (#[] : Array MapEntry))) = fs.toArray.map some := by
            rw [hemp]; simp
          simp only [Sem.run_bind, hg (by intros; simp), Result.andThen_ok, hg2, hchk, Bool.false_eq_true, if_false, hleft, hold, hnew]
          rw [hcand]
          have hsz : (fs.toArray.map some).size = fs.length := by simp
          rw [hsz, hrun]
          simp [he, hset]
        simp [execOp, e1, hN]
      have hsplit : left = left.take c ++ x :: left.drop (c + 1) := by
        have hlt : c < left.length := by omega
        have : left[c] = x := by
          rw [List.getElem?_eq_getElem hlt] at hx; simpa using hx
        rw [← this, ← List.drop_eq_getElem_cons hlt, List.take_append_drop]
      unfold Oper.wp
      rw [hexec]
      simp only [Oper.upon]
      have hS2 := set_obj (w' := { w1 with heap := w1.heap.setIfInBounds b (.mapIter (some m) since (seen.push e.born) clock) }) hS1 hp k3 (.iter kt vt (left.take c ++ left.drop (c + 1)) (some x))
        ⟨rfl, rfl, rfl, Nat.le_refl _, by simp, fun j hj => (by show (w1.heap.setIfInBounds b _)[j]? = _; rw [Array.getElem?_setIfInBounds, if_neg (fun h => hj h.symm)])⟩ (by
        simp only [ObSat]
        refine ⟨b, Cp, .mapIter (some m) since (seen.push e.born) clock, rfl, (by have : b < w1.heap.size := (Array.getElem?_eq_some_iff.1 k1').1; simp [this]), ?_, k3⟩
        have hmem : e ∈ fs := List.mem_of_getElem? he
        have hmem' : e ∈ es.toList := by rw [h6, List.mem_filter] at hmem; exact hmem.1
        have inj : ∀ g, g ∈ fs → g.born = e.born → g = e := by
          intro g hg hb
          rw [h6, List.mem_filter] at hg
          obtain ⟨i, hi⟩ := List.getElem?_of_mem hg.1
          obtain ⟨j, hj⟩ := List.getElem?_of_mem hmem'
          have := h4 i j g e (by simpa using hi) (by simpa using hj) hb
          subst this
          rw [hi] at hj; simpa using hj
        have nodup : ∀ (i j : Nat) (g : MapEntry), fs[i]? = some g → fs[j]? = some g → i = j := by
          have hpw : es.toList.Pairwise (fun g g' => g.born ≠ g'.born) := by
            rw [List.pairwise_iff_getElem]
            intro i j hi hj hij hh
            have := h4 i j es.toList[i] es.toList[j] (by simp) (by simp) hh
            omega
          have hpf : fs.Pairwise (fun g g' => g.born ≠ g'.born) := by rw [h6]; exact hpw.sublist List.filter_sublist
          rw [List.pairwise_iff_getElem] at hpf
          intro i j g hi hj
          obtain ⟨hi1, hi2⟩ := List.getElem?_eq_some_iff.1 hi
          obtain ⟨hj1, hj2⟩ := List.getElem?_eq_some_iff.1 hj
          rcases Nat.lt_trichotomy i j with h | h | h
          · exact absurd (by rw [hi2, hj2]) (hpf i j hi1 hj1 h)
          · exact h
          · exact absurd (by rw [hi2, hj2]) (hpf j i hj1 hi1 h)
        have hfs' : es.toList.filter (fun g => !(seen.push e.born).contains g.born) = fs.take c ++ fs.drop (c + 1) := by
          have : es.toList.filter (fun g => !(seen.push e.born).contains g.born) = fs.filter (fun g => !(g.born == e.born)) := by
            rw [h6, List.filter_filter]
            congr 1
            funext g
            by_cases hb : g.born = e.born <;> simp [hb]
          rw [this]
          have hsp : fs = fs.take c ++ e :: fs.drop (c + 1) := by
            have : fs[c] = e := by rw [List.getElem?_eq_getElem hc] at he; simpa using he
            rw [← this, ← List.drop_eq_getElem_cons hc, List.take_append_drop]
          have hpre : ∀ g, g ∈ fs.take c → ¬ (g.born == e.born) = true := by
            intro g hg hb
            obtain ⟨i, hi⟩ := List.getElem?_of_mem hg
            have hil : i < c := by have := (List.getElem?_eq_some_iff.1 hi).1; simp at this; omega
            rw [List.getElem?_take_of_lt hil] at hi
            have := inj g (List.mem_of_getElem? hi) (by simpa using hb)
            subst this
            have := nodup i c g hi he
            omega
          have hpost : ∀ g, g ∈ fs.drop (c + 1) → ¬ (g.born == e.born) = true := by
            intro g hg hb
            obtain ⟨i, hi⟩ := List.getElem?_of_mem hg
            rw [List.getElem?_drop] at hi
            have := inj g (List.mem_of_getElem? hi) (by simpa using hb)
            subst this
            have := nodup (c + 1 + i) c g hi he
            omega
          conv => lhs; rw [hsp]
          rw [List.filter_append, List.filter_cons]
          simp only [beq_self_eq_true, Bool.not_true, Bool.false_eq_true, if_false]
          rw [List.filter_eq_self.2 (fun g hg => by simpa using hpre g hg), List.filter_eq_self.2 (fun g hg => by simpa using hpost g hg)]
        refine ⟨es, clock, h1, h2, h3, h4, .inr rfl, ⟨_, rfl, ?_, fun i y hy => ?_⟩, rfl, e, hmem', by simp, q2, q3⟩
        · rw [hfs']; simp; omega
        · rw [hfs']
          by_cases hi : i < c
          · have hlt : i < (left.take c).length := by simp; omega
            rw [List.getElem?_append_left hlt, List.getElem?_take_of_lt hi] at hy
            rw [List.getElem?_append_left (by simp; omega), List.getElem?_take_of_lt hi]
            exact h8 i y hy
          · rw [List.getElem?_append_right (by simp; omega), List.getElem?_drop] at hy
            rw [List.getElem?_append_right (by simp; omega), List.getElem?_drop]
            simp only [List.length_take] at hy ⊢
            rw [show min c fs.length = c by omega]
            rw [show min c left.length = c by omega] at hy
            exact h8 _ y hy)
      refine rest ⟨(d', .tup [.dat .bool true, .dat kt x.1, .dat vt x.2]) :: σ.sl, (ob, some (.iter kt vt (left.take c ++ left.drop (c + 1)) (some x))) :: σ.ob⟩ _ _ ⟨⟨[_], rfl⟩, ⟨[_], rfl⟩⟩ (hnext _ x _ hsplit) ⟨(szPut _).2, (szPut _).1, ρ, by rw [← obj_wr1] at hS2; exact hS2, slotsPut ρ _ _ (Env.le.refl _ _) ?_, hPin⟩
      simp only [SV.den, SV.denL]
      exact ⟨_, rfl, _, _, rfl, rv_bool _, _, _, rfl, q2, _, _, rfl, q3, rfl⟩
  · exact k2.elim

/-! ### A region as such; a test for nil -/

/-! ### A region in each of its orders -/

theorem countP_one {p q : Nat → Bool} {i : Nat} (hp : p i = true) (hq : q i = false) (h : ∀ y, y ≠ i → p y = q y) : ∀ n, (List.range n).countP p = (List.range n).countP q + (if i < n then 1 else 0)
  | 0 => rfl
  | n + 1 => by
    have ih := countP_one hp hq h n
    rw [List.range_succ, List.countP_append, List.countP_append, List.countP_singleton, List.countP_singleton, ih]
    by_cases e : n = i
    · subst e
      rw [hp, hq]
      simp
    · rw [h n e]
      by_cases hl : i < n
      · have : i < n + 1 := by omega
        simp only [hl, this, if_true]; omega
      · have : ¬ i < n + 1 := by omega
        simp only [hl, this, if_false]; omega

theorem isNext_true {done : List Nat} : ∀ (l : List Edge), (∀ e, e ∈ l → Region.binds .any e = true → memb done e.on = true) → isNext done l = true
  | [], _ => rfl
  | e :: r, h => by
    have ih := isNext_true r (fun e he hb => h e (by simp [he]) hb)
    simp only [isNext]
    split
    · exact ih
    · rename_i hb
      rw [h e (by simp) hb]
      exact ih

theorem each_spec {C : Ctx} {ops : List Oper} {done : List Nat} {rs : RS} {rec : List Nat → RS → Prop} : ∀ (l : List Oper) (n : Nat), eachNext C ops done rs rec l n → ∀ j o, l[j]? = some o → memb done (n + j) = false → isNext done o.after.toList = true → stepVC C ops o rs (rec ((n + j) :: done))
  | [], _, _, j, o, hj, _, _ => by simp at hj
  | x :: l, n, h, j, o, hj, hd, hn => by
    simp only [eachNext] at h
    cases j with
    | zero =>
      simp at hj; subst hj
      rw [Nat.add_zero] at hd ⊢
      rw [hd, hn] at h
      exact h.1
    | succ j =>
      have hj' : l[j]? = some o := by simpa using hj
      have h' : eachNext C ops done rs rec l (n + 1) := by
        split at h
        · exact h
        · split at h
          · exact h
          · exact h.2
      rw [show n + (j + 1) = (n + 1) + j from by omega] at hd ⊢
      exact each_spec l (n + 1) h' j o hj' hd hn

/-- the entry of a map is laid -/
theorem entry_sound (hC : C.ok P) {ops : Array Oper} {o : Oper} {rs : RS} {a : Act} {w : World} {x : EntryOf} (h : entryOf C ops.toList o rs = some x) (hI : Inv P B C.n ops rs a w) {K : Act → World → Prop} {Q : Exit → Act → World → Prop}
    (hK : ∀ (s : Int) a' w', Inv P B C.n ops (addEff (entryEff x s) rs) a' w' → K a' w') : if Region.wanted o (yielded ops a.tmps) then o.wp P a w K Q else K (a.put o.dst undef) w := by
  unfold entryOf at h
  split at h
  case h_2 => cases h
  rename_i U m ix d hop hgd hdst
  split at h
  case h_2 => cases h
  rename_i ti tk te ob hmp hm
  split at h
  case h_2 => cases h
  rename_i kt vt l ho
  split at h
  case h_2 => cases h
  rename_i l' k hc hk hfr hokd
  simp at h; subst h
  obtain ⟨e, rfl⟩ := cast?_some hc
  obtain ⟨e1, e2⟩ : kt = tk.ty ∧ vt = te.ty := by injection e with a b; exact ⟨a, b⟩
  subst e1
  subst e2
  have hcast : castD e l = l := rfl
  have hw : Region.wanted o (yielded ops a.tmps) = true := by simp [Region.wanted, hgd]
  rw [if_pos hw]
  obtain ⟨hd, hn, ρ, hS, hSl, hG, hPin⟩ := hI
  have hmv := den_opnd (P := P) (a := a) hSl m
  rw [hm] at hmv
  simp only [SV.den] at hmv
  have hkr := toDat_sound hS (fz := []) (fun o => ⟨.inl rfl, fun ho => by simp at ho⟩) hk (fun o ho => ho) (den_opnd (P := P) (a := a) hSl ix)
  obtain ⟨p, hp, hs⟩ := hS.obs ob _ ho
  simp only [ObSat, fzM] at hs
  obtain ⟨b, Cp, es, clock, rfl, k1, k2, k3⟩ := hs
  obtain ⟨b', C', f1, f2⟩ := hmv _ hp
  simp at f1
  obtain ⟨rfl, rfl⟩ := f1
  have hblt : b < w.heap.size := (Array.getElem?_eq_some_iff.1 k1).1
  obtain ⟨v, s, es', clock', r1, r2, r3, r4⟩ := run_entry (P := P) hC hmp k1 k2 hkr
  have hrun : (execOp a.eval o).run P w = .ok (.value (.tuple #[v, .int .i64 s])) { w with heap := w.heap.setIfInBounds b (.map es' clock') } := by
    simp [execOp, hop, f2, r1]
  unfold Oper.wp
  rw [hrun]
  simp only [Oper.upon]
  rw [hcast] at hK
  refine hK s _ _ (inv_put (C := C) (gv := .any) (sv := .tup [.dat te.ty (mvalD te.ty.dflt (mfind tk.ty k l)), .dat .int s]) (ρ'' := ρ) hd hn hSl hG hPin ?_ (Env.le.refl _ _) ?_ (fun d' hd' => ?_) ?_ (fun d' _ => ?_) (fun x hx => by simp [entryEff] at hx) (fun d g _ hg => by rw [hgd] at hg; cases hg))
  · have := set_obj hS hp k3 (.mape tk.ty te.ty l k s) (w' := { w with heap := w.heap.setIfInBounds b (.map es' clock') }) ⟨rfl, rfl, rfl, Nat.le_refl _, by simp, fun j hj => (by show (w.heap.setIfInBounds b _)[j]? = _; rw [Array.getElem?_setIfInBounds, if_neg (fun h => hj h.symm)])⟩ (by
      simp only [ObSat]
      exact ⟨b, Cp, es', clock', rfl, by simp [hblt], r2, k3, r4⟩)
    rw [← obj_wr1] at this
    exact this
  · exact ⟨fun d' hd' => by rw [hdst] at hd'; simp at hd'; subst hd'; exact Nat.le_of_ble_eq_true hfr, fun d' hd' => (okDst_facts hokd hd').1, fun d' hd' => (okDst_facts hokd hd').2, fun d' hd' => by simp [entryEff] at hd',
      fun hor => by rcases hor with hor | hor <;> simp [entryEff, isCallV, hop] at hor⟩
  · rw [hdst] at hd'; simp at hd'; subst hd'; exact Nat.le_of_ble_eq_true hfr
  · simp [entryEff, slOf, hdst]
  · simp only [SV.den, SV.denL]
    exact ⟨_, rfl, _, _, rfl, r3, _, _, rfl, rv_int _, rfl⟩

theorem order_sound (hC : C.ok P) {ops : Array Oper} {σ0 : St} {ps : List (List Nat)} (hps : allPreds ops.toList [] = some ps) {K : RS → Prop} {Q : Exit → Act → World → Prop}
    (hQ : ∀ rs a w, Ext σ0 rs.st → K rs → Inv P B C.n ops rs a w → Q .normal a w) :
    ∀ (fuel : Nat) (done : List Nat) (listed : Array Bool) (rs : RS) (a : Act) (w : World), listed.size = ops.size → cnt ops.size listed = fuel → (∀ k, k ∈ done ↔ listed.getD k false = true) → Ext σ0 rs.st →
      orderVC C ops.toList K fuel done rs → Inv P B C.n ops rs a w → wpAny P .any ops Q fuel listed a w := by
  intro fuel
  induction fuel with
  | zero =>
    intro done listed rs a w hs hc hdn hE h hI
    refine ⟨?_, hQ rs a w hE h hI⟩
    rw [List.eq_nil_iff_forall_not_mem]
    intro i hi
    obtain ⟨o, h1, h2, _⟩ := (mem_ready hs).1 hi
    have hlt := (List.getElem?_eq_some_iff.1 h1).1
    have := List.countP_eq_zero.1 hc i (by simpa using hlt)
    simp [h2] at this
  | succ fuel ih =>
    intro done listed rs a w hs hc hdn hE h hI
    refine ⟨fun hr => ?_, fun i hi => ?_⟩
    · exfalso
      have : cnt ops.size listed = 0 := by
        refine List.countP_eq_zero.2 (fun k hk => ?_)
        have := all_listed hps hs hr (k + 1) k (by omega) (by simpa using hk)
        simp [this]
      omega
    obtain ⟨o, h1, h2, h3⟩ := (mem_ready hs).1 hi
    have hlt : i < ops.size := by have := (List.getElem?_eq_some_iff.1 h1).1; simpa using this
    have hnd : memb done i = false := by
      cases hb : memb done i with
      | false => rfl
      | true => have := (hdn i).1 ((memb_iff _ _).1 hb); rw [h2] at this; cases this
    have hstep := each_spec ops.toList 0 h i o h1 (by rw [Nat.zero_add]; exact hnd) (isNext_true _ (fun e he hb => (memb_iff _ _).2 ((hdn e.on).2 (h3 e he hb))))
    rw [Nat.zero_add] at hstep
    have hset : ∀ k, (listed.setIfInBounds i true).getD k false = if k = i then true else listed.getD k false := getD_set (by omega)
    have hcnt : cnt ops.size (listed.setIfInBounds i true) = fuel := by
      have := countP_one (p := fun k => !(listed.getD k false)) (q := fun k => !((listed.setIfInBounds i true).getD k false)) (i := i) (by simp [h2]) (by simp [hset]) (fun y hy => by simp only [hset, if_neg hy]) ops.size
      rw [if_pos hlt] at this
      unfold cnt at hc ⊢
      omega
    have hdn' : ∀ k, k ∈ i :: done ↔ (listed.setIfInBounds i true).getD k false = true := by
      intro k
      rw [hset, List.mem_cons]
      by_cases e : k = i
      · simp [e]
      · rw [if_neg e, ← hdn k]; simp [e]
    unfold wpOp
    have hoi : ops[i]? = some o := by simpa using h1
    rw [hoi]
    simp only
    have fin : (if Region.wanted o (yielded ops a.tmps) then o.wp P a w (wpAny P .any ops Q fuel (listed.setIfInBounds i true)) Q else wpAny P .any ops Q fuel (listed.setIfInBounds i true) (a.put o.dst undef) w) := by
      unfold stepVC at hstep
      split at hstep
      · split at hstep
        · rename_i x hx
          exact entry_sound hC hx hI (fun s a' w' hI' => ih (i :: done) _ _ a' w' (by simpa using hs) hcnt hdn' (hE.trans ⟨⟨_, rfl⟩, ⟨_, rfl⟩⟩) (hstep s) hI')
        · exact hstep.elim
      · split at hstep
        · exact hstep.elim
        rename_i e he
        split at hstep
        · exact hstep.elim
        rename_i hf
        obtain ⟨hvc, hk⟩ := vcSteps_any [e] hstep
        exact step_sound hC he (fits_facts hf) (Fit.refl P B rs e) hI (hvc e (by simp)) (fun a' w' hI' _ => ih (i :: done) _ _ a' w' (by simpa using hs) hcnt hdn' (hE.trans ⟨⟨_, rfl⟩, ⟨_, rfl⟩⟩) hk hI')
    split
    · rename_i hw; rw [if_pos hw] at fin; exact .inl fin
    · rename_i hw; rw [if_neg hw] at fin; exact fin

theorem ordVC_sound (hC : C.ok P) {ops : Array Oper} {draw : Bool} {σ : St} {K : Ex → St → Prop} {Q : Exit → Act → World → Prop} {a : Act} {w : World}
    (h : ordVC C ops.toList draw σ K) (hR : Rel P B C.n σ a w) (hQ : ∀ σ' a' w', Ext σ σ' → K .normal σ' → Rel P B C.n σ' a' w' → Q .normal a' w') : regQ P ops draw Q a w := by
  unfold ordVC at h
  split at h
  case h_2 => exact h.elim
  rename_i ps _ hps
  show wpAny P .any ops Q ops.size (Array.replicate ops.size false) a { w with drawn := w.drawn + 1 }
  obtain ⟨h1, h2, ρ, h3, h4, h5⟩ := hR
  refine order_sound hC (σ0 := σ) hps (fun rs a' w' hE hk hI => ?_) ops.size [] _ ⟨σ, []⟩ a _ (by simp) ?_ (fun k => ?_) (Ext.refl σ) (by simpa using h) ⟨h1, h2, ρ, sat_drawn h3, h4, (fun s g v hm => by simp at hm), h5⟩
  · obtain ⟨i1, i2, ρ', i3, i4, _, i5⟩ := hI
    exact hQ _ a' w' (hE.trans ((ext_gc _ _).trans (ext_renames _ _))) hk (rel_renames _ (rel_gc ⟨i1, i2, ρ', i3, i4, i5⟩))
  · unfold cnt
    rw [List.countP_eq_length.2 (fun k hk => ?_)]
    · simp
    · simp only [Array.getD_eq_getD_getElem?, Array.getElem?_replicate]
      split <;> simp
  · simp only [Array.getD_eq_getD_getElem?, Array.getElem?_replicate]
    split <;> simp

theorem regionVC_sound (hC : C.ok P) {ops : Array Oper} {draw : Bool} {σ : St} {K : Ex → St → Prop} {Q : Exit → Act → World → Prop} {a : Act} {w : World}
    (h : regionVC C ops.toList draw σ K) (hR : Rel P B C.n σ a w) (hQ : ∀ σ' a' w', Ext σ σ' → K .normal σ' → Rel P B C.n σ' a' w' → Q .normal a' w') : regQ P ops draw Q a w := by
  unfold regionVC at h
  split at h
  · exact ordVC_sound hC h hR hQ
  rename_i es rs hr
  refine region_sound hC hr h hR (fun hk a' w' hR' => ?_)
  have e1 := ext_region hr
  exact hQ _ a' w' (e1.trans ((ext_gc _ _).trans (ext_renames _ _))) hk (rel_renames _ (rel_gc hR'))

theorem runOps_app (hC : C.ok P) {ops : Array Oper} {Q : Exit → Act → World → Prop} {k : Prop} (r : List Oper) : ∀ (l : List Oper) (rs rs' : RS) (es : List Eff) (a : Act) (w : World), runOps C ops.toList l rs = some (es, rs') → vcSteps false es k → Inv P B C.n ops rs a w →
    (k → ∀ a' w', Inv P B C.n ops rs' a' w' → wpList P ops Q r a' w') → wpList P ops Q (l ++ r) a w
  | [], rs, rs', es, a, w, h, hk, hI, hQ => by
    simp [runOps] at h
    obtain ⟨rfl, rfl⟩ := h
    exact hQ hk a w hI
  | o :: l, rs, rs', es, a, w, h, hk, hI, hQ => by
    simp only [runOps] at h
    split at h
    · cases h
    rename_i e he
    split at h
    · cases h
    rename_i hf
    split at h
    · cases h
    rename_i es' rs2 hr
    simp at h
    obtain ⟨rfl, rfl⟩ := h
    obtain ⟨h1, h2⟩ := vcSteps_one hk
    have := step_sound (K := wpList P ops Q (l ++ r)) (Q := Q) hC he (fits_facts hf) (Fit.refl P B rs e) hI h1 (fun a' w' hI' hfact => runOps_app hC r l _ _ _ a' w' hr (h2 hfact) hI' hQ)
    rw [List.cons_append]
    unfold wpList
    split
    · rename_i hw; rw [if_pos hw] at this; exact .inl this
    · rename_i hw; rw [if_neg hw] at this; exact this

theorem nilOp_spec : ∀ (l : List Oper) {i : List Oper} {U t d : Nat}, nilOp l = some (i, U, t, d) → ∃ o v ft, l = i ++ [o] ∧ o.op = .binOp .eql U (.tmp t) (.const v) ft ∧ o.dst = some d ∧ o.guard = none ∧ isNilSlice v = true
  | [], _, _, _, _, h => by simp [nilOp] at h
  | [o], i, U, t, d, h => by
    simp only [nilOp] at h
    split at h
    · rename_i e1 e2 e3
      split at h
      · rename_i hv
        simp at h
        obtain ⟨rfl, rfl, rfl, rfl⟩ := h
        exact ⟨o, _, _, rfl, e1, e2, e3, hv⟩
      · cases h
    · cases h
  | o :: o' :: r, i, U, t, d, h => by
    simp only [nilOp] at h
    split at h
    · rename_i i' U' t' d' h'
      simp at h
      obtain ⟨rfl, rfl, rfl, rfl⟩ := h
      obtain ⟨o1, v, ft, e, q⟩ := nilOp_spec (o' :: r) (by simpa only [nilOp] using h')
      exact ⟨o1, v, ft, by rw [e]; rfl, q⟩
    · cases h

theorem nil_sound (hC : C.ok P) {ops : Array Oper} {i : List Oper} {U t d : Nat} {σ : St} {K : Ex → St → Prop} {Q : Exit → Act → World → Prop} {a : Act} {w : World}
    (hop : nilOp ops.toList = some (i, U, t, d)) (h : nilVC C ops.toList i U t d σ K) (hR : Rel P B C.n σ a w)
    (hQ : ∀ σ' a' w', Ext σ σ' → K .normal σ' → Rel P B C.n σ' a' w' → Q .normal a' w') : regQ P ops false Q a w := by
  unfold nilVC at h
  split at h
  · exact h.elim
  rename_i ss rs hr
  split at h
  case h_2 => exact regionVC_sound hC h hR hQ
  rename_i u l hget
  split at h
  case h_2 => exact h.elim
  rename_i tt hsl hfr
  obtain ⟨ti, te⟩ := tt
  have hfr : d < C.n := Nat.le_of_ble_eq_true hfr
  obtain ⟨o, v, ft, e0, e1, e2, e3, hv⟩ := nilOp_spec _ hop
  obtain ⟨_, _, _, _, hund, _⟩ := slice_info hC hsl
  show wpList P ops Q ops.toList a w
  rw [e0]
  have hI : Inv P B C.n ops ⟨σ, []⟩ a w := by
    obtain ⟨h1, h2, ρ, h3, h4, h5⟩ := hR
    exact ⟨h1, h2, ρ, h3, h4, (fun s g v hm => by simp at hm), h5⟩
  refine runOps_app hC [o] i _ _ _ a w hr h hI (fun hk a1 w1 hI1 => ?_)
  obtain ⟨h1, h2, ρ, h3, h4, _, h5⟩ := hI1
  have hw : Region.wanted o (yielded ops a1.tmps) = true := by simp [Region.wanted, e3]
  unfold wpList
  rw [if_pos hw]
  refine .inl ?_
  have hden := den_opnd (P := P) (ρ := ρ) h4 (.tmp t)
  simp only [opnd] at hden
  rw [hget] at hden
  have hrv := rv_scalar (t := .slice u) rfl (by simpa [SV.den] using hden)
  obtain ⟨ad, n, c, g1, g2, g3, g4, g6, g5⟩ := hrv
  simp at g1
  have hnil : ad.isNone = true → l = [] := by
    intro hn
    refine Classical.byContradiction fun hne => ?_
    obtain ⟨b, off, blk, rfl, _⟩ := g5 hne
    cases hn
  have hrun : (execOp a1.eval o).run P w1 = .ok (.value (.bool ad.isNone)) w1 := by
    have he := run_equal_nil (w := w1) (ad := ad) (n := n) (c := c) hund
    have ev : a1.eval (.const v) = .slice none 0 0 := nilSlice hv
    simp only [execOp, e1]
    rw [g1, ev]
    simp [eqGuard, binOp, he]
  unfold Oper.wp
  rw [hrun]
  simp only [Oper.upon]
  have hE : Ext σ rs.st := ext_runOps _ _ _ _ hr
  have hE2 : Ext rs.st (⟨(d, .dat .bool ad.isNone) :: rs.st.sl, rs.st.ob⟩ : St) := ⟨⟨[_], rfl⟩, ⟨[], rfl⟩⟩
  refine hQ _ _ _ ((hE.trans hE2).trans ((ext_gc _ _).trans (ext_renames _ _))) (hk ad.isNone hnil) (rel_renames _ (rel_gc ⟨?_, ?_, ρ, h3, ?_, h5⟩))
  · rw [e2]; simp only [Act.put]; exact h1
  · rw [e2]; simp only [Act.put]; simpa using h2
  · intro s x hx
    rw [e2]
    simp only [Act.put]
    by_cases hs : s = d
    · subst hs
      rw [look_cons_eq] at hx
      simp at hx; subst hx
      simp only [Array.getD_eq_getD_getElem?, Array.getElem?_setIfInBounds]
      simp only [if_true]
      rw [if_pos (by rw [h2]; exact hfr)]
      exact rv_bool _
    · rw [look_cons_ne (fun h => hs h.symm)] at hx
      simp only [Array.getD_eq_getD_getElem?, Array.getElem?_setIfInBounds]
      rw [if_neg (fun h => hs h.symm)]
      have := h4 s x hx
      simpa only [Array.getD_eq_getD_getElem?] using this

/-! ### Loops -/

def optLt : Option Nat → Option Nat → Prop
  | some m, some n => m < n
  | some _, none => True
  | none, _ => False

theorem optLt_wf : WellFounded optLt := by
  have h1 : ∀ n, Acc optLt (some n) := by
    intro n
    induction n using Nat.strongRecOn with
    | _ n ih =>
      refine ⟨_, fun y hy => ?_⟩
      cases y with
      | none => exact hy.elim
      | some m => exact ih m hy
  refine ⟨fun x => ?_⟩
  cases x with
  | some n => exact h1 n
  | none =>
    refine ⟨_, fun y hy => ?_⟩
    cases y with
    | none => exact hy.elim
    | some m => exact h1 m

theorem wp_loop_wf {α : Type} (r : α → α → Prop) (hwf : WellFounded r) {Q : Exit → Act → World → Prop} {c : Code} {a : Act} {w : World} (I : α → Act → World → Prop) (x₀ : α) (h₀ : I x₀ a w)
    (round : ∀ x a w, I x a w → c.wp P (Exit.then (fun a' w' => ∃ x', r x' x ∧ I x' a' w') Q) a w) : (Code.loop c).wp P Q a w := by
  intro b k cs
  have key : ∀ x a w, I x a w → ∃ e a' w', Q e a' w' ∧ Arrives P (lone (b.at a (.code c :: .inLoop c :: k)) cs w) b k cs e a' w' := by
    intro x
    induction x using hwf.induction with
    | _ x ih =>
      intro a w hI
      obtain ⟨e, a₁, w₁, hq, harr⟩ := round x a w hI b (.inLoop c :: k) cs
      cases e with
      | normal =>
        obtain ⟨x', hlt, hI₁⟩ := hq
        obtain ⟨e₂, a₂, w₂, hq₂, harr₂⟩ := ih x' hlt a₁ w₁ hI₁
        exact ⟨e₂, a₂, w₂, hq₂, .of_steps (Steps.trans harr (.one step_inLoop)) harr₂⟩
      | exit id => exact ⟨_, a₁, w₁, hq, .pass (x := .inLoop c) rfl (fun _ _ => .inl (by simp)) harr⟩
      | goto l => exact ⟨_, a₁, w₁, hq, .pass (x := .inLoop c) rfl (fun _ _ => .inl (by simp)) harr⟩
      | ret => exact ⟨_, a₁, w₁, hq, .pass (x := .inLoop c) rfl (fun _ _ => .inl (by simp)) harr⟩
      | panic ch => exact ⟨_, a₁, w₁, hq, .pass (x := .inLoop c) rfl (fun _ _ => .inl (by simp)) harr⟩
      | outgrown => exact ⟨_, a₁, w₁, hq, .pass (x := .inLoop c) rfl (fun _ _ => .inl (by simp)) harr⟩
  obtain ⟨e, a', w', hq, harr⟩ := key x₀ a w h₀
  exact ⟨e, a', w', hq, .of_steps (.one step_loop) harr⟩

/-- a round's beginning -/
def LoopAt (P : Program) (B : Base) (C : Ctx) (A : Ann) (x : Code) (K : Ex → St → Prop) (σ : St) (n : Nat) (a : Act) (w : World) : Prop :=
  ∃ L, A (firstR x) = some L ∧ (∀ y : (L σ).X, (L σ).inv y → vcg C A x (headSt (L σ) (wrCode x) σ y) (fun e σ' => match e with
      | .normal => ∃ x' : (L σ).X, sub σ' (headSt (L σ) (wrCode x) σ x') (union (keys ((L σ).sl x')) (union (keys ((L σ).sl y)) (keysTo σ'.sl (headSt (L σ) (wrCode x) σ y).sl.length)))
            (union (keys ((L σ).ob x')) (union (keys ((L σ).ob y)) (keysTo σ'.ob (headSt (L σ) (wrCode x) σ y).ob.length))) ∧ (L σ).inv x' ∧ (L σ).mu x' < (L σ).mu y
      | e => K e σ')) ∧
    ∃ y, (L σ).inv y ∧ (L σ).mu y = n ∧ Rel P B C.n (headSt (L σ) (wrCode x) σ y) a w

theorem loopAt_start {A : Ann} {x : Code} {K : Ex → St → Prop} {a : Act} {σ : St} {w : World} (h : loopVC A x (vcg C A x) σ K) (hR : Rel P B C.n σ a w) : ∃ n, LoopAt P B C A x K σ n a w := by
  unfold loopVC at h
  split at h
  · exact h.elim
  rename_i L hL
  obtain ⟨⟨x0, hs0, hi0⟩, hround⟩ := h
  exact ⟨_, L, hL, hround, x0, hi0, rfl, rel_sub hs0 (fun s hs => head_get (L σ) (wrCode x) σ x0 s hs) (fun o ho => head_obj (L σ) (wrCode x) σ x0 o ho) hR⟩

theorem loopAt_round {A : Ann} {x : Code} {K : Ex → St → Prop} {Q : Exit → Act → World → Prop} {n : Nat} {a : Act} {σ : St} {w : World} {J : Act → World → Prop}
    (hrun : ∀ (σ : St) (K : Ex → St → Prop) (Q : Exit → Act → World → Prop) (a : Act) (w : World), vcg C A x σ K → Rel P B C.n σ a w → (∀ e σ' a' w', Ext σ σ' → K e σ' → Rel P B C.n σ' a' w' → Q (toExit e) a' w') → x.wp P Q a w)
    (hI : LoopAt P B C A x K σ n a w) (hQ : ∀ e σ' a' w', Ext σ σ' → K e σ' → Rel P B C.n σ' a' w' → Q (toExit e) a' w')
    (hJ : ∀ n', n' < n → ∀ a' w', LoopAt P B C A x K σ n' a' w' → J a' w') : x.wp P (Exit.then J Q) a w := by
  obtain ⟨L, hL, hround, y, hiy, rfl, hR1⟩ := hI
  generalize hws : wrCode x = ws at hround hR1
  refine hrun _ _ _ a w (hround y hiy) hR1 (fun e σ' a' w' hE hK hR' => ?_)
  have hE0 : Ext σ (headSt (L σ) ws σ y) := ⟨⟨(L σ).sl y ++ ws.map (fun s => (s, SV.any)), by simp [headSt]⟩, ⟨(L σ).ob y ++ ws.map (fun s => (s, none)), by simp [headSt]⟩⟩
  cases e with
  | ret => exact hQ .ret σ' a' w' (hE0.trans hE) hK hR'
  | exit id => exact hQ (.exit id) σ' a' w' (hE0.trans hE) hK hR'
  | normal =>
    obtain ⟨y', hs', hi', hmu⟩ := hK
    have hrel : Rel P B C.n (headSt (L σ) ws σ y') a' w' := by
      refine rel_sub hs' (fun s hs => ?_) (fun o ho => ?_) hR'
      · simp only [mem_union, not_or] at hs
        obtain ⟨k1, k2, k3⟩ := hs
        refine .inr ?_
        obtain ⟨p, hp⟩ := hE.sl
        have hnp : s ∉ keys p := fun hk => k3 (by rw [hp]; exact keysTo_app p _ s hk)
        have e1 : look σ'.sl s = look (ws.map (fun s => (s, SV.any)) ++ σ.sl) s := by
          rw [hp, look_append, look_none_keys _ _ hnp]
          exact head_look (L σ) ws σ y s k2
        unfold St.get
        rw [e1, head_look (L σ) ws σ y' s k1]
      · simp only [mem_union, not_or] at ho
        obtain ⟨k1, k2, k3⟩ := ho
        refine .inr ?_
        obtain ⟨p, hp⟩ := hE.ob
        have hnp : o ∉ keys p := fun hk => k3 (by rw [hp]; exact keysTo_app p _ o hk)
        have e1 : look σ'.ob o = look (ws.map (fun s => (s, (none : Option Ob))) ++ σ.ob) o := by
          rw [hp, look_append, look_none_keys _ _ hnp]
          exact head_lookO (L σ) ws σ y o k2
        simp only [St.obj]
        rw [e1, head_lookO (L σ) ws σ y' o k1]
    exact hJ _ hmu a' w' ⟨L, hL, by rw [hws]; exact hround, y', hi', rfl, by rw [hws]; exact hrel⟩

theorem vreg_sound (hC : C.ok P) {A : Ann} {id : Nat} {ops : Array Oper} {draw : Bool} {σ : St} {K : Ex → St → Prop} {Q : Exit → Act → World → Prop} {a : Act} {w : World}
    (h : vcg C A (.region id ops draw) σ K) (hR : Rel P B C.n σ a w) (hQ : ∀ σ' a' w', Ext σ σ' → K .normal σ' → Rel P B C.n σ' a' w' → Q .normal a' w') : regQ P ops draw Q a w := by
  simp only [vcg] at h
  split at h
  · rename_i d it r hop
    exact next_sound hC hop h hR hQ
  · split at h
    · rename_i i U t d hop _
      exact nil_sound hC hop h hR hQ
    · exact regionVC_sound hC h hR hQ

theorem vcg_sound (hC : C.ok P) (hm : P.follows .mixedOrders = true) (A : Ann) : ∀ (c : Code) (σ : St) (K : Ex → St → Prop) (Q : Exit → Act → World → Prop) (a : Act) (w : World), vcg C A c σ K → Rel P B C.n σ a w →
    (∀ e σ' a' w', Ext σ σ' → K e σ' → Rel P B C.n σ' a' w' → Q (toExit e) a' w') → c.wp P Q a w
  | .skip, σ, K, Q, a, w, h, hR, hQ => wp_skip (hQ .normal σ a w (Ext.refl _) h hR)
  | .region id ops draw, σ, K, Q, a, w, h, hR, hQ => regQ_wp hm (vreg_sound hC h hR (fun σ' a' w' hE hK hR' => hQ .normal σ' a' w' hE hK hR'))
  | .seq x y, σ, K, Q, a, w, h, hR, hQ => by
    simp only [vcg] at h
    refine wp_seq (vcg_sound hC hm A x σ _ _ a w h hR (fun e σ' a' w' hE hK hR' => ?_))
    cases e with
    | normal => exact vcg_sound hC hm A y σ' K Q a' w' hK hR' (fun e2 σ2 a2 w2 hE2 => hQ e2 σ2 a2 w2 (hE.trans hE2))
    | ret => exact hQ .ret σ' a' w' hE hK hR'
    | exit id => exact hQ (.exit id) σ' a' w' hE hK hR'
  | .cond c x y, σ, K, Q, a, w, h, hR, hQ => by
    simp only [vcg] at h
    split at h
    case h_2 => exact h.elim
    rename_i β hc
    have hv : a.eval c = .bool β := by
      obtain ⟨_, _, ρ, _, hSl, _⟩ := hR
      have := den_opnd (P := P) (ρ := ρ) hSl c
      rw [hc] at this
      exact bool_of_rv (by simpa only [SV.den] using this)
    refine wp_cond_split hv (fun hb => vcg_sound hC hm A x σ K Q a w (h.1 hb) hR hQ) (fun hb => vcg_sound hC hm A y σ K Q a w (h.2 hb) hR hQ)
  | .block id x, σ, K, Q, a, w, h, hR, hQ => by
    simp only [vcg] at h
    refine wp_block (vcg_sound hC hm A x σ _ _ a w h hR (fun e σ' a' w' hE hK hR' => ?_))
    cases e with
    | normal => exact hQ .normal σ' a' w' hE hK hR'
    | ret => exact hQ .ret σ' a' w' hE hK hR'
    | exit id' =>
      simp only [toExit, Exit.inBlock]
      simp only at hK
      split at hK
      · rename_i hb
        have := Nat.eq_of_beq_eq_true hb
        subst this
        rw [if_pos rfl]
        exact hQ .normal σ' a' w' hE hK hR'
      · rename_i hb
        rw [if_neg (fun e => beq_of_refs hb e.symm)]
        exact hQ (.exit id') σ' a' w' hE hK hR'
  | .loop x, σ, K, Q, a, w, h, hR, hQ => by
    simp only [vcg] at h
    have hrun := fun (σ : St) (K : Ex → St → Prop) (Q : Exit → Act → World → Prop) (a : Act) (w : World) => vcg_sound hC hm A x σ K Q a w
    split at h
    · obtain ⟨n0, h0⟩ := loopAt_start h hR
      refine wp_loop_wf optLt optLt_wf (fun n a' w' => ∃ m, n = some m ∧ LoopAt P B C A x K σ m a' w') (some n0) ⟨_, rfl, h0⟩ ?_
      rintro n a1 w1 ⟨m, rfl, hI⟩
      exact loopAt_round hrun hI (fun e σ' a' w' hE hK hR' => hQ e σ' a' w' hE hK hR') (fun m' hlt a' w' h' => ⟨some m', hlt, m', rfl, h'⟩)
    · refine wp_loop_wf optLt optLt_wf (fun n a' w' => (n = none ∧ a' = a ∧ w' = w) ∨ ∃ m σ1, n = some m ∧ Ext σ σ1 ∧ LoopAt P B C A x K σ1 m a' w') none (.inl ⟨rfl, rfl, rfl⟩) ?_
      rintro n a1 w1 (⟨rfl, rfl, rfl⟩ | ⟨m, σ1, rfl, hE1, hI⟩)
      · refine vcg_sound hC hm A x σ _ _ a1 w1 h hR (fun e σ' a' w' hE hK hR' => ?_)
        cases e with
        | ret => exact hQ .ret σ' a' w' hE hK hR'
        | exit id => exact hQ (.exit id) σ' a' w' hE hK hR'
        | normal =>
          obtain ⟨n0, h0⟩ := loopAt_start hK hR'
          exact ⟨some n0, trivial, .inr ⟨_, σ', rfl, hE, h0⟩⟩
      · exact loopAt_round hrun hI (fun e σ' a' w' hE hK hR' => hQ e σ' a' w' (hE1.trans hE) hK hR') (fun m' hlt a' w' h' => ⟨some m', hlt, .inr ⟨m', σ1, rfl, hE1, h'⟩⟩)
  | .exit id, σ, K, Q, a, w, h, hR, hQ => wp_exit (hQ (.exit id) σ a w (Ext.refl _) h hR)
  | .ret, σ, K, Q, a, w, h, hR, hQ => wp_ret (hQ .ret σ a w (Ext.refl _) h hR)
  | .rangeFunc .., _, _, _, _, _, h, _, _ => h.elim
  | .scope _, _, _, _, _, _, h, _, _ => h.elim
  | .label _, _, _, _, _, _, h, _, _ => h.elim
  | .goto _, _, _, _, _, _, h, _, _ => h.elim
  | .refuse _, _, _, _, _, _, h, _, _ => h.elim

end
end Go.X
/-
  A function: what is asked of its body is enough for what is said of its calls.
-/
namespace Go.X
open Go.RowKit (Below)

section
variable {P : Program} {C : Ctx}

theorem enters_of {f : Nat} {fn : Func} {c : Code} (hf : P.funcs[f]? = some fn) (hb : fn.body = some c) (hn : (fn.name == "runtime.NumGoroutine") = false) : enters P f := by
  intro args w
  have hn' : fn.name ≠ "runtime.NumGoroutine" := by simpa using hn
  simp [callFunc, hf, hn', hb]

theorem initSl_ge : ∀ (ps : List Par) (d : PD ps) (i s : Nat) (v : SV), look (initSl ps d i) s = some v → i ≤ s ∧ s < i + ps.length
  | [], _, _, _, _, h => by simp [initSl, look] at h
  | .val t :: ps, d, i, s, v, h => by
    simp only [initSl, look] at h
    cases hb : Nat.beq i s with
    | true => have := Nat.eq_of_beq_eq_true hb; subst this; simp
    | false => rw [hb] at h; have := initSl_ge ps d.2 (i + 1) s v h; simp; omega
  | .ref t :: ps, d, i, s, v, h => by
    simp only [initSl, look] at h
    cases hb : Nat.beq i s with
    | true => have := Nat.eq_of_beq_eq_true hb; subst this; simp
    | false => rw [hb] at h; have := initSl_ge ps d.2 (i + 1) s v h; simp; omega
  | .fn as rs :: ps, d, i, s, v, h => by
    simp only [initSl, look] at h
    cases hb : Nat.beq i s with
    | true => have := Nat.eq_of_beq_eq_true hb; subst this; simp
    | false => rw [hb] at h; have := initSl_ge ps d.2 (i + 1) s v h; simp; omega
  | .rfn as rs :: ps, d, i, s, v, h => by
    simp only [initSl, look] at h
    cases hb : Nat.beq i s with
    | true => have := Nat.eq_of_beq_eq_true hb; subst this; simp
    | false => rw [hb] at h; have := initSl_ge ps d.2 (i + 1) s v h; simp; omega

theorem initSl_den {ρ : Env} : ∀ (ps : List Par) (vs : List Value) (d : PD ps) (i : Nat), pvs P ρ.H ps vs d → ∀ s v, look (initSl ps d i) s = some v → ∃ x, vs[s - i]? = some x ∧ SV.den P ρ v x
  | [], _, _, _, _, _, _, h => by simp [initSl, look] at h
  | p :: ps, [], d, i, hp, _, _, _ => hp.elim
  | .val t :: ps, x :: vs, d, i, hp, s, v, h => by
    simp only [initSl, look] at h
    cases hb : Nat.beq i s with
    | true =>
      have := Nat.eq_of_beq_eq_true hb; subst this
      rw [hb] at h; simp at h; subst h
      exact ⟨x, by simp, by simp only [SV.den]; exact hp.1⟩
    | false =>
      rw [hb] at h
      have hge := (initSl_ge ps d.2 (i + 1) s v h).1
      obtain ⟨y, h1, h2⟩ := initSl_den ps vs d.2 (i + 1) hp.2 s v h
      exact ⟨y, by rw [show s - i = (s - (i + 1)) + 1 by omega]; simpa using h1, h2⟩
  | .ref t :: ps, x :: vs, d, i, hp, s, v, h => by
    simp only [initSl, look] at h
    cases hb : Nat.beq i s with
    | true =>
      have := Nat.eq_of_beq_eq_true hb; subst this
      rw [hb] at h; simp at h; subst h
      exact ⟨x, by simp, by simp only [SV.den]; exact hp.1⟩
    | false =>
      rw [hb] at h
      have hge := (initSl_ge ps d.2 (i + 1) s v h).1
      obtain ⟨y, h1, h2⟩ := initSl_den ps vs d.2 (i + 1) hp.2 s v h
      exact ⟨y, by rw [show s - i = (s - (i + 1)) + 1 by omega]; simpa using h1, h2⟩
  | .fn as rs :: ps, x :: vs, d, i, hp, s, v, h => by
    simp only [initSl, look] at h
    cases hb : Nat.beq i s with
    | true =>
      have := Nat.eq_of_beq_eq_true hb; subst this
      rw [hb] at h; simp at h; subst h
      exact ⟨x, by simp, by simp only [SV.den]; exact hp.1⟩
    | false =>
      rw [hb] at h
      have hge := (initSl_ge ps d.2 (i + 1) s v h).1
      obtain ⟨y, h1, h2⟩ := initSl_den ps vs d.2 (i + 1) hp.2 s v h
      exact ⟨y, by rw [show s - i = (s - (i + 1)) + 1 by omega]; simpa using h1, h2⟩
  | .rfn as rs :: ps, x :: vs, d, i, hp, s, v, h => by
    simp only [initSl, look] at h
    cases hb : Nat.beq i s with
    | true =>
      have := Nat.eq_of_beq_eq_true hb; subst this
      rw [hb] at h; simp at h; subst h
      exact ⟨x, by simp, by simp only [SV.den]; exact hp.1⟩
    | false =>
      rw [hb] at h
      have hge := (initSl_ge ps d.2 (i + 1) s v h).1
      obtain ⟨y, h1, h2⟩ := initSl_den ps vs d.2 (i + 1) hp.2 s v h
      exact ⟨y, by rw [show s - i = (s - (i + 1)) + 1 by omega]; simpa using h1, h2⟩

theorem pvs_length {H : Imm} : ∀ {ps : List Par} {vs : List Value} {d : PD ps}, pvs P H ps vs d → vs.length = ps.length
  | [], vs, _, h => by simp [pvs] at h; simp [h]
  | p :: ps, x :: vs, d, h => by simp [pvs_length h.2]
  | p :: ps, [], d, h => h.elim

/-- the objects that are frozen where the results are taken -/
def resFz (C : Ctx) (σ : St) : List Ty → List ResultVar → List Nat
  | t :: ts, v :: r => (match toDat σ t (resSVof C σ v) with | some (_, f) => f | none => []) ++ resFz C σ ts r
  | _, _ => []

/-- a result variable's value -/
def readsRV (P : Program) (w : World) (tmps : Array Value) : ResultVar → Value → Prop
  | .tmp t, v => v = tmps.getD t undef
  | .cell a t, v => ∃ ad, tmps.getD a undef = .pointer (some ad) ∧ (loadVar t ad).run P w = .ok v w

def readsAll (P : Program) (w : World) (tmps : Array Value) : List ResultVar → List Value → Prop
  | [], vs => vs = []
  | r :: rs, v :: vs => readsRV P w tmps r v ∧ readsAll P w tmps rs vs
  | _ :: _, [] => False

theorem resSV_reads {B : Base} {σ τ : St} {ρ : Env} {w : World} {a : Act} {fz : List Nat} (hC : C.ok P) (hS : Sat P B ρ τ.obj w) (hF : Frz σ τ fz) (hd : ∀ s, SV.den P ρ (σ.get s) (a.tmps.getD s undef)) (rv : ResultVar)
    (hne : resSVof C σ rv ≠ .any) : ∃ v, readsRV P w a.tmps rv v ∧ SV.den P ρ (resSVof C σ rv) v := by
  cases rv with
  | tmp s => exact ⟨_, rfl, hd s⟩
  | cell s T =>
    simp only [resSVof] at hne ⊢
    split at hne
    case h_2 => exact absurd rfl hne
    rename_i ti o hti ho
    split at hne
    case h_2 => exact absurd rfl hne
    rename_i T' f cs hob
    obtain ⟨rfl, hok⟩ := hC.ti _ _ hti
    have hτ : ∃ f', τ.obj o = some (.box T' f' cs) := by
      rcases (hF o).1 with h | h
      · exact ⟨f, by rw [h, hob]⟩
      · exact ⟨true, by rw [h, hob]; rfl⟩
    obtain ⟨f', hτ⟩ := hτ
    obtain ⟨p, hp, b, Cp, vs, rfl, hw, hdl, h1, _⟩ := hS.obs o _ hτ
    have hev := hd s
    rw [ho] at hev
    simp only [SV.den] at hev
    obtain ⟨b', C', e1, e2⟩ := hev _ hp
    simp at e1; obtain ⟨rfl, rfl⟩ := e1
    have hrun := run_loadVar_at (P := P) (off := 0) hok hw
    have hlen := denL_length _ _ hdl
    split at hne
    · rename_i ha hn
      have hn := Nat.eq_of_beq_eq_true hn
      have hsz : vs.size = ti.size := by rw [← Array.length_toList, ← hlen]; exact hn
      refine ⟨_, ⟨_, e2, hrun.1 ha (by omega)⟩, ?_⟩
      have htk : (vs.toList.drop 0).take ti.size = vs.toList := by rw [List.drop_zero, ← hsz]; exact List.take_of_length_le (by simp)
      rw [htk]
      simp only [SV.den]
      exact ⟨_, rfl, by simpa using hdl, fun u hu => h1 u (by simpa using hu)⟩
    · rename_i ha hn
      split at hne
      · rename_i v
        simp only [SV.denL] at hdl
        obtain ⟨u, r, e, hu, rfl⟩ := hdl
        refine ⟨u, ⟨_, e2, hrun.2 ha u (by rw [← Array.getElem?_toList, e]; rfl)⟩, ?_⟩
        exact hu
      · exact absurd rfl hne
    · exact absurd rfl hne

theorem toDat_any {σ : St} {t : Ty} : toDat σ t .any = none := by
  unfold toDat
  split
  · contradiction
  · contradiction
  · split
    · rfl
    · cases t <;> rfl

theorem resOf_sound {B : Base} {σ τ : St} {ρ : Env} {w : World} {a : Act} {fz : List Nat} (hC : C.ok P) (hS : Sat P B ρ τ.obj w) (hF : Frz σ τ fz) (hd : ∀ s, SV.den P ρ (σ.get s) (a.tmps.getD s undef)) :
    ∀ (rs : List Ty) (rv : List ResultVar) (r : (Ty.st rs).Data), resOf C σ rs rv = some r → (∀ o, o ∈ resFz C σ rs rv → o ∈ fz) →
      ∃ vs : List Value, readsAll P w a.tmps rv vs ∧ rvs ρ.H rs vs r
  | [], [], r, _, _ => ⟨[], rfl, rfl⟩
  | [], _ :: _, r, h, _ => by simp [resOf] at h
  | _ :: _, [], r, h, _ => by simp [resOf] at h
  | t :: ts, v :: rv, r, h, hf => by
    simp only [resOf] at h
    split at h
    case h_2 => cases h
    rename_i x fz' hx
    split at h
    case h_2 => cases h
    rename_i y hy
    simp at h
    subst h
    simp only [resFz] at hf
    rw [hx] at hf
    obtain ⟨vs, e, hr⟩ := resOf_sound hC hS hF hd ts rv y hy (fun o ho => hf o (List.mem_append_right _ ho))
    obtain ⟨u, h1, h2⟩ := resSV_reads hC hS hF hd v (fun e => by rw [e, toDat_any] at hx; cases hx)
    exact ⟨u :: vs, ⟨h1, e⟩, toDat_sound hS hF hx (fun o ho => hf o (List.mem_append_left _ ho)) h2, hr⟩

def oneRes : List Value → Value
  | [v] => v
  | vs => .tuple vs.toArray

theorem run_resultsC {fn : Func} {tmps : Array Value} {w : World} {vs : List Value} (h : readsAll P w tmps fn.results.toList vs) :
    (Go.results fn tmps).run P w = Result.ok (oneRes vs) w := by
  have key : ∀ (g : ResultVar → Sem Value), (∀ t, g (.tmp t) = pure (tmps.getD t undef)) → (∀ a t, g (.cell a t) = (do loadVar t (← asAddr (tmps.getD a undef)))) →
      ∀ (l : List ResultVar) (vs : List Value), readsAll P w tmps l vs → (l.mapM g).run P w = Result.ok vs w := by
    intro g hg hc l
    induction l with
    | nil => intro vs h; simp only [readsAll] at h; subst h; rfl
    | cons s l ih =>
      intro vs h
      cases vs with
      | nil => exact h.elim
      | cons v vs =>
        obtain ⟨h1, h2⟩ := h
        have one : (g s).run P w = .ok v w := by
          cases s with
          | tmp t => simp only [readsRV] at h1; subst h1; rw [hg]; rfl
          | cell a t =>
            obtain ⟨ad, e1, e2⟩ := h1
            rw [hc, e1]
            simp [asAddr, e2]
        rw [List.mapM_cons]
        simp only [Sem.run_bind, one, ih vs h2, Sem.run_pure, Result.andThen_ok]
  have e : fn.results = fn.results.toList.toArray := by simp
  unfold Go.results
  rw [e]
  simp only [List.mapM_toArray, Sem.run_bind, Sem.run_map]
  rw [key _ (fun _ => rfl) (fun _ _ => rfl) _ vs h]
  simp only [Result.andThen_ok, Sem.run_pure]
  cases vs with
  | nil => rfl
  | cons v vs => cases vs with
    | nil => rfl
    | cons v' vs => simp [oneRes]

theorem run_results {fn : Func} {ss : List Nat} (h : fn.results.toList = ss.map ResultVar.tmp) (tmps : Array Value) (w : World) :
    (Go.results fn tmps).run P w = Result.ok (match ss.map fun s => tmps.getD s undef with | [v] => v | vs => .tuple vs.toArray) w := by
  have : ∀ l : List Nat, readsAll P w tmps (l.map ResultVar.tmp) (l.map fun s => tmps.getD s undef) := by
    intro l
    induction l with
    | nil => rfl
    | cons s l ih => exact ⟨rfl, ih⟩
  rw [run_resultsC (vs := ss.map fun s => tmps.getD s undef) (by rw [h]; exact this ss)]
  generalize ss.map (fun s => tmps.getD s undef) = vs
  cases vs with
  | nil => rfl
  | cons v vs => cases vs with
    | nil => rfl
    | cons v' vs => rfl

theorem fn_ok (hC : C.ok P) (hm : P.follows .mixedOrders = true) {f : Nat} {fn : Func} {body : Code} {s : Spec} (hf : P.funcs[f]? = some fn) (hb : fn.body = some body)
    (hname : (fn.name == "runtime.NumGoroutine") = false) (hn : fn.ntmps = C.n) (hps : s.ps.length ≤ C.n) (A : Ann) (h : fnVC C A fn body s) : FnOK P f s := by
  unfold fnVC at h
  refine ⟨enters_of hf hb hname, fun H w vals d hg hp hpre => ?_⟩
  have hlen := pvs_length hp
  refine calls_of_wp hf hb ?_
  have hv := gives_all _ _ (h d) hpre
  let ρ : Env := ⟨H, fun _ => none, fun _ => 0⟩
  have hS : Sat P ⟨w, H, [], fun _ => none, fun _ => 0⟩ ρ (⟨initSl s.ps d 0, []⟩ : St).obj w := by
    refine ⟨rfl, rfl, rfl, Nat.le_refl _, Nat.le_refl _, hg, fun _ _ _ => rfl, fun _ _ _ => rfl, ?_, fun _ _ => rfl, ?_, ?_⟩
    · intro o x hx; simp [St.obj, look] at hx
    · intro o o' b C1 C2 h1; simp [ρ] at h1
    · intro o b C1 h1; simp [ρ] at h1
  have hR : Rel P ⟨w, H, [], fun _ => none, fun _ => 0⟩ C.n ⟨initSl s.ps d 0, []⟩ { tmps := vals.toArray ++ Array.replicate (fn.ntmps - vals.toArray.size) undef, defers := [] } w := by
    refine ⟨rfl, by simp; omega, ρ, hS, ?_, fun o p _ hb => by simp [ρ] at hb, fun _ _ hb => hb⟩
    intro k v hk
    obtain ⟨x, h1, h2⟩ := initSl_den (P := P) (ρ := ρ) s.ps vals d 0 hp k v hk
    have hlt := (List.getElem?_eq_some_iff.1 h1).1
    simp only [Nat.sub_zero] at h1 hlt
    have : (vals.toArray ++ Array.replicate (fn.ntmps - vals.toArray.size) undef).getD k undef = x := by
      rw [Array.getD_eq_getD_getElem?, Array.getElem?_append_left (by simpa using hlt)]
      simp [h1]
    rw [this]; exact h2
  refine vcg_sound hC hm A body _ _ _ _ w hv hR (fun e σ a' w' _ hK hR' => ?_)
  have main : (match resOf C σ s.rs fn.results.toList with | some r => r = s.F d | none => False) → a'.defers = [] ∧ ∃ v, (Go.results fn a'.tmps).run P w' = .ok v w' ∧ Post H w s.rs (s.F d) (.returned v) w' := by
    intro hr
    split at hr
    case h_2 => exact hr.elim
    rename_i r hres
    subst hr
    obtain ⟨h1, h2, ρ', hS', hSl, _⟩ := hR'
    obtain ⟨ρ2, hS2, hle, _, _⟩ := freeze_sat (σ := σ) (resFz C σ s.rs fn.results.toList) hS'
    have hd : ∀ k, SV.den P ρ2 (σ.get k) (a'.tmps.getD k undef) := by
      intro k
      have := den_opnd (P := P) (a := a') hSl (.tmp k)
      exact SV.den_mono hle _ _ (fun o ho => by simp at ho) this
    obtain ⟨vs, e1, e2⟩ := resOf_sound hC hS2 (fz_frz σ _) hd s.rs _ _ hres (fun o ho => ho)
    refine ⟨h1, _, run_resultsC e1, ⟨_, ρ2.H, rfl, ?_, ?_⟩⟩
    · have below : Below w.heap.size w w' := ⟨hS2.os, hS2.tape, hS2.output, hS2.size, fun b hb => hS2.old b hb (by simp)⟩
      exact ⟨below, hS2.good, fun b hb => hS2.oldH b hb (by simp), hS2.drawn⟩
    · generalize s.F d = r at e2
      clear e1 hres
      revert vs r
      generalize s.rs = rs
      intro vs r e2
      cases rs with
      | nil => simp only [rvs] at e2; subst e2; exact ⟨_, rfl, rfl⟩
      | cons t ts =>
        cases vs with
        | nil => exact e2.elim
        | cons v vs =>
          cases ts with
          | nil => simp only [rvs] at e2; obtain ⟨e3, e4⟩ := e2; subst e4; exact e3
          | cons t2 ts =>
            cases vs with
            | nil => exact e2.2.elim
            | cons v2 vs => exact ⟨_, rfl, e2⟩
  cases e with
  | normal => exact main hK
  | ret => exact main hK
  | exit id => exact hK.elim

end
end Go.X
