/-
  One operation: sound, operation by operation (continued).
-/
import Derived.Test.YtafidkjlgchbbaaGreatK1
import Derived.Maps.AppendAt
import Derived.Laws.Strings
import Derived.Laws.Tables
import Derived.Great.BuildSlice
import Derived.Laws.OwnMore
import Derived.Lib.AppendZeros
namespace Go.X
open Go.RowKit (Below)

section
variable {P : Program} {B : Base} {C : Ctx} {σ : St} {ρ : Env} {w : World} {o : Oper} {ev : Operand → Value} {out : Out}

theorem asInt_den {sv : SV} {i : Int} (h : asInt sv = some i) {v : Value} (hv : SV.den P ρ sv v) : v = .int .i64 i := by
  unfold asInt at h
  split at h
  · simp at h; subst h
    simp only [SV.den] at hv
    exact int_of_rv hv
  · cases h
theorem asUint_den {sv : SV} {i : Int} (h : asUint sv = some i) {v : Value} (hv : SV.den P ρ sv v) : ∃ k, v = .int k i := by
  unfold asUint at h
  split at h
  · simp at h; subst h
    simp only [SV.den] at hv
    exact ⟨_, uint_of_rv hv⟩
  · cases h

theorem does_plain (hS : Sat P B ρ σ.obj w) {sv : SV} {vc fact : List Prop} {v : Value} (hrun : (execOp ev o).run P w = .ok (.value v) w) (hd : SV.den P ρ sv v) (hf : AllP fact) :
    OpDoes P o ev w (Leaves P B ρ σ ⟨vc, fact, sv, [], [], []⟩) := does_value hrun (leaves_same hS hd hf)

/-! ### Addresses -/

theorem run_fieldAt {ti tf : TI} (hok : ti.ok P) (hf : tf.ok P) {f : Nat} {off ft : Nat} (hfi : ti.fields[f]? = some (off, ft)) (hft : tf.id = ft) (hsz : Nat.beq tf.size 0 = false) (ha : ti.agg = true) (hr : ti.arr = false) (b k : Nat) :
    (Instr.fieldAt ti.id (.pointer (some ⟨b, k, none⟩)) f).run P w = .ok (.pointer (some ⟨b, k + off, none⟩)) w := by
  obtain ⟨fs, h1, _, h2⟩ := hok.str ha hr
  obtain ⟨fl, e1, e2, e3⟩ := h2 f (off, ft) hfi
  obtain ⟨i, z, _, _, _, hs, _⟩ := run_info hf
  have hne : ¬ tf.size = 0 := fun e => by rw [e] at hsz; simp at hsz
  have e3' : fl.type = tf.id := by rw [e3, hft]
  have e2' : fl.offset = off := e2
  simp only [Instr.fieldAt, Sem.run_bind, run_underlying h1, Result.andThen_ok, e1, Instr.sureAddr, Sem.run_pure, fieldPlace, e3', hs, hne, if_false, e2', addr_add]

theorem fields_agg {ti : TI} (_ : ti.ok P) {f : Nat} {p : Nat × Nat} (hfi : ti.fields[f]? = some p) (hfl : ti.agg = false → ti.fields = []) : ti.agg = true := by
  cases h : ti.agg with
  | true => rfl
  | false => rw [hfl h] at hfi; simp at hfi

theorem does_fieldAddr {U dst f : Nat} {x : Operand} (hC : C.ok P) (hop : o.op = .fieldAddr U x f) (h : evalOp C σ dst (.fieldAddr U x f) = some out) (hS : Sat P B ρ σ.obj w) (hev : SV.den P ρ (opnd σ x) (ev x)) :
    OpDoes P o ev w (Leaves P B ρ σ out) := by
  simp only [evalOp] at h
  split at h
  case h_2 => cases h
  rename_i ti hti
  obtain ⟨rfl, hok⟩ := hC.ti _ _ hti
  split at h
  case h_2 => cases h
  rename_i off ft hfi
  obtain ⟨hfi, harr⟩ := flds_some hfi
  have ha := fields_agg hok hfi hok.flf
  split at h
  · rename_i ob k hx
    rw [hx] at hev
    split at h
    · rename_i tf htf hl
      obtain ⟨hid, hf⟩ := hC.ti _ _ htf
      split at h
      · cases h
      · rename_i hsz
        simp at h; subst h
        obtain ⟨p, hp⟩ := live_blk hS hl
        have hev' := hev
        simp only [SV.den] at hev'
        obtain ⟨b, Cp, rfl, e⟩ := hev' p hp
        refine does_plain hS (v := .pointer (some ⟨b, k + off, none⟩)) ?_ ?_ trivial
        · simp only [execOp, hop, e, Sem.run_bind, run_fieldAt hok hf hfi hid hsz ha harr, Result.andThen_ok, Sem.run_pure]
        · simp only [SV.den]
          intro p' hp'
          rw [hp] at hp'; simp at hp'; subst hp'
          exact ⟨b, Cp, rfl, rfl⟩
    · cases h
  · rename_i ob t i k hx
    rw [hx] at hev
    split at h
    · rename_i tf htf hl
      obtain ⟨hid, hf⟩ := hC.ti _ _ htf
      split at h
      · cases h
      · rename_i hsz
        simp at h; subst h
        obtain ⟨p, hp⟩ := live_blk hS hl
        have hev' := hev
        simp only [SV.den] at hev'
        obtain ⟨hi, b, Cp, rfl, e⟩ := hev' p hp
        refine does_plain hS (v := .pointer (some ⟨b, i * t.size + k + off, none⟩)) ?_ ?_ trivial
        · simp only [execOp, hop, e, Sem.run_bind, run_fieldAt hok hf hfi hid hsz ha harr, Result.andThen_ok, Sem.run_pure]
        · simp only [SV.den]
          intro p' hp'
          rw [hp] at hp'; simp at hp'; subst hp'
          exact ⟨hi, b, Cp, rfl, by rw [Nat.add_assoc]⟩
    · cases h
  · rename_i t d hx
    rw [hx] at hev
    split at h
    · rename_i tf htf
      unfold Ctx.known at htf
      split at htf
      · rename_i tf' htf'
        split at htf
        · rename_i hk
          simp at htf; subst htf
          obtain ⟨hid, hf⟩ := hC.ti _ _ htf'
          split at h
          · cases h
          · rename_i hsz
            split at h
            · rename_i y hy
              simp at h; subst h
              simp only [SV.den] at hev
              obtain ⟨b, k, c, e, e2, e3⟩ := hev
              refine does_plain hS (v := .pointer (some ⟨b, k + off, none⟩)) ?_ ?_ trivial
              · simp only [execOp, hop, e, Sem.run_bind, run_fieldAt hok hf hfi hid hsz ha harr, Result.andThen_ok, Sem.run_pure]
              · simp only [SV.den]
                refine ⟨b, k + off, c, rfl, e2, ?_⟩
                exact tf'.ty.rd_congr _ _ _ (fun j _ => by simp only [Nat.add_assoc]) (sub_sound t off tf'.ty d y _ hy e3)
            · cases h
        · cases htf
      · cases htf
    · cases h
  · cases h

theorem slice_info {U : Nat} {ti te : TI} (hC : C.ok P) (h : C.slice U = some (ti, te)) :
    ti.id = U ∧ te.id = ti.elem ∧ ti.ok P ∧ te.ok P ∧ P.underlying U = some (.slice ti.elem) ∧ te.ty.agg = te.agg ∧ te.ty.size = te.size ∧ 0 < te.size := by
  unfold Ctx.slice at h
  split at h
  · rename_i ti' hti
    split at h
    · rename_i hsl
      split at h
      · rename_i te' hte
        split at h
        · rename_i hk
          simp at h
          obtain ⟨rfl, rfl⟩ := h
          obtain ⟨e1, h1⟩ := hC.ti _ _ hti
          obtain ⟨e2, h2⟩ := hC.ti _ _ hte
          obtain ⟨d, g1, _, _, _, g2, _⟩ := h1.flat (h1.slf hsl)
          rw [g2 hsl, e1] at g1
          obtain ⟨k1, k2⟩ := h2.known hk
          exact ⟨e1, e2, h1, h2, g1, k1, k2, (h2.pos hk).1⟩
        · cases h
      · cases h
    · cases h
  · cases h

theorem known_info {U : Nat} {ti : TI} (hC : C.ok P) (h : C.known U = some ti) : C.info U = some ti ∧ ti.id = U ∧ ti.ok P ∧ tyKnown ti.ty = true := by
  unfold Ctx.known at h
  split at h
  · rename_i t ht
    split at h
    · rename_i hk
      simp at h; subst h
      exact ⟨ht, (hC.ti _ _ ht).1, (hC.ti _ _ ht).2, hk⟩
    · cases h
  · cases h

theorem does_arrAddr {U : Nat} {x ix : Operand} {i : Int} (hC : C.ok P) (hop : o.op = .indexAddr U x ix) (h : arrAddr C U (opnd σ x) i = some out) (hS : Sat P B ρ σ.obj w)
    (hev : SV.den P ρ (opnd σ x) (ev x)) (hei : ev ix = .int .i64 i) (hvc : AllP out.vc) : OpDoes P o ev w (Leaves P B ρ σ out) := by
  unfold arrAddr at h
  split at h
  case h_2 => cases h
  rename_i ti hti
  obtain ⟨_, hid, hok, hkn⟩ := known_info hC hti
  split at h
  case h_2 => cases h
  rename_i off ft te hr hfi hte
  obtain ⟨_, hide, hoke, hkne⟩ := known_info hC hte
  obtain ⟨_, n, ie, h1, h2, h3, h4, _, _, h5⟩ := hok.arrk hr
  have hp := h5 _ _ hfi
  simp at hp
  obtain ⟨rfl, rfl⟩ := hp
  split at h
  case h_2 => cases h
  rename_i t d hx
  split at h
  case h_2 => cases h
  rename_i d' hc
  split at h
  case h_2 => cases h
  rename_i y hy
  simp at h; subst h
  obtain ⟨e, rfl⟩ := cast?_some hc
  subst e
  rw [hx] at hev
  simp only [SV.den] at hev
  obtain ⟨b, k, c, e, e2, e3⟩ := hev
  simp only [AllP] at hvc
  have hlt : i.toNat < n := by rw [← h4]; exact (List.getElem?_eq_some_iff.1 hfi).1
  have hlt' : i < n := by omega
  have hse : ∀ w, (sizeOf ti.elem).run P w = .ok 1 w := fun w => by simp [sizeOf, typeInfo, h2, h3]
  refine does_plain hS (v := .pointer (some ⟨b, k + i.toNat, none⟩)) ?_ ?_ trivial
  · simp only [execOp, hop, e, hei, Instr.indexAt, asIntOf, Instr.sureAddr, Sem.run_bind, Sem.run_pure, Result.andThen_ok, run_underlying (hid ▸ h1)]
    simp [hvc.1, hlt', hse, addr_add]
  · simp only [SV.den]
    refine ⟨b, k + i.toNat, c, rfl, e2, ?_⟩
    exact te.ty.rd_congr _ _ _ (fun j _ => by simp only [Nat.add_assoc]) (sub_sound _ _ te.ty _ y _ hy e3)

theorem allCells_sound {τ : St} (hS : Sat P B ρ τ.obj w) {fz : List Nat} (hF : Frz σ τ fz) {t : Ty} (ht : t.agg = false) : ∀ (cs : List SV) (l : List t.Data) (vs : List Value), allCells σ t cs = some l → SV.denL P ρ cs vs → l.length = vs.length ∧ ∀ (i : Nat) x, l[i]? = some x → t.rd ρ.H (fun _ => vs[i]?) x
  | [], l, vs, h, hd => by
    simp [allCells] at h; subst h
    simp [SV.denL] at hd; subst hd
    exact ⟨rfl, fun i x hx => by simp at hx⟩
  | c :: cs, l, vs, h, hd => by
    simp only [allCells] at h
    split at h
    case h_2 => cases h
    rename_i d l' hc hl
    simp at h; subst h
    simp only [SV.denL] at hd
    obtain ⟨v, r, rfl, h1, h2⟩ := hd
    obtain ⟨e1, e2⟩ := allCells_sound hS hF ht cs l' r hl h2
    refine ⟨by simp [e1], fun i x hx => ?_⟩
    cases i with
    | zero => simp at hx; subst hx; simpa using toCell_sound hS hF ht hc (fun o ho => by simp at ho) h1
    | succ i => simpa using e2 i x (by simpa using hx)

theorem does_slArr {U : Nat} {x : Operand} {lo hi : Option Operand} (hC : C.ok P) (hop : o.op = .slice U x lo hi none) (h : slArr C σ U (opnd σ x) lo hi = some out) (hS : Sat P B ρ σ.obj w)
    (hev : SV.den P ρ (opnd σ x) (ev x)) : OpDoes P o ev w (Leaves P B ρ σ out) := by
  unfold slArr at h
  split at h
  case h_2 => cases h
  rename_i ti ob hti hx
  obtain ⟨_, hid, hok, hkn⟩ := known_info hC hti
  split at h
  case h_2 => cases h
  rename_i te T fzb cs hr hte hob
  obtain ⟨_, hide, hoke, hkne⟩ := known_info hC hte
  obtain ⟨_, n, ie, h1, h2, h3, h4, h4', hbig, h5⟩ := hok.arrk hr
  split at h
  case h_2 => cases h
  rename_i l hl hn ha
  simp at h; subst h
  have hn := Nat.eq_of_beq_eq_true hn
  obtain ⟨ρ1, hS1, hle1, hb1, hl1⟩ := freeze_sat (σ := σ) [ob] hS
  have hob1 : (σ.frz [ob]).obj ob = some (.box T true cs) := by rw [obj_frz]; simp [hob, frozenOb]
  obtain ⟨p, hp, b, Cp, vs, rfl, hw, hdl, h1', hH⟩ := hS1.obs ob _ hob1
  rw [hx] at hev
  simp only [SV.den] at hev
  obtain ⟨b', C', e1, e2⟩ := hev _ (by rw [← hb1]; exact hp)
  simp at e1
  obtain ⟨rfl, rfl⟩ := e1
  have hdl' := denL_length _ _ hdl
  obtain ⟨k1, k2⟩ := allCells_sound hS1 (fz_frz σ _) ha cs l _ hl hdl
  have hlen : l.length = n := by rw [k1, ← hdl', hn]; exact h4'
  have hse : ∀ w, (sizeOf ti.elem).run P w = .ok 1 w := fun w => by simp [sizeOf, typeInfo, h2, h3]
  have hsz : te.ty.size = 1 := by
    obtain ⟨i, z, g1, g2, _⟩ := hoke.info
    obtain ⟨_, g3⟩ := hoke.known hkne
    rw [g3, ← g2]
    rw [hide] at g1
    rw [h2] at g1
    simp at g1
    rw [← g1, h3]
  refine does_value (v := .slice (some ⟨b, 0, none⟩) n n) (w' := w) ?_ ⟨ρ1, ?_, hle1, ?_, trivial⟩
  · simp only [execOp, hop, e2, Instr.sliceAt, Instr.sureAddr, Instr.sliceBounds, Option.map_none, Sem.run_bind, Sem.run_pure, Result.andThen_ok, run_underlying (hid ▸ h1)]
    simp [hse, addr_add]
  · exact hS1
  · simp only [SV.den]
    refine rv_of_scalar rfl ⟨some ⟨b, 0, none⟩, n, n, rfl, hlen.symm, Nat.le_refl _, ?_, fun h => by simp at h, fun _ => ⟨b, 0, vs, rfl, hH, fun i y hy => ?_⟩⟩
    · rw [hlen]; omega
    · refine te.ty.rd_congr _ _ _ (fun j hj => ?_) (k2 i y hy)
      have : j = 0 := by omega
      subst this
      simp [hsz]

theorem does_indexAddr {U dst : Nat} {x ix : Operand} (hC : C.ok P) (hop : o.op = .indexAddr U x ix) (h : evalOp C σ dst (.indexAddr U x ix) = some out) (hS : Sat P B ρ σ.obj w)
    (hev : SV.den P ρ (opnd σ x) (ev x)) (hei : SV.den P ρ (opnd σ ix) (ev ix)) (hvc : AllP out.vc) : OpDoes P o ev w (Leaves P B ρ σ out) := by
  simp only [evalOp] at h
  split at h
  case h_3 => cases h
  case h_2 =>
    rename_i i hsl hi
    exact does_arrAddr hC hop h hS hev (asInt_den hi hei) hvc
  rename_i ti te i hsl hi
  obtain ⟨_, hte, _, hokE, hund, hka, hks, hpos⟩ := slice_info hC hsl
  have hei := asInt_den hi hei
  obtain ⟨_, _, _, _, _, hsz, _⟩ := run_info hokE
  rw [hte] at hsz
  -- the run
  have hrun : ∀ (b off n c : Nat), ev x = .slice (some ⟨b, off, none⟩) n c → 0 ≤ i → i < n →
      (execOp ev o).run P w = .ok (.value (.pointer (some ⟨b, off + i.toNat * te.size, none⟩))) w := by
    intro b off n c e h0 h1
    simp only [execOp, hop, e, hei, Instr.indexAt, asIntOf, Sem.run_bind, Sem.run_pure, Result.andThen_ok, run_underlying hund]
    simp [h0, h1, hsz, addr_add]
  split at h
  · rename_i t l hx
    rw [hx] at hev
    split at h
    · rename_i l' hc
      simp at h; subst h
      obtain ⟨e, rfl⟩ := cast?_some hc
      cases e
      simp only [castD, AllP] at hvc ⊢
      have hr := rv_scalar (t := .slice te.ty) rfl (by simpa [SV.den] using hev)
      obtain ⟨a, n, c, e1, e2, e3, e4, e6, e5⟩ := hr
      simp at e1
      have hne : l ≠ [] := fun e => by subst e; simp at hvc; omega
      obtain ⟨b, off, blk, rfl, f2, f3⟩ := e5 hne
      have hlt : i.toNat < l.length := by omega
      refine does_plain hS (hrun b off n c e1 hvc.1 (by omega)) ?_ trivial
      simp only [SV.den]
      refine ⟨b, off + i.toNat * te.size, blk, rfl, f2, ?_⟩
      have := f3 i.toNat l[i.toNat] (List.getElem?_eq_getElem hlt)
      have hn : @nth _ ⟨te.ty.dflt⟩ l i.toNat = l[i.toNat] := by
        unfold nth; rw [List.getD_eq_getElem?_getD, List.getElem?_eq_getElem hlt]; rfl
      rw [hn, ← hks]
      exact this
    · cases h
  · rename_i ob t hx
    rw [hx] at hev
    split at h
    · rename_i E t' fz nl l hob
      simp at h; subst h
      simp only [AllP] at hvc
      obtain ⟨p, hp, k1, k0, k2⟩ := hS.obs ob _ hob
      have hev' := hev
      simp only [SV.den] at hev'
      have hev' := hev' p hp
      cases p with
      | none => obtain ⟨_, e⟩ := hev'; omega
      | some q =>
        obtain ⟨b, Cp⟩ := q
        obtain ⟨e1, e2⟩ := hev'
        refine does_plain hS (hrun b 0 _ _ e1 hvc.1 (by omega)) ?_ trivial
        simp only [SV.den]
        intro p' hp'
        rw [hp] at hp'; simp at hp'; subst hp'
        exact ⟨by omega, b, Cp, rfl, by rw [← hks]; simp⟩
    · cases h
  · rename_i ob t lo n hx
    rw [hx] at hev
    split at h
    · rename_i hl ht
      simp at h; subst h
      simp only [AllP] at hvc
      have ht' : t = te.ty := by unfold decEqTy at ht; split at ht; · assumption
                                 · cases ht
      subst ht'
      obtain ⟨p, hp⟩ := live_blk hS hl
      have hev' := hev
      simp only [SV.den] at hev'
      have hev' := hev' p hp
      cases p with
      | none => obtain ⟨_, e⟩ := hev'; subst e; simp at hvc; omega
      | some q =>
        obtain ⟨b, Cp⟩ := q
        obtain ⟨a, cap, e1, e2, e3, e4, e5⟩ := hev'
        have e5 := e5 (.inr (by omega))
        subst e5
        refine does_plain hS (hrun b _ _ _ e1 hvc.1 (by omega)) ?_ trivial
        simp only [SV.den]
        intro p' hp'
        rw [hp] at hp'; simp at hp'; subst hp'
        exact ⟨by omega, b, Cp, rfl, by rw [← hks, Nat.add_mul]; simp⟩
    · cases h
  · split at h
    · simp at h; subst h
      exact absurd hvc.1 id
    · cases h
  · cases h

theorem does_slice {U dst : Nat} {x : Operand} {lo hi : Option Operand} (hC : C.ok P) (hop : o.op = .slice U x lo hi none) (h : evalOp C σ dst (.slice U x lo hi none) = some out) (hS : Sat P B ρ σ.obj w)
    (hev : ∀ x, SV.den P ρ (opnd σ x) (ev x)) (hvc : AllP out.vc) : OpDoes P o ev w (Leaves P B ρ σ out) := by
  simp only [evalOp] at h
  split at h
  case h_1 => exact does_slArr hC hop h hS (hev x)
  rename_i ti te hsl
  obtain ⟨_, hte, _, hokE, hund, hka, hks, hpos⟩ := slice_info hC hsl
  obtain ⟨_, _, _, _, _, hsz, _⟩ := run_info hokE
  rw [hte] at hsz
  split at h
  case h_1 => cases h
  rename_i l hl
  have bnd : ∀ (y : Option Operand) (d i : Int), bound σ y d = some i → (y = none ∧ i = d) ∨ (∃ a, y = some a ∧ ev a = .int .i64 i) := by
    intro y d i hb
    unfold bound at hb
    split at hb
    · simp at hb; exact .inl ⟨rfl, hb.symm⟩
    · rename_i a
      exact .inr ⟨a, rfl, asInt_den hb (hev a)⟩
  have hrun : ∀ (a : Option Addr) (n c : Nat) (h' : Int), ev x = .slice a n c → n ≤ c → ((hi = none ∧ h' = n) ∨ (∃ a, hi = some a ∧ ev a = .int .i64 h')) → 0 ≤ l → l ≤ h' → h' ≤ n →
      (execOp ev o).run P w = .ok (.value (.slice (if c = l.toNat then a else a.map (·.add (l.toNat * te.size))) (h'.toNat - l.toNat) (c - l.toNat))) w := by
    intro a n c h' e hnc hh h0 h1 h2
    have hl' : (lo = none ∧ l = 0) ∨ (∃ a, lo = some a ∧ ev a = .int .i64 l) := bnd lo 0 l hl
    have notarr : ∀ m e, (TypeDesc.slice ti.elem) ≠ .array m e := by intro m e; simp
    simp only [execOp, hop, e, Instr.sliceAt, Sem.run_bind, run_underlying hund, Result.andThen_ok, Instr.slice, Instr.sliceBounds, Option.map_none, Sem.run_pure]
    rcases hh with ⟨rfl, rfl⟩ | ⟨ah, rfl, ehv⟩ <;> rcases hl' with ⟨rfl, rfl⟩ | ⟨al, rfl, elv⟩
    · simp [hsz]
    · have : l.toNat ≤ n := by omega
      simp [elv, Instr.sliceBound, asIntOf, h0, hsz, h1]
    · have h3 : h' ≤ (c : Int) := by omega
      have h4 : 0 ≤ h' := by omega
      simp [ehv, Instr.sliceBound, asIntOf, h3, h4, hsz]
    · have h3 : h' ≤ (c : Int) := by omega
      have h4 : 0 ≤ h' := by omega
      have h5 : l ≤ (h'.toNat : Int) := by omega
      simp [ehv, elv, Instr.sliceBound, asIntOf, h3, h4, h0, hsz]
      intro hbad
      omega
  split at h
  · rename_i t xs hx
    have hx' := hev x
    rw [hx] at hx'
    split at h
    · rename_i xs' h' hc hb
      simp at h; subst h
      obtain ⟨e, rfl⟩ := cast?_some hc
      cases e
      simp only [castD, AllP] at hvc ⊢
      have hr := rv_scalar (t := .slice te.ty) rfl (by simpa [SV.den] using hx')
      obtain ⟨a, n, c, e1, e2, e3, e4, e6, e5⟩ := hr
      simp at e1
      have hh := bnd hi _ h' hb
      have hh' : (hi = none ∧ h' = (n : Int)) ∨ (∃ a, hi = some a ∧ ev a = .int .i64 h') := by rw [e2]; exact hh
      refine does_plain hS (hrun a n c h' e1 e3 hh' hvc.1 hvc.2.1 (by omega)) ?_ trivial
      simp only [SV.den]
      refine rv_of_scalar rfl ?_
      have hlen : ((xs.drop l.toNat).take (h'.toNat - l.toNat)).length = h'.toNat - l.toNat := by simp; omega
      refine ⟨_, _, _, rfl, hlen.symm, by omega, by omega, fun hn => ?_, fun hne => ?_⟩
      · have : a = none := by
          split at hn
          · exact hn
          · simpa using hn
        have := e6 this
        omega
      have hpos' : 0 < h'.toNat - l.toNat := by
        rcases Nat.eq_zero_or_pos (h'.toNat - l.toNat) with h0 | h0
        · rw [h0] at hne; simp at hne
        · exact h0
      obtain ⟨b, off, blk, rfl, f2, f3⟩ := e5 (fun e => by subst e; simp at hne)
      refine ⟨b, off + l.toNat * te.size, blk, ?_, f2, fun i y hy => ?_⟩
      · rw [if_neg (by omega)]; simp [addr_add]
      · rw [List.getElem?_take] at hy
        split at hy
        · rw [List.getElem?_drop] at hy
          have := f3 _ _ hy
          refine te.ty.rd_congr _ _ _ (fun j _ => ?_) this
          congr 1
          rw [← hks, Nat.add_mul]; omega
        · cases hy
    · cases h
  · rename_i ob t hx
    have hx' := hev x
    rw [hx] at hx'
    split at h
    · rename_i E t' fz nl xs hob
      split at h
      · rename_i h' hb
        simp at h; subst h
        simp only [AllP] at hvc
        obtain ⟨p, hp, k1, k0, k2⟩ := hS.obs ob _ hob
        simp only [SV.den] at hx'
        have hx' := hx' p hp
        have hh := bnd hi _ h' hb
        cases p with
        | none =>
          obtain ⟨e1, e2⟩ := hx'
          obtain ⟨e3, _⟩ := k2
          subst e3
          simp at hvc
          have hl0 : l = 0 := by omega
          have hh0 : h' = 0 := by omega
          subst hl0; subst hh0
          have hh' : (hi = none ∧ (0 : Int) = ((0 : Nat) : Int)) ∨ (∃ a, hi = some a ∧ ev a = .int .i64 0) := by
            rcases hh with ⟨e, _⟩ | e
            · exact .inl ⟨e, rfl⟩
            · exact .inr e
          refine does_plain hS (hrun none 0 0 0 e1 (Nat.le_refl _) hh' (by omega) (by omega) (by simp)) ?_ trivial
          simp only [SV.den]
          intro p' hp'
          rw [hp] at hp'; simp at hp'; subst hp'
          simp
        | some q =>
          obtain ⟨b, Cp⟩ := q
          obtain ⟨e1, e2⟩ := hx'
          have hh' : (hi = none ∧ h' = ((ρ.len ob : Nat) : Int)) ∨ (∃ a, hi = some a ∧ ev a = .int .i64 h') := by rw [k1]; exact hh
          refine does_plain hS (hrun _ _ _ h' e1 e2 hh' hvc.1 hvc.2.1 (by omega)) ?_ trivial
          simp only [SV.den]
          intro p' hp'
          rw [hp] at hp'; simp at hp'; subst hp'
          by_cases hcl : Cp = l.toNat
          · refine ⟨⟨b, 0, none⟩, Cp - l.toNat, by rw [if_pos hcl], by omega, by omega, by omega, fun hor => ?_⟩
            have : l.toNat = 0 := by omega
            simp [this]
          · refine ⟨⟨b, l.toNat * te.size, none⟩, Cp - l.toNat, by rw [if_neg hcl]; simp [addr_add], by omega, by omega, by omega, fun _ => by rw [hks]⟩
      · cases h
    · cases h
  · rename_i u hx
    have hx' := hev x
    rw [hx] at hx'
    split at h
    · rename_i h' hnil hb
      simp at h; subst h
      simp only [AllP] at hvc
      simp only [SV.den] at hx'
      have e1 : ev x = .slice none 0 0 := by rw [hx', nilSlice hnil]
      have hl0 : l = 0 := by omega
      have hh0 : h' = 0 := by omega
      subst hl0; subst hh0
      have hh' : (hi = none ∧ (0 : Int) = ((0 : Nat) : Int)) ∨ (∃ a, hi = some a ∧ ev a = .int .i64 0) := by
        rcases bnd hi _ 0 hb with ⟨e, _⟩ | e
        · exact .inl ⟨e, rfl⟩
        · exact .inr e
      refine does_plain hS (hrun none 0 0 0 e1 (Nat.le_refl _) hh' (by omega) (by omega) (by simp)) ?_ trivial
      simp only [SV.den]
      rw [nilSlice hnil]
      simp
    · cases h
  · cases h

/-! ### Stores -/

theorem denL_overlay {cs new : List SV} {vs us : List Value} {off : Nat} (h1 : SV.denL P ρ cs vs) (h2 : SV.denL P ρ new us) : SV.denL P ρ (overlay cs new off) (vs.take off ++ us ++ vs.drop (off + us.length)) := by
  unfold overlay
  rw [← denL_length _ _ h2]
  exact denL_append _ _ _ _ (denL_append _ _ _ _ (denL_take off _ _ h1) h2) (denL_drop _ _ _ h1)

theorem run_storeVar_at {ti : TI} (hok : ti.ok P) {b off : Nat} {vs : Array Value} {T : Nat} {v : Value} (hw : w.heap[b]? = some (.cells vs T (0, 0))) (hsz : v.cells.size = ti.size)
    (hfit : off + ti.size ≤ vs.size) (h1 : ∀ u ∈ v.cells.toList, u.oneCell' = true) :
    (storeVar ti.id ⟨b, off, none⟩ v).run P w = .ok () (w.setRow b (vs.toList.take off ++ v.cells.toList ++ vs.toList.drop (off + ti.size)).toArray) := by
  obtain ⟨_, _, _, _, _, hs, _⟩ := run_info hok
  have := run_storeCells_at P b off T v.cells.toList 0 vs w hw (by simp; omega) h1
  simp only [Nat.add_zero, Array.length_toList, hsz] at this
  simp [storeVar, hs, hsz, this]

theorem setRow_facts (w : World) {b : Nat} {vs : Array Value} {T : Nat} (hw : w.heap[b]? = some (.cells vs T (0, 0))) (cs : Array Value) :
    ((w.setRow b cs).os = w.os ∧ (w.setRow b cs).tape = w.tape ∧ (w.setRow b cs).output = w.output ∧ w.drawn ≤ (w.setRow b cs).drawn ∧ (w.setRow b cs).heap.size = w.heap.size ∧ ∀ k, k ≠ b → (w.setRow b cs).heap[k]? = w.heap[k]?) ∧
    (w.setRow b cs).heap[b]? = some (.cells cs T (0, 0)) := by
  refine ⟨⟨rfl, rfl, rfl, Nat.le_refl _, by simp, fun k hk => setRow_other w b k _ (by omega)⟩, setRow_heap w b vs _ T _ hw⟩

theorem put_sound {H : Imm} : ∀ (a : Ty) (off : Nat) (t : Ty) (d : a.Data) (x : t.Data) (y : a.Data) (f g : Nat → Option Value), a.put off t d x = some y → a.rd H f d → t.rd H (fun j => g (off + j)) x →
    (∀ j, (j < off ∨ off + t.size ≤ j) → g j = f j) → a.rd H g y := by
  have leaf : ∀ (a : Ty) (off : Nat) (t : Ty) (x : t.Data) (y : a.Data) (g : Nat → Option Value), (if off = 0 then cast? t a x else none) = some y → t.rd H (fun j => g (off + j)) x → a.rd H g y := by
    intro a off t x y g h hx
    split at h
    · rename_i e
      subst e
      obtain ⟨e, rfl⟩ := cast?_some h
      rw [castD_rd]
      simpa using hx
    · cases h
  intro a
  induction a with
  | pair a b iha ihb =>
    intro off t d x y f g h hd hx hg
    simp only [Ty.put] at h
    split at h
    · rename_i e
      obtain ⟨rfl, e⟩ := e
      obtain ⟨e', rfl⟩ := cast?_some h
      rw [castD_rd]
      simpa using hx
    · split at h
      · rename_i hlt
        simp only [Option.map_eq_some_iff] at h
        obtain ⟨z, hz, rfl⟩ := h
        have hfit := put_fits a off t d.1 x z hz
        refine ⟨iha off t d.1 x z f g hz hd.1 hx hg, b.rd_congr _ _ _ (fun j _ => ?_) hd.2⟩
        exact (hg _ (.inr (by omega))).symm
      · rename_i hlt
        simp only [Option.map_eq_some_iff] at h
        obtain ⟨z, hz, rfl⟩ := h
        refine ⟨a.rd_congr _ _ _ (fun j hj => (hg j (.inl (by omega))).symm) hd.1, ?_⟩
        refine ihb (off - a.size) t d.2 x z (fun j => f (a.size + j)) (fun j => g (a.size + j)) hz hd.2 (t.rd_congr _ _ _ (fun j _ => by congr 1; omega) hx) (fun j hj => hg _ ?_)
        omega
  | int => intro off t d x y f g h _ hx _; exact leaf .int off t x y g (by simpa [Ty.put] using h) hx
  | bool => intro off t d x y f g h _ hx _; exact leaf .bool off t x y g (by simpa [Ty.put] using h) hx
  | uint k => intro off t d x y f g h _ hx _; exact leaf (.uint k) off t x y g (by simpa [Ty.put] using h) hx
  | unit => intro off t d x y f g h _ hx _; exact leaf .unit off t x y g (by simpa [Ty.put] using h) hx
  | slice s _ => intro off t d x y f g h _ hx _; exact leaf (.slice s) off t x y g (by simpa [Ty.put] using h) hx
  | map k u _ _ => intro off t d x y f g h _ hx _; exact leaf (.map k u) off t x y g (by simpa [Ty.put] using h) hx
where
  put_fits : ∀ (a : Ty) (off : Nat) (t : Ty) (d : a.Data) (x : t.Data) (y : a.Data), a.put off t d x = some y → off + t.size ≤ a.size := by
    have leaf : ∀ (a : Ty) (off : Nat) (t : Ty) (x : t.Data) (y : a.Data), (if off = 0 then cast? t a x else none) = some y → off + t.size ≤ a.size := by
      intro a off t x y h
      split at h
      · rename_i e
        subst e
        obtain ⟨e, _⟩ := cast?_some h
        subst e; omega
      · cases h
    intro a
    induction a with
    | pair a b iha ihb =>
      intro off t d x y h
      simp only [Ty.put] at h
      split at h
      · rename_i e
        obtain ⟨rfl, e⟩ := e
        rw [← e]; omega
      · split at h
        · simp only [Option.map_eq_some_iff] at h
          obtain ⟨z, hz, rfl⟩ := h
          have := iha off t d.1 x z hz
          simp only [Ty.size]; omega
        · simp only [Option.map_eq_some_iff] at h
          obtain ⟨z, hz, rfl⟩ := h
          have := ihb (off - a.size) t d.2 x z hz
          simp only [Ty.size]; omega
    | int => intro off t d x y h; exact leaf .int off t x y (by simpa [Ty.put] using h)
    | bool => intro off t d x y h; exact leaf .bool off t x y (by simpa [Ty.put] using h)
    | uint k => intro off t d x y h; exact leaf (.uint k) off t x y (by simpa [Ty.put] using h)
    | unit => intro off t d x y h; exact leaf .unit off t x y (by simpa [Ty.put] using h)
    | slice s _ => intro off t d x y h; exact leaf (.slice s) off t x y (by simpa [Ty.put] using h)
    | map k u _ _ => intro off t d x y h; exact leaf (.map k u) off t x y (by simpa [Ty.put] using h)

end
end Go.X
/-
  One operation: sound, operation by operation (stores, aggregates, append, calls, the rest).
-/
namespace Go.X
open Go.RowKit (Below)

section
variable {P : Program} {B : Base} {C : Ctx} {σ : St} {ρ : Env} {w : World} {o : Oper} {ev : Operand → Value} {out : Out}

theorem mapT_info {U : Nat} {ti tk te : TI} (hC : C.ok P) (h : C.mapT U = some (ti, tk, te)) :
    ti.ok P ∧ tk.ok P ∧ te.ok P ∧ P.underlying U = some (.map tk.id te.id) ∧ tk.kq = true ∧ tyKnown te.ty = true := by
  unfold Ctx.mapT at h
  split at h
  case h_2 => cases h
  rename_i ti' hti
  split at h
  case h_2 => cases h
  rename_i hmp
  split at h
  case h_2 => cases h
  rename_i tk' te' htk hte
  split at h
  case h_2 => cases h
  rename_i hk he
  simp at h
  obtain ⟨rfl, rfl, rfl⟩ := h
  obtain ⟨i1, o1⟩ := hC.ti _ _ hti
  obtain ⟨i2, o2⟩ := hC.ti _ _ htk
  obtain ⟨i3, o3⟩ := hC.ti _ _ hte
  refine ⟨o1, o2, o3, ?_, hk, he⟩
  have := o1.mpf hmp
  rw [i1, ← i2, ← i3] at this
  exact this

theorem does_skip {R : Value → World → Prop} {w' : World} (h : (execOp ev o).run P w = .ok .skip w') (k : R undef w') : OpDoes P o ev w R := by
  unfold OpDoes; rw [h]; exact k

theorem den_any (v : Value) : SV.den P ρ .any v := by simp [SV.den]

theorem does_store {U dst : Nat} {a x : Operand} (hC : C.ok P) (hop : o.op = .store U a x) (h : evalOp C σ dst (.store U a x) = some out) (hS : Sat P B ρ σ.obj w)
    (hea : SV.den P ρ (opnd σ a) (ev a)) (hex : SV.den P ρ (opnd σ x) (ev x)) : OpDoes P o ev w (Leaves P B ρ σ out) := by
  simp only [evalOp] at h
  split at h
  case h_2 => cases h
  rename_i ti hti
  obtain ⟨rfl, hok⟩ := hC.ti _ _ hti
  split at h
  · rename_i ob off ha
    rw [ha] at hea
    split at h
    · rename_i T cs hx
      split at h
      · rename_i new hnew
        split at h
        · rename_i hsz hfit
          simp at h; subst h
          have hsz := Nat.eq_of_beq_eq_true hsz
          have hfit := Nat.le_of_ble_eq_true hfit
          obtain ⟨p, hp, b, Cp, vs, rfl, hw, hdl, h1, hH⟩ := hS.obs ob _ hx
          simp only [fzH] at hH
          simp only [SV.den] at hea
          obtain ⟨b', C', e1, e2⟩ := hea _ hp
          simp at e1; obtain ⟨rfl, rfl⟩ := e1
          obtain ⟨g1, g2⟩ := cells_sound hS hnew hex
          have hlen := denL_length _ _ hdl
          have hlen2 := denL_length _ _ g1
          have hcsz : (ev x).cells.size = ti.size := by rw [← Array.length_toList, ← hlen2, hsz]
          have hrun := run_storeVar_at (P := P) (off := off) hok hw hcsz (by rw [← Array.length_toList, ← hlen]; omega) g2
          obtain ⟨f1, f2⟩ := setRow_facts w hw (vs.toList.take off ++ (ev x).cells.toList ++ vs.toList.drop (off + ti.size)).toArray
          refine does_skip (by simp only [execOp, hop, Instr.storeAt, Instr.sureAddr, e2, Sem.run_bind, Sem.run_pure, Result.andThen_ok, hrun]; rfl) ?_
          refine ⟨ρ, ?_, Env.le.refl _ _, den_any _, trivial⟩
          show Sat P B ρ ({ σ with ob := (ob, _) :: (doFz σ [] ++ σ.ob) } : St).obj _
          simp only [doFz, List.nil_append]
          rw [obj_wr1]
          refine set_obj hS hp hH _ f1 ?_
          refine ⟨b, Cp, _, rfl, f2, ?_, ?_, by simpa [fzH] using hH⟩
          · have := denL_overlay (off := off) hdl g1
            simp only [Array.length_toList, hcsz] at this
            simpa using this
          · intro u hu
            simp only [List.mem_append] at hu
            rcases hu with (hu | hu) | hu
            · exact h1 u (List.mem_of_mem_take hu)
            · exact g2 u hu
            · exact h1 u (List.mem_of_mem_drop hu)
        · cases h
      · cases h
    · cases h
  · rename_i ob u i off ha
    rw [ha] at hea
    split at h
    · rename_i E t nl l hx
      split at h
      · rename_i l' hc
        obtain ⟨e, rfl⟩ := cast?_some hc
        cases e
        simp only [castD] at h
        split at h
        · rename_i d hk hd
          split at h
          · rename_i y hy
            simp at h; subst h
            obtain ⟨p, hp, k1, k0, k2⟩ := hS.obs ob _ hx
            simp only [SV.den] at hea
            obtain ⟨hi, b, Cp, rfl, e2⟩ := hea p hp
            obtain ⟨k3, vs, hw, hvs, hlC, hCm, hr, hH⟩ := k2
            simp only [fzH] at hH
            obtain ⟨ka, ks⟩ := hok.known hk
            have hF : Frz σ σ [] := fun o => ⟨.inl rfl, fun ho => by simp at ho⟩
            have hrv := toDat_sound hS hF hd (fun o ho => by simp at ho) hex
            have hcsz : (ev x).cells.size = ti.size := by rw [hrv.2.1, ks]
            obtain ⟨_, g2⟩ := encode_sound (P := P) (ρ := ρ) ti.ty d (ev x).cells.toList (by simpa using hrv.2.1) (ti.ty.rd_congr _ _ _ (fun i _ => by simp) hrv.2.2)
            have hfits := put_sound.put_fits u off ti.ty _ d y hy
            have hil : i < l.length := by omega
            have hmul : i * u.size + u.size ≤ Cp * u.size := by rw [← Nat.succ_mul]; exact Nat.mul_le_mul_right _ (by omega)
            have hrun := run_storeVar_at (P := P) (off := i * u.size + off) hok hw hcsz (by rw [hvs]; omega) g2
            obtain ⟨f1, f2⟩ := setRow_facts w hw (vs.toList.take (i * u.size + off) ++ (ev x).cells.toList ++ vs.toList.drop (i * u.size + off + ti.size)).toArray
            -- what a cell holds now
            have hcell : ∀ k, (vs.toList.take (i * u.size + off) ++ (ev x).cells.toList ++ vs.toList.drop (i * u.size + off + ti.size)).toArray[k]? =
                if k < i * u.size + off then vs[k]? else if k < i * u.size + off + ti.size then (ev x).cells[k - (i * u.size + off)]? else vs[k]? := by
              intro k
              have hl1 : (vs.toList.take (i * u.size + off)).length = i * u.size + off := by simp; omega
              by_cases c1 : k < i * u.size + off
              · rw [if_pos c1]
                simp only [List.getElem?_toArray, List.append_assoc]
                rw [List.getElem?_append_left (by omega), List.getElem?_take_of_lt c1]; simp
              · rw [if_neg c1]
                by_cases c2 : k < i * u.size + off + ti.size
                · rw [if_pos c2]
                  simp only [List.getElem?_toArray, List.append_assoc]
                  rw [List.getElem?_append_right (by omega), hl1, List.getElem?_append_left (by simp [hcsz]; omega)]; simp
                · rw [if_neg c2]
                  simp only [List.getElem?_toArray, List.append_assoc]
                  rw [List.getElem?_append_right (by omega), hl1, List.getElem?_append_right (by simp [hcsz]; omega), List.getElem?_drop]
                  simp only [Array.length_toList, hcsz, Array.getElem?_toList]
                  congr 1; omega
            refine does_skip (by simp only [execOp, hop, Instr.storeAt, Instr.sureAddr, e2, Sem.run_bind, Sem.run_pure, Result.andThen_ok, hrun]; rfl) ?_
            refine ⟨ρ, ?_, Env.le.refl _ _, den_any _, trivial⟩
            show Sat P B ρ ({ σ with ob := (ob, _) :: (doFz σ [] ++ σ.ob) } : St).obj _
            simp only [doFz, List.nil_append]
            rw [obj_wr1]
            refine set_obj hS hp hH _ f1 ?_
            refine ⟨by simpa using k1, by simpa using k0, fun hn => by simpa using k3 hn, _, f2, ?_, by simpa using hlC, hCm, ?_, by simpa [fzH] using hH⟩
            · simp only [List.size_toArray, List.length_append, List.length_take, List.length_drop, Array.length_toList, hcsz]
              omega
            · intro k z hz
              rw [List.getElem?_set] at hz
              split at hz
              · rename_i hik
                subst hik
                · simp at hz; subst hz
                  have hget : l[i]? = some (@nth _ ⟨u.dflt⟩ l i) := by
                    unfold nth
                    rw [List.getD_eq_getElem?_getD, List.getElem?_eq_getElem (by omega)]
                    simp
                  refine put_sound u off ti.ty _ d y _ _ hy (hr i _ hget) ?_ ?_
                  · refine ti.ty.rd_congr _ _ _ (fun j hj => ?_) hrv.2.2
                    rw [hcell, if_neg (by omega), if_pos (by omega)]
                    congr 1; omega
                  · intro j hj
                    rw [hcell]
                    rcases hj with hj | hj
                    · rw [if_pos (by omega)]
                    · rw [if_neg (by omega), if_neg (by omega)]
              · rename_i hik
                refine u.rd_congr _ _ _ (fun j hj => ?_) (hr k z hz)
                rw [hcell]
                rcases Nat.lt_or_gt_of_ne hik with c | c
                · have : (i + 1) * u.size ≤ k * u.size := Nat.mul_le_mul_right _ c
                  rw [Nat.succ_mul] at this
                  rw [if_neg (by omega), if_neg (by omega)]
                · have : (k + 1) * u.size ≤ i * u.size := Nat.mul_le_mul_right _ c
                  rw [Nat.succ_mul] at this
                  rw [if_pos (by omega)]
          · cases h
        · cases h
      · cases h
    · cases h
  · cases h

/-! ### Small ones -/

theorem does_nilCheck {dst : Nat} {x : Operand} (hop : o.op = .nilCheck x) (h : evalOp C σ dst (.nilCheck x) = some out) (hS : Sat P B ρ σ.obj w) (hev : SV.den P ρ (opnd σ x) (ev x)) :
    OpDoes P o ev w (Leaves P B ρ σ out) := by
  simp only [evalOp] at h
  split at h
  · rename_i ob off hx
    rw [hx] at hev
    split at h
    · rename_i hl
      simp at h; subst h
      obtain ⟨p, hp⟩ := live_blk hS hl
      have hev' := hev
      simp only [SV.den] at hev'
      obtain ⟨b, Cp, _, e⟩ := hev' p hp
      exact does_plain hS (v := ev x) (by simp [execOp, hop, e]) hev trivial
    · cases h
  · rename_i t d hx
    rw [hx] at hev
    simp at h; subst h
    have hev' := hev
    simp only [SV.den] at hev'
    obtain ⟨b, k, c, e, _⟩ := hev'
    exact does_plain hS (v := ev x) (by simp [execOp, hop, e]) hev trivial
  · cases h

theorem does_unOp {dst T : Nat} {op : UnOp} {x : Operand} (hop : o.op = .unOp op T x) (h : evalOp C σ dst (.unOp op T x) = some out) (hS : Sat P B ρ σ.obj w) (hev : SV.den P ρ (opnd σ x) (ev x)) (hvc : AllP out.vc) :
    OpDoes P o ev w (Leaves P B ρ σ out) := by
  simp only [evalOp] at h
  cases op <;> simp only [reduceCtorEq] at h
  case not =>
    split at h
    · rename_i b hx
      simp at h; subst h
      rw [hx] at hev
      simp only [SV.den] at hev
      exact does_plain hS (v := .bool (!b)) (by simp [execOp, hop, bool_of_rv hev, Op.unary]) (rv_bool _) trivial
    · cases h
  case neg =>
    split at h
    · rename_i a hx
      simp at h; subst h
      have := asInt_den hx hev
      simp only [AllP] at hvc
      refine does_plain hS (v := .int .i64 (-a)) ?_ (rv_int _) trivial
      have hw : IntKind.i64.wrap (-a) = -a := wrap_of_in hvc.1
      simp [execOp, hop, this, Op.unary, Op.intArith, hw]
    · cases h

theorem wrap_u64 {a : Int} (h0 : 0 ≤ a) (h1 : a ≤ 18446744073709551615) : IntKind.u64.wrap a = a := by
  unfold IntKind.wrap
  simp [IntKind.signed, IntKind.bits]
  omega

theorem wrap_u8 {a : Int} (h0 : 0 ≤ a) (h1 : a ≤ 255) : IntKind.u8.wrap a = a := by
  unfold IntKind.wrap
  simp [IntKind.signed, IntKind.bits]
  omega

theorem asIx_den {sv : SV} {i : Int} (h : asIx sv = some i) {v : Value} (hv : SV.den P ρ sv v) : ∃ k, v = .int k i := by
  unfold asIx at h
  split at h
  · simp at h; subst h
    simp only [SV.den] at hv
    exact ⟨_, int_of_rv hv⟩
  · simp at h; subst h
    simp only [SV.den] at hv
    exact ⟨_, uint_of_rv hv⟩
  · cases h

theorem does_index {U dst : Nat} {x ix : Operand} (hC : C.ok P) (hop : o.op = .index U x ix) (h : evalOp C σ dst (.index U x ix) = some out) (hS : Sat P B ρ σ.obj w) (hex : SV.den P ρ (opnd σ x) (ev x))
    (hei : SV.den P ρ (opnd σ ix) (ev ix)) (hvc : AllP out.vc) : OpDoes P o ev w (Leaves P B ρ σ out) := by
  simp only [evalOp] at h
  split at h
  case h_2 => cases h
  rename_i s i hU hx hi
  simp at h; subst h
  simp only [AllP] at hvc
  rw [hx] at hex
  simp only [SV.den] at hex
  obtain ⟨k, hi⟩ := asIx_den hi hei
  have hlt : i.toNat < s.size := by omega
  refine does_plain hS (v := .int .u8 (strAt s i.toNat)) ?_ (rv_uint _ _) trivial
  simp only [execOp, hop, hex, hi, Sem.run_bind, run_index_string _ _ _ _ _ (hC.str _ hU)]
  rw [dif_pos ⟨hvc.1, hvc.2.1⟩]
  simp only [Result.andThen_ok, Sem.run_pure]
  congr 3
  unfold strAt
  have h2 : i.toNat < s.data.toList.length := by simpa using hlt
  rw [List.getD_eq_getElem?_getD, List.getElem?_eq_getElem h2]
  rfl

theorem does_convert {V U dst : Nat} {x : Operand} (hC : C.ok P) (hop : o.op = .convert V U x) (h : evalOp C σ dst (.convert V U x) = some out) (hS : Sat P B ρ σ.obj w) (hev : SV.den P ρ (opnd σ x) (ev x)) (hvc : AllP out.vc) :
    OpDoes P o ev w (Leaves P B ρ σ out) := by
  simp only [evalOp] at h
  split at h
  case h_2 => cases h
  rename_i tv ti htv hti
  obtain ⟨rfl, hok⟩ := hC.ti _ _ hti
  obtain ⟨rfl, hokV⟩ := hC.ti _ _ htv
  have hv : ∃ d, P.underlying tv.id = some d := by
    cases hg : tv.agg with
    | true =>
      cases hr : tv.arr with
      | false => obtain ⟨fs, e, _⟩ := hokV.str hg hr; exact ⟨_, e⟩
      | true => obtain ⟨_, n, ie, e, _⟩ := hokV.arrk hr; exact ⟨_, e⟩
    | false => obtain ⟨d, e, _⟩ := hokV.flat hg; exact ⟨_, e⟩
  obtain ⟨dv, hdv⟩ := hv
  have hrun : ∀ (k k' : IntKind) (a : Int), P.underlying ti.id = some (.int k) → ev x = .int k' a → (execOp ev o).run P w = .ok (.value (.int k (k.wrap a))) w := by
    intro k k' a hu e
    simp only [execOp, hop, e, convert, Sem.run_bind, run_underlying hdv, run_underlying hu, Result.andThen_ok]
    cases dv <;> simp [Conv.intToInt]
  split at h
  · rename_i hta hty
    obtain ⟨d, g1, _, _, _, _, g2, _⟩ := hok.flat hta
    rw [g2 hty] at g1
    split at h
    · rename_i a hx
      simp at h; subst h
      simp only [AllP] at hvc
      refine does_plain hS (v := .int .i64 a) ?_ (rv_int _) trivial
      rw [hrun _ _ a g1 (asInt_den hx hev), wrap_of_in hvc.1]
    · split at h
      · rename_i a hx
        simp at h; subst h
        simp only [AllP] at hvc
        obtain ⟨k, e⟩ := asUint_den hx hev
        refine does_plain hS (v := .int .i64 a) ?_ (rv_int _) trivial
        rw [hrun _ _ a g1 e, wrap_of_in hvc.1]
      · cases h
  · rename_i hta hty
    obtain ⟨d, g1, _, _, _, _, _, g3⟩ := hok.flat hta
    rw [g3 _ hty] at g1
    split at h
    · rename_i a hx
      simp at h; subst h
      simp only [AllP] at hvc
      refine does_plain hS (v := .int .u64 a) ?_ (rv_uint _ _) trivial
      rw [hrun _ _ a g1 (asInt_den hx hev), wrap_u64 hvc.1 hvc.2.1]
    · cases h
  · rename_i hta hty
    obtain ⟨d, g1, _, _, _, _, _, g3⟩ := hok.flat hta
    rw [g3 _ hty] at g1
    split at h
    · rename_i a hx
      simp at h; subst h
      simp only [AllP] at hvc
      obtain ⟨k, e⟩ := asUint_den hx hev
      refine does_plain hS (v := .int .u8 a) ?_ (rv_uint _ _) trivial
      rw [hrun _ _ a g1 e, wrap_u8 hvc.1 hvc.2.1]
    · cases h
  · cases h

theorem denL_map {ev : Operand → Value} (hev : ∀ x, SV.den P ρ (opnd σ x) (ev x)) : ∀ (l : List Operand), SV.denL P ρ (l.map (opnd σ)) (l.map ev)
  | [] => by simp [SV.denL]
  | x :: l => by simp only [List.map_cons, SV.denL]; exact ⟨ev x, l.map ev, rfl, hev x, denL_map hev l⟩

theorem does_makeFunc {dst : Nat} {f : Fn} {firsts caps : Array Operand} (hop : o.op = .makeFunc f firsts caps) (h : evalOp C σ dst (.makeFunc f firsts caps) = some out) (hS : Sat P B ρ σ.obj w)
    (hev : ∀ x, SV.den P ρ (opnd σ x) (ev x)) : OpDoes P o ev w (Leaves P B ρ σ out) := by
  simp only [evalOp] at h
  split at h
  · rename_i f' hf
    have hf : firsts = #[] := by simpa using hf
    subst hf
    simp at h; subst h
    refine does_plain hS (v := .func (.func f') #[] (caps.map ev)) (by simp [execOp, hop, Instr.makeFunc]) ?_ trivial
    simp only [SV.den]
    exact ⟨_, rfl, by simpa using denL_map hev caps.toList⟩
  · cases h

theorem does_extract {dst i : Nat} {x : Operand} (hop : o.op = .extract x i) (h : evalOp C σ dst (.extract x i) = some out) (hS : Sat P B ρ σ.obj w) (hev : SV.den P ρ (opnd σ x) (ev x)) :
    OpDoes P o ev w (Leaves P B ρ σ out) := by
  simp only [evalOp] at h
  split at h
  · rename_i vs hx
    rw [hx] at hev
    split at h
    · rename_i v hv
      simp at h; subst h
      simp only [SV.den] at hev
      obtain ⟨us, e, hd⟩ := hev
      obtain ⟨u, e1, e2⟩ := sub_getElem? hd hv
      exact does_plain hS (v := u) (by simp [execOp, hop, e, Instr.extract, e1]) e2 trivial
    · cases h
  · cases h

theorem does_len {c : Call} (hC : C.ok P) (hop : o.op = .call c) (hc : c.callee = .builtin .len)
    (h : lenSV C σ c.args.toList c.argTypes.toList = some out) (hS : Sat P B ρ σ.obj w) (hev : ∀ x, SV.den P ρ (opnd σ x) (ev x)) :
    OpDoes P o ev w (Leaves P B ρ σ out) := by
  unfold lenSV at h
  split at h
  case h_2 => cases h
  rename_i x U hargs htys
  split at h
  case h_2 => cases h
  case h_3 =>
    split at h
    case h_2 => cases h
    rename_i ti tk te hmp
    split at h
    case h_2 => cases h
    rename_i l hl
    simp at h; subst h
    have hargs : c.args = #[x] := by rw [← Array.toList_inj]; exact hargs
    have htys : c.argTypes = #[U] := by rw [← Array.toList_inj]; exact htys
    obtain ⟨_, _, _, hund, _⟩ := mapT_info hC hmp
    rcases mapOf_sound hS hl (hev x) with ⟨e, rfl⟩ | ⟨b, es, clock, e, e1, e2⟩
    · exact does_plain hS (v := .int .i64 0) (by simp [execOp, hop, hc, hargs, htys, resolve, invoke, builtin, e, Builtin.len_, run_underlying hund, goInt]) (rv_int _) trivial
    · refine does_plain hS (v := .int .i64 l.length) ?_ (rv_int _) trivial
      have hg : (getObj b).run P w = .ok (.map es clock) w := by simp [getObj, Sem.run, e1]
      simp [execOp, hop, hc, hargs, htys, resolve, invoke, builtin, e, Builtin.len_, run_underlying hund, goInt, hg, e2.1]
  rename_i te f n hsl hlen
  simp at h; subst h
  have hargs : c.args = #[x] := by rw [← Array.toList_inj]; exact hargs
  have htys : c.argTypes = #[U] := by rw [← Array.toList_inj]; exact htys
  have hev := hev x
  obtain ⟨_, _, _, _, hund, _⟩ := slice_info hC hsl
  have hrun : ∀ (a : Option Addr) (m c : Nat), ev x = .slice a m c → (execOp ev o).run P w = .ok (.value (.int .i64 m)) w := by
    intro a m c e
    simp [execOp, hop, hc, hargs, htys, resolve, invoke, builtin, e, Builtin.len_, run_underlying hund, goInt]
  unfold lenOf at hlen
  split at hlen
  · rename_i t l hx
    simp at hlen; obtain ⟨rfl, rfl⟩ := hlen
    rw [hx] at hev
    have hr := rv_scalar (t := .slice t) rfl (by simpa [SV.den] using hev)
    obtain ⟨a, m, c, e1, e2, e3, e4, _⟩ := hr
    simp at e1
    exact does_plain hS (v := .int .i64 l.length) (by rw [hrun a m c e1, e2]) (rv_int _) ⟨e4, trivial⟩
  · rename_i ob t hx
    split at hlen
    · rename_i E t' fz nl l hob
      simp at hlen; obtain ⟨rfl, rfl⟩ := hlen
      rw [hx] at hev
      obtain ⟨p, hp, k1, k0, k2⟩ := hS.obs ob _ hob
      simp only [SV.den] at hev
      have hev := hev p hp
      cases p with
      | none =>
        obtain ⟨e1, e2⟩ := hev
        exact does_plain hS (v := .int .i64 l.length) (by rw [hrun _ _ _ e1, ← k1, e2]) (rv_int _) ⟨k0, trivial⟩
      | some q =>
        obtain ⟨e1, e2⟩ := hev
        exact does_plain hS (v := .int .i64 l.length) (by rw [hrun _ _ _ e1, k1]) (rv_int _) ⟨k0, trivial⟩
    · cases hlen
  · rename_i ob t lo m hx
    split at hlen
    · rename_i E t' fz nl l hob
      simp at hlen; obtain ⟨rfl, rfl⟩ := hlen
      rw [hx] at hev
      obtain ⟨p, hp, hs⟩ := hS.obs ob _ hob
      simp only [SV.den] at hev
      have hev := hev p hp
      cases p with
      | none =>
        obtain ⟨e1, e2⟩ := hev
        exact does_plain hS (v := .int .i64 m) (by rw [hrun _ _ _ e1, e2]) (rv_int _) ⟨by rw [e2]; decide, trivial⟩
      | some q =>
        obtain ⟨b, Cp⟩ := q
        obtain ⟨a, cap, e1, e2, e3, e4, _⟩ := hev
        have : m < 4611686018427387904 := by
          obtain ⟨k1, k0, _⟩ := hs; omega
        exact does_plain hS (v := .int .i64 m) (by rw [hrun _ _ _ e1]) (rv_int _) ⟨this, trivial⟩
    · cases hlen
  · rename_i v hx
    split at hlen
    · rename_i hn
      simp at hlen; obtain ⟨rfl, rfl⟩ := hlen
      rw [hx] at hev
      simp only [SV.den] at hev
      rw [nilSlice hn] at hev
      exact does_plain hS (v := .int .i64 0) (by rw [hrun _ _ _ hev]; rfl) (rv_int _) trivial
    · cases hlen
  · cases hlen

end
end Go.X
/-
  One operation: sound, operation by operation (comparisons, aggregates, min and max, the rest).
-/
namespace Go.X
open Go.RowKit (Below)

section
variable {P : Program} {B : Base} {C : Ctx} {σ : St} {ρ : Env} {w : World} {o : Oper} {ev : Operand → Value} {out : Out}

theorem does_move {x : Operand} (hop : o.op = .move x ∨ o.op = .assign x) (hS : Sat P B ρ σ.obj w) (hev : SV.den P ρ (opnd σ x) (ev x)) :
    OpDoes P o ev w (Leaves P B ρ σ (.pure (opnd σ x))) := by
  refine does_plain hS (v := ev x) ?_ hev trivial
  rcases hop with h | h <;> simp [execOp, h]

theorem does_panic (h : AllP [False]) {R : Value → World → Prop} : OpDoes P o ev w R := h.1.elim

theorem run_equal_nil {t e : Nat} {ad : Option Addr} {n c : Nat} (h : P.underlying t = some (.slice e)) : (Op.equal t (.slice ad n c) (.slice none 0 0)).run P w = .ok ad.isNone w := by
  have : ∀ d, (Op.equalIn (d + 1) t (.slice ad n c) (.slice none 0 0)).run P w = .ok ad.isNone w := by
    intro d
    cases ad <;> simp [Op.equalIn, run_underlying h]
  exact this 9999

theorem does_bin {op : BinOp} {T : Nat} {x y : Operand} {ft : Nat} (hC : C.ok P) (hop : o.op = .binOp op T x y ft) (h : binSV C σ op T (opnd σ x) (opnd σ y) = some out) (hS : Sat P B ρ σ.obj w)
    (hx : SV.den P ρ (opnd σ x) (ev x)) (hy : SV.den P ρ (opnd σ y) (ev y)) (hvc : AllP out.vc) : OpDoes P o ev w (Leaves P B ρ σ out) := by
  have go : ∀ (vx vy v : Value), ev x = vx → ev y = vy → (do eqGuard op T x y vx vy; binOp op T vx vy : Sem Value).run P w = .ok v w → Leaves P B ρ σ out v w → OpDoes P o ev w (Leaves P B ρ σ out) := by
    intro vx vy v e1 e2 hr hl
    refine does_value (v := v) (w' := w) ?_ hl
    subst e1 e2
    simp only [execOp, hop, Sem.run_bind] at hr ⊢
    cases hg : (eqGuard op T x y (ev x) (ev y)).run P w with
    | halt r w' => rw [hg] at hr; simp [Result.andThen] at hr
    | ok u w' => rw [hg] at hr; simp only [Result.andThen_ok] at hr ⊢; rw [hr]; simp
  unfold binSV at h
  split at h
  · rename_i a b ha hb
    rw [ha] at hx; rw [hb] at hy
    obtain ⟨v, hr, hl⟩ := binInt_sound (P := P) (U := T) (X := x) (Y := y) h hvc hS
    exact go _ _ v (int_of_rv (by simpa [SV.den] using hx)) (int_of_rv (by simpa [SV.den] using hy)) hr hl
  · rename_i a k b ha hb
    rw [ha] at hx; rw [hb] at hy
    have ex := int_of_rv (by simpa [SV.den] using hx)
    have ey := uint_of_rv (by simpa [SV.den] using hy)
    have same : ∀ op', (op' = .shl ∨ op' = .shr) → op = op' → binInt op' a b = some out → OpDoes P o ev w (Leaves P B ρ σ out) := by
      intro op' hc e hb
      subst e
      obtain ⟨v, hr, hl⟩ := binInt_sound (P := P) (U := T) (X := x) (Y := y) hb hvc hS
      refine go _ _ v ex ey ?_ hl
      rw [← hr]
      rcases hc with rfl | rfl <;> simp [eqGuard, binOp, Op.shift]
    split at h
    · exact same .shl (.inl rfl) rfl h
    · exact same .shr (.inr rfl) rfl h
    · cases h
  · rename_i a b ha hb
    rw [ha] at hx; rw [hb] at hy
    obtain ⟨v, hr, hl⟩ := binU_sound (P := P) (U := T) (X := x) (Y := y) h hvc hS
    exact go _ _ v (uint_of_rv (by simpa [SV.den] using hx)) (uint_of_rv (by simpa [SV.den] using hy)) hr hl
  · split at h
    · cases h
    rename_i ti hti
    obtain ⟨rfl, hok⟩ := hC.ti _ _ hti
    split at h
    · rename_i hcmp
      have hF : Frz σ σ [] := fun o => ⟨.inl rfl, fun ho => by simp at ho⟩
      split at h
      · rename_i a b ha hb
        have rx := toDat_sound hS hF ha (fun o ho => by simp at ho) hx
        have ry := toDat_sound hS hF hb (fun o ho => by simp at ho) hy
        have key := fun ho => hok.eqs hcmp ρ.H _ _ a b w rx ry op x y ho
        split at h
        · simp at h; subst h
          exact go _ _ _ rfl rfl (key (.inl rfl)) (leaves_same hS (rv_bool _) trivial)
        · simp at h; subst h
          exact go _ _ _ rfl rfl (key (.inr rfl)) (leaves_same hS (rv_bool _) trivial)
        · cases h
      · cases h
    · split at h
      · rename_i hn hsl
        obtain ⟨d, hd, _, _, _, hs, _⟩ := hok.flat (hok.slf hsl)
        rw [hs hsl] at hd
        have ey : ev y = .slice none 0 0 := by
          unfold isNil at hn
          split at hn
          · rename_i v hv
            rw [hv] at hy
            simp only [SV.den] at hy
            rw [hy, nilSlice hn]
          · cases hn
        split at h
        · rename_i b hb
          have hrun : ∀ (ad : Option Addr) (n c : Nat), ev x = .slice ad n c → b = ad.isNone → (op = .eql ∨ op = .neq) →
              (do eqGuard op ti.id x y (.slice ad n c) (.slice none 0 0); binOp op ti.id (.slice ad n c) (.slice none 0 0) : Sem Value).run P w = .ok (.bool (match op with | .eql => b | _ => !b)) w := by
            intro ad n c _ hbe ho
            subst hbe
            have he := run_equal_nil (w := w) (ad := ad) (n := n) (c := c) hd
            rcases ho with rfl | rfl <;> simp [eqGuard, binOp, he]
          have hval : ∃ ad n c, ev x = .slice ad n c ∧ b = ad.isNone := by
            unfold nilTest at hb
            split at hb
            · rename_i ob t hxo
              rw [hxo] at hx
              simp only [SV.den] at hx
              split at hb
              · rename_i E t' fz l hob
                simp at hb; subst hb
                obtain ⟨p, hp, k1, k0, k2⟩ := hS.obs ob _ hob
                have hx := hx p hp
                cases p with
                | none => obtain ⟨e1, _⟩ := hx; obtain ⟨rfl, _⟩ := k2; exact ⟨_, _, _, e1, rfl⟩
                | some q => obtain ⟨e1, _⟩ := hx; obtain ⟨k3, _⟩ := k2; refine ⟨_, _, _, e1, ?_⟩; have := k3 rfl; simp [this]
              · rename_i E t' fz l hob
                simp at hb; subst hb
                obtain ⟨p, hp, k1, k0, k2⟩ := hS.obs ob _ hob
                have hx := hx p hp
                cases p with
                | none => obtain ⟨_, e⟩ := k2; exact absurd rfl e
                | some q => obtain ⟨e1, _⟩ := hx; exact ⟨_, _, _, e1, rfl⟩
              · cases hb
            · rename_i v hv
              rw [hv] at hx
              simp only [SV.den] at hx
              split at hb
              · rename_i hn'
                simp at hb; subst hb
                exact ⟨none, 0, 0, by rw [hx, nilSlice hn'], rfl⟩
              · cases hb
            · cases hb
          obtain ⟨ad, n, c, ex, hbe⟩ := hval
          split at h
          · simp at h; subst h
            exact go _ _ _ ex ey (hrun ad n c ex hbe (.inl rfl)) (leaves_same hS (rv_bool _) trivial)
          · simp at h; subst h
            exact go _ _ _ ex ey (hrun ad n c ex hbe (.inr rfl)) (leaves_same hS (rv_bool _) trivial)
          · cases h
        · cases h
      · cases h

/-! ### Aggregates -/

theorem does_field {U dst f : Nat} {x : Operand} (hC : C.ok P) (hop : o.op = .field U x f) (h : evalOp C σ dst (.field U x f) = some out) (hS : Sat P B ρ σ.obj w)
    (hx : SV.den P ρ (opnd σ x) (ev x)) : OpDoes P o ev w (Leaves P B ρ σ out) := by
  simp only [evalOp] at h
  split at h
  case h_2 => cases h
  rename_i ti hti
  obtain ⟨rfl, hok⟩ := hC.ti _ _ hti
  split at h
  case h_2 => cases h
  rename_i off ft hf
  obtain ⟨hf, harr⟩ := flds_some hf
  split at h
  case h_2 => cases h
  rename_i tf htf
  obtain ⟨rfl, hokF⟩ := hC.ti _ _ htf
  have hagg : ti.agg = true := by
    cases ha : ti.agg with
    | true => rfl
    | false => rw [hok.flf ha] at hf; simp at hf
  obtain ⟨fs, hfs, _, hfk⟩ := hok.str hagg harr
  obtain ⟨fd, hfd, e1, e2⟩ := hfk f _ hf
  simp only at e1 e2
  obtain ⟨_, _, _, _, _, hsz, _⟩ := run_info hokF
  have hia := run_isAgg hokF
  have hrunA : ∀ cs : Array Value, ev x = .agg cs → tf.agg = true → (execOp ev o).run P w = .ok (.value (.agg (cs.extract off (off + tf.size)))) w := by
    intro cs e ha
    simp [execOp, hop, Instr.field, run_underlying hfs, hfd, e, asAgg, part, e1, e2, hia, ha, hsz]
  have hrunS : ∀ (cs : Array Value) v, ev x = .agg cs → tf.agg = false → cs[off]? = some v → (execOp ev o).run P w = .ok (.value v) w := by
    intro cs v e ha hv
    simp [execOp, hop, Instr.field, run_underlying hfs, hfd, e, asAgg, part, e1, e2, hia, ha, hv]
  split at h
  · rename_i cs hxe
    rw [hxe] at hx
    simp only [SV.den] at hx
    obtain ⟨vs, ex, hd, h1⟩ := hx
    split at h
    · rename_i ha
      simp at h; subst h
      refine does_plain hS (hrunA vs ex ha) ?_ trivial
      simp only [SV.den]
      have hl : (vs.extract off (off + tf.size)).toList = (vs.toList.drop off).take tf.size := by
        simp [Array.toList_extract, List.extract_eq_take_drop]
      exact ⟨_, rfl, by rw [hl]; exact denL_take _ _ _ (denL_drop _ _ _ hd), fun u hu => h1 u (by rw [hl] at hu; exact List.mem_of_mem_drop (List.mem_of_mem_take hu))⟩
    · rename_i ha
      split at h
      · rename_i v hv
        simp at h; subst h
        obtain ⟨u, hu, hdu⟩ := sub_getElem? hd hv
        exact does_plain hS (hrunS vs u ex ha hu) hdu trivial
      · cases h
  · rename_i t d hxe
    rw [hxe] at hx
    simp only [SV.den] at hx
    split at h
    · rename_i y hta hk hsub
      simp at h; subst h
      obtain ⟨ka, ks⟩ := hokF.known hk
      obtain ⟨r1, r2, r3⟩ := hx
      have hrd := sub_sound t off tf.ty d y _ hsub r3
      have hex : ∃ cs, ev x = .agg cs := by
        rw [hta] at r1
        cases hv : ev x <;> simp_all [isAggV]
      obtain ⟨cs, ex⟩ := hex
      rw [ex] at hrd
      simp only [Value.cells] at hrd
      cases ha : tf.agg with
      | true =>
        refine does_plain hS (hrunA cs ex ha) ?_ trivial
        simp only [SV.den]
        have hpos := (hokF.pos hk).1
        have hsz : off + tf.size ≤ cs.size := by
          obtain ⟨v, e, _⟩ := rd_some _ _ _ hrd (tf.size - 1) (by omega)
          have := (Array.getElem?_eq_some_iff.1 e).1
          omega
        refine ⟨by simp [isAggV, ka, ha], by simp [Value.cells, ks]; omega, tf.ty.rd_congr _ _ _ (fun i hi => ?_) hrd⟩
        simp only [Value.cells]
        rw [Array.getElem?_extract]
        simp [show i < min (off + tf.size) cs.size - off by omega]
      | false =>
        obtain ⟨v, e, _⟩ := rd_some _ _ _ hrd 0 (by have := (hokF.pos hk).1; omega)
        simp only [Nat.add_zero] at e
        refine does_plain hS (hrunS cs v ex ha e) ?_ trivial
        simp only [SV.den]
        exact rv_of_scalar (by rw [ka, ha]) (rd_scalar (f := fun j => cs[off + j]?) (by rw [ka, ha]) (by simpa using e) hrd)
    · cases h
  · cases h


/-- what a part's cells do to the whole's -/
theorem fold_set (l : List Value) : ∀ (off j : Nat) (cs : Array Value), off + j + l.length ≤ cs.size →
    ((l.zipIdx j).foldl (fun cs (c, j) => cs.setIfInBounds (off + j) c) cs).toList = cs.toList.take (off + j) ++ l ++ cs.toList.drop (off + j + l.length) := by
  induction l with
  | nil => intro off j cs h; simp
  | cons a l ih =>
    intro off j cs h
    simp only [List.length_cons] at h
    simp only [List.zipIdx_cons, List.foldl_cons]
    rw [show off + j + (a :: l).length = off + (j + 1) + l.length by simp; omega, ih off (j + 1) _ (by simp; omega)]
    simp only [Array.toList_setIfInBounds]
    have h1 : (cs.toList.set (off + j) a).take (off + (j + 1)) = cs.toList.take (off + j) ++ [a] := by
      rw [List.take_set, show off + (j + 1) = off + j + 1 by omega, List.take_add_one]
      rw [List.set_append_right _ _ (by simp; omega)]
      have hlt : off + j < cs.toList.length := by simp; omega
      have : cs.toList[off + j]? = some cs.toList[off + j] := List.getElem?_eq_getElem hlt
      rw [this]
      have : off + j - (cs.toList.take (off + j)).length = 0 := by simp; omega
      rw [this]
      simp
    have h2 : (cs.toList.set (off + j) a).drop (off + (j + 1) + l.length) = cs.toList.drop (off + (j + 1) + l.length) := by
      rw [List.drop_set_of_lt (by omega)]
    rw [h1, h2]
    simp

theorem places_ok {ti : TI} (hok : ti.ok P) (ha : ti.agg = true) (hr : ti.arr = false) : ∃ fs places, P.underlying ti.id = some (.struct fs) ∧
    fs.toList.mapM (fun f => (P.info? f.type).map fun i => (f.offset, i.size)) = some places ∧
    ∀ (k : Nat) (p : Nat × Nat), ti.fields[k]? = some p → ∃ i, P.info? p.2 = some i ∧ places[k]? = some (p.1, i.size) := by
  obtain ⟨fs, h1, h2, h3⟩ := hok.str ha hr
  have main : ∀ (fl : List Field) (l : List (Nat × Nat)), fl.length = l.length → (∀ (k : Nat) (p : Nat × Nat), l[k]? = some p → ∃ f : Field, fl[k]? = some f ∧ f.offset = p.1 ∧ f.type = p.2) →
      (∀ (k : Nat) (p : Nat × Nat), l[k]? = some p → ∃ i, P.info? p.2 = some i) →
      ∃ places, fl.mapM (fun f => (P.info? f.type).map fun i => (f.offset, i.size)) = some places ∧ ∀ (k : Nat) (p : Nat × Nat), l[k]? = some p → ∃ i, P.info? p.2 = some i ∧ places[k]? = some (p.1, i.size) := by
    intro fl
    induction fl with
    | nil => intro l hl _ _; cases l with
      | nil => exact ⟨[], by simp, fun k p hk => by simp at hk⟩
      | cons => simp at hl
    | cons f fl ih =>
      intro l hl hf hi
      cases l with
      | nil => simp at hl
      | cons p l =>
        obtain ⟨places, e1, e2⟩ := ih l (by simpa using hl) (fun k q hk => by simpa using hf (k + 1) q (by simpa using hk)) (fun k q hk => hi (k + 1) q (by simpa using hk))
        obtain ⟨f', g1, g2, g3⟩ := hf 0 p (by simp)
        simp at g1; subst g1
        obtain ⟨i, hi0⟩ := hi 0 p (by simp)
        refine ⟨(f.offset, i.size) :: places, ?_, fun k q hk => ?_⟩
        · simp [List.mapM_cons, g3, hi0, e1]
        · cases k with
          | zero => simp at hk; subst hk; exact ⟨i, hi0, by simp [g2]⟩
          | succ k => simpa using e2 k q (by simpa using hk)
  obtain ⟨places, e1, e2⟩ := main fs.toList ti.fields (by simpa using h2) (fun k p hk => by simpa using h3 k p hk) hok.fok
  exact ⟨fs, places, h1, e1, e2⟩

theorem fillParts_sound (hC : C.ok P) (hS : Sat P B ρ σ.obj w) {fields : List (Nat × Nat)} {pl : Nat → Option (Nat × Nat)}
    (hp : ∀ (k : Nat) (p : Nat × Nat), fields[k]? = some p → ∃ i, P.info? p.2 = some i ∧ pl k = some (p.1, i.size)) (hev : ∀ x, SV.den P ρ (opnd σ x) (ev x)) :
    ∀ (parts : List (Nat × Operand)) (cs cs' : List SV) (vs : Array Value), fillParts C σ fields parts cs = some cs' → SV.denL P ρ cs vs.toList → (∀ u ∈ vs.toList, u.oneCell' = true) →
      ∃ vs', Instr.fill pl vs (parts.map fun (i, x) => (i, ev x)) = some vs' ∧ SV.denL P ρ cs' vs'.toList ∧ ∀ u ∈ vs'.toList, u.oneCell' = true
  | [], cs, cs', vs, h, hd, h1 => by
    simp [fillParts] at h; subst h
    exact ⟨vs, rfl, hd, h1⟩
  | (j, x) :: r, cs, cs', vs, h, hd, h1 => by
    simp only [fillParts] at h
    split at h
    case h_2 => cases h
    rename_i off ft hf
    split at h
    case h_2 => cases h
    rename_i new tf hnew htf
    split at h
    case h_2 => cases h
    rename_i hsz hfit
    have hsz := Nat.eq_of_beq_eq_true hsz
    have hfit := Nat.le_of_ble_eq_true hfit
    obtain ⟨e0, hokF⟩ := hC.ti _ _ htf
    obtain ⟨i, hi, hpl⟩ := hp j _ hf
    simp only at hi hpl
    obtain ⟨i', z, g0, g1, _⟩ := hokF.info
    rw [e0, hi] at g0
    simp at g0; subst g0
    obtain ⟨k1, k2⟩ := cells_sound hS hnew (hev x)
    have hl1 := denL_length _ _ hd
    have hl2 := denL_length _ _ k1
    have hcs : (ev x).cells.size = i.size := by rw [← Array.length_toList, ← hl2, hsz, g1]
    simp only [Array.length_toList] at hl1 hl2
    have hfold := fold_set (ev x).cells.toList off 0 vs (by simp; omega)
    obtain ⟨vs', r1, r2, r3⟩ := fillParts_sound hC hS hp hev r _ cs' ((ev x).cells.zipIdx.foldl (fun cs (c, j) => cs.setIfInBounds (off + j) c) vs) h (by
      have e : ((ev x).cells.zipIdx.foldl (fun cs (c, j) => cs.setIfInBounds (off + j) c) vs) = (((ev x).cells.toList.zipIdx 0).foldl (fun cs (c, j) => cs.setIfInBounds (off + j) c) vs) := by
        rw [← Array.foldl_toList]; simp
      rw [e, hfold]
      simp only [Nat.add_zero]
      exact denL_overlay hd k1) (by
      have e : ((ev x).cells.zipIdx.foldl (fun cs (c, j) => cs.setIfInBounds (off + j) c) vs) = (((ev x).cells.toList.zipIdx 0).foldl (fun cs (c, j) => cs.setIfInBounds (off + j) c) vs) := by
        rw [← Array.foldl_toList]; simp
      rw [e, hfold]
      intro u hu
      simp only [List.mem_append] at hu
      rcases hu with (hu | hu) | hu
      · exact h1 u (List.mem_of_mem_take hu)
      · exact k2 u hu
      · exact h1 u (List.mem_of_mem_drop hu))
    refine ⟨vs', ?_, r2, r3⟩
    simp only [List.map_cons, Instr.fill]
    rw [hpl]
    have hnot : ¬ ((ev x).cells.size ≠ i.size ∨ off + (ev x).cells.size > vs.size) := by omega
    simp only [Bool.or_eq_true, ne_eq, decide_eq_true_eq]
    rw [if_neg (by omega)]
    exact r1

theorem denL_ofVals : ∀ (l : List Value), SV.denL P ρ (l.map ofVal) l
  | [] => by simp [SV.denL]
  | a :: l => by simp only [List.map_cons, SV.denL]; exact ⟨a, l, rfl, den_ofVal a, denL_ofVals l⟩

theorem does_build {U dst : Nat} {parts : Array (Nat × Operand)} (hC : C.ok P) (hop : o.op = .build U parts) (h : evalOp C σ dst (.build U parts) = some out) (hS : Sat P B ρ σ.obj w)
    (hev : ∀ x, SV.den P ρ (opnd σ x) (ev x)) : OpDoes P o ev w (Leaves P B ρ σ out) := by
  simp only [evalOp] at h
  split at h
  case h_2 => cases h
  rename_i ti hti
  obtain ⟨rfl, hok⟩ := hC.ti _ _ hti
  split at h
  case h_2 => cases h
  rename_i cs ha hcs
  simp at h; subst h
  obtain ⟨i, z, g0, _, _, g1, g2, _⟩ := hok.info
  cases hr : ti.arr with
  | true =>
    obtain ⟨_, n, ie, h1, h2, h3, h4, _, _, h5⟩ := hok.arrk hr
    obtain ⟨vs', r1, r2, r3⟩ := fillParts_sound hC hS (pl := fun i => some (i * ie.size, ie.size)) (fun k p hk => by
      have := h5 k p hk
      subst this
      exact ⟨ie, h2, by rw [h3]; simp⟩) hev parts.toList _ cs z.cells hcs (by rw [g2]; exact denL_ofVals _) (fun u hu => hok.one u (by rw [← g2]; exact hu))
    refine does_plain hS (v := .agg vs') ?_ ?_ trivial
    · have hb : P.built ti.id (parts.map fun (i, x) => (i, ev x)).toList = some vs' := by
        unfold Program.built
        simp only [g0, h1, g1, h2]
        simpa using r1
      simp only [execOp, hop, Sem.run_bind, run_build w ti.id _ vs' hb, Result.andThen_ok]
      rfl
    · simp only [SV.den]
      exact ⟨vs', rfl, r2, r3⟩
  | false =>
  obtain ⟨fs, places, hfs, hpl, hp⟩ := places_ok hok ha hr
  obtain ⟨vs', r1, r2, r3⟩ := fillParts_sound hC hS (pl := (places.toArray[·]?)) (fun k p hk => by obtain ⟨i, e1, e2⟩ := hp k p hk; exact ⟨i, e1, by simpa using e2⟩) hev parts.toList _ cs z.cells hcs (by rw [g2]; exact denL_ofVals _) (fun u hu => hok.one u (by rw [← g2]; exact hu))
  refine does_plain hS (v := .agg vs') ?_ ?_ trivial
  · have hb : P.built ti.id (parts.map fun (i, x) => (i, ev x)).toList = some vs' := by
      unfold Program.built
      simp only [g0, hfs, g1, hpl]
      simpa using r1
    simp only [execOp, hop, Sem.run_bind, run_build w ti.id _ vs' hb, Result.andThen_ok]
    rfl
  · simp only [SV.den]
    exact ⟨vs', rfl, r2, r3⟩

/-! ### Rows of the call's own -/

theorem elemsAll_sound {τ : St} (hS : Sat P B ρ τ.obj w) {fz : List Nat} (hF : Frz σ τ fz) {t : Ty} (hev : ∀ x, SV.den P ρ (opnd σ x) (ev x)) :
    ∀ (parts : List (Nat × Operand)) (i : Nat) (l : List t.Data) (fz' : List Nat), elemsAll σ t parts i = some (l, fz') → (∀ o, o ∈ fz' → o ∈ fz) →
      ∃ vs : List Value, parts.map (fun (i, x) => (i, ev x)) = (vs.zipIdx i).map (fun x => (x.2, x.1)) ∧ vs.length = l.length ∧ (∀ v ∈ vs, v.cells.size = t.size) ∧ ∀ (k : Nat) v x, vs[k]? = some v → l[k]? = some x → t.rv ρ.H v x
  | [], i, l, fz', h, _ => by
    simp [elemsAll] at h
    obtain ⟨rfl, _⟩ := h
    exact ⟨[], rfl, rfl, fun v hv => by simp at hv, fun k v x hk => by simp at hk⟩
  | (j, x) :: r, i, l, fz', h, hs => by
    simp only [elemsAll] at h
    split at h
    case h_2 => cases h
    rename_i hij
    have hij := Nat.eq_of_beq_eq_true hij
    subst hij
    split at h
    case h_2 => cases h
    rename_i d f hd
    split at h
    case h_2 => cases h
    rename_i l' f' hr
    simp at h
    obtain ⟨rfl, rfl⟩ := h
    obtain ⟨vs, e1, e2, e3, e4⟩ := elemsAll_sound hS hF hev r (i + 1) l' f' hr (fun o ho => hs o (List.mem_append_right _ ho))
    have hrv := toDat_sound hS hF hd (fun o ho => hs o (List.mem_append_left _ ho)) (hev x)
    refine ⟨ev x :: vs, by simp [e1], by simp [e2], ?_, ?_⟩
    · intro v hv
      rcases List.mem_cons.1 hv with rfl | hv
      · exact hrv.2.1
      · exact e3 v hv
    · intro k v y hk hy
      cases k with
      | zero => simp at hk hy; subst hk hy; exact hrv
      | succ k => exact e4 k v y (by simpa using hk) (by simpa using hy)

theorem flat_cell {s : Nat} : ∀ (vs : List Value), (∀ v ∈ vs, v.cells.size = s) → ∀ (i j : Nat) (v : Value), vs[i]? = some v → j < s → (vs.flatMap fun v => v.cells.toList)[i * s + j]? = v.cells[j]?
  | [], _, i, j, v, h, _ => by simp at h
  | u :: vs, hs, i, j, v, h, hj => by
    have hu : u.cells.size = s := hs u List.mem_cons_self
    simp only [List.flatMap_cons]
    cases i with
    | zero => simp at h; subst h; simp only [Nat.zero_mul, Nat.zero_add]; rw [List.getElem?_append_left (by simp; omega)]; simp
    | succ i =>
      rw [List.getElem?_append_right (by simp [hu, Nat.succ_mul]; omega)]
      have := flat_cell vs (fun v hv => hs v (List.mem_cons_of_mem _ hv)) i j v (by simpa using h) hj
      rw [← this]
      congr 1
      simp [hu, Nat.succ_mul]; omega

theorem flat_len {s : Nat} : ∀ (vs : List Value), (∀ v ∈ vs, v.cells.size = s) → (vs.flatMap fun v => v.cells.toList).length = vs.length * s
  | [], _ => by simp
  | u :: vs, hs => by
    have hu : u.cells.size = s := hs u List.mem_cons_self
    simp only [List.flatMap_cons, List.length_append, List.length_cons, Array.length_toList, hu, flat_len vs (fun v hv => hs v (List.mem_cons_of_mem _ hv))]
    rw [Nat.succ_mul]; omega

end
end Go.X
/-
  One operation: sound, operation by operation (rows of the call's own: literals and append).
-/
namespace Go.X
open Go.RowKit (Below)

section
variable {P : Program} {B : Base} {C : Ctx} {σ : St} {ρ : Env} {w : World} {o : Oper} {ev : Operand → Value} {out : Out}

def swapO (obj : Nat → Option Ob) (own : Option Nat) (dst : Nat) (x : Ob) : Nat → Option Ob := fun o => if o = dst then some x else if own = some o then none else obj o

theorem put_row (hS : Sat P B ρ σ.obj w) {own : Option Nat} {dst : Nat} (hd : σ.obj dst = none) (hn : NoRef σ.obj dst) {w' : World} {row : Option Nat} (hg : w.grownBy w' row) (hdr : w.drawn ≤ w'.drawn)
    (hrow : ∀ g, row = some g → ∃ o C, own = some o ∧ ρ.blk o = some (some (g, C)) ∧ ρ.H g = none) (newp : Option (Nat × Nat)) (hnew : ∀ b C, newp = some (b, C) → row = some b ∨ b = w.heap.size) (len : Nat) (x : Ob)
    (hx : ∀ ρ' : Env, ρ'.H = ρ.H → ρ'.len dst = len → ρ.le ρ' [dst] → ObSat P ρ' w' dst newp x) :
    ∃ ρ', Sat P B ρ' (swapO σ.obj own dst x) w' ∧ ρ.le ρ' [dst] ∧ ρ'.blk dst = some newp ∧ ρ'.len dst = len ∧ ρ'.H = ρ.H := by
  have hbd := hS.dead dst hd
  let ρ' : Env := { H := ρ.H, blk := fun o => if o = dst then some newp else if own = some o then none else ρ.blk o, len := fun o => if o = dst then len else ρ.len o }
  have hle : ρ.le ρ' [dst] := ⟨fun _ _ h => h, fun o p ho hp => by
    have ho : o ≠ dst := by simpa using ho
    simp only [ρ', ho, if_false] at hp
    split at hp
    · cases hp
    · exact hp, fun o ho => by simp [ρ', show o ≠ dst by simpa using ho]⟩
  have hne : ∀ b, ρ.H b ≠ none → row ≠ some b := fun b hb e => by
    obtain ⟨_, _, _, _, h⟩ := hrow b e
    exact hb h
  refine ⟨ρ', ⟨hg.os.trans hS.os, hg.tape.trans hS.tape, hg.output.trans hS.output, Nat.le_trans hS.drawn hdr, Nat.le_trans hS.size hg.size, ?_, hS.oldH, ?_, ?_, ?_, ?_, ?_⟩, hle, by simp [ρ'], by simp [ρ'], rfl⟩
  · intro b c hb
    have := hne b (by show ρ.H b ≠ none; rw [show ρ.H b = some c from hb]; simp)
    rw [hg.block b (hS.good.lt hb) (fun e => this e.symm)]; exact hS.good b c hb
  · intro b hb hbo
    have h1 := hS.size
    rw [hg.block b (by omega) (fun e => ?_)]
    · exact hS.old b hb hbo
    · obtain ⟨o', C', _, e2, _⟩ := hrow b e.symm
      rcases hS.own o' b C' e2 with h2 | h2
      · omega
      · exact hbo h2
  · intro o' x' hx'
    unfold swapO at hx'
    by_cases e : o' = dst
    · subst e
      rw [if_pos rfl] at hx'
      simp at hx'; subst hx'
      exact ⟨_, by simp [ρ'], hx ρ' rfl (by simp [ρ']) hle⟩
    · rw [if_neg e] at hx'
      by_cases e' : own = some o'
      · rw [if_pos e'] at hx'; cases hx'
      · rw [if_neg e'] at hx'
        obtain ⟨p, hp, hs⟩ := hS.obs o' x' hx'
        refine ⟨p, by simp [ρ', e, e', hp], obSat_mono hle (by simpa using e) (fun T fz cs hcs o'' ho'' => ?_) (fun b C hpb => ⟨rfl, ?_⟩) hs⟩
        · simp at ho''; subst ho''; exact hn o' T fz cs (by rw [hx', hcs])
        · subst hpb
          refine hg.block b (blk_lt hS hp).1 fun er => ?_
          obtain ⟨o2, C2, h1, h2, _⟩ := hrow b er.symm
          exact e' (by rw [h1, hS.inj o2 o' b C2 C h2 hp])
  · intro o' ho'
    unfold swapO at ho'
    by_cases e : o' = dst
    · rw [if_pos e] at ho'; cases ho'
    · rw [if_neg e] at ho'
      by_cases e' : own = some o'
      · simp [ρ', e, e']
      · rw [if_neg e'] at ho'; simp [ρ', e, e', hS.dead o' ho']
  · have one : ∀ o2 b C1 C2, newp = some (b, C1) → o2 ≠ dst → own ≠ some o2 → ρ.blk o2 = some (some (b, C2)) → False := by
      intro o2 b C1 C2 h1 _ h3 h4
      rcases hnew b C1 h1 with h5 | h5
      · obtain ⟨o3, C3, h6, h7, _⟩ := hrow b h5
        exact h3 (by rw [h6, hS.inj o3 o2 b C3 C2 h7 h4])
      · have := (blk_lt hS h4).1; omega
    intro o1 o2 b C1 C2 h1 h2
    simp only [ρ'] at h1 h2
    by_cases e1 : o1 = dst <;> by_cases e2 : o2 = dst
    · rw [e1, e2]
    · simp [e1] at h1; simp only [e2, if_false] at h2
      split at h2
      · cases h2
      · rename_i e3; exact (one o2 b C1 C2 h1 e2 e3 h2).elim
    · simp [e2] at h2; simp only [e1, if_false] at h1
      split at h1
      · cases h1
      · rename_i e3; exact (one o1 b C2 C1 h2 e1 e3 h1).elim
    · simp only [e1, e2, if_false] at h1 h2
      split at h1
      · cases h1
      · split at h2
        · cases h2
        · exact hS.inj o1 o2 b C1 C2 h1 h2
  · intro o1 b C1 h1
    simp only [ρ'] at h1
    by_cases e1 : o1 = dst
    · simp [e1] at h1
      rcases hnew b C1 h1 with h5 | h5
      · obtain ⟨o3, C3, _, h7, _⟩ := hrow b h5; exact hS.own o3 b C3 h7
      · have := hS.size; exact .inl (by omega)
    · simp only [e1, if_false] at h1
      split at h1
      · cases h1
      · exact hS.own o1 b C1 h1

/-! ### The cells of a source -/

theorem cells_of_rd {H : Imm} {t : Ty} (f : Nat → Option Value) (l : List t.Data) (h : ∀ (i : Nat) x, l[i]? = some x → t.rd H (fun j => f (i * t.size + j)) x) :
    ∃ us : List Value, us.length = l.length * t.size ∧ (∀ (j : Nat) u, us[j]? = some u → f j = some u) ∧ (∀ u ∈ us, u.oneCell' = true) ∧ ∀ (i : Nat) x, l[i]? = some x → t.rd H (fun j => us[i * t.size + j]?) x := by
  have key : ∀ k, k < l.length * t.size → ∃ v, f k = some v ∧ v.oneCell' = true := by
    intro k hk
    have hs : 0 < t.size := by
      rcases Nat.eq_zero_or_pos t.size with h0 | h0
      · rw [h0] at hk; simp at hk
      · exact h0
    have hi : k / t.size < l.length := (Nat.div_lt_iff_lt_mul hs).2 hk
    obtain ⟨v, e1, e2⟩ := rd_some t _ _ (h _ _ (List.getElem?_eq_getElem hi)) (k % t.size) (Nat.mod_lt _ hs)
    refine ⟨v, ?_, e2⟩
    rw [← e1]; congr 1
    rw [Nat.mul_comm]; exact (Nat.div_add_mod _ _).symm
  refine ⟨(List.range (l.length * t.size)).map fun k => (f k).getD undef, by simp, fun j u hu => ?_, fun u hu => ?_, fun i x hx => ?_⟩
  · rw [List.getElem?_map] at hu
    by_cases hj : j < l.length * t.size
    · rw [List.getElem?_range hj] at hu
      simp at hu
      obtain ⟨v, e, _⟩ := key j hj
      rw [e] at hu ⊢
      simpa using hu
    · rw [List.getElem?_eq_none (by simp; omega)] at hu
      simp at hu
  · simp only [List.mem_map, List.mem_range] at hu
    obtain ⟨k, hk, rfl⟩ := hu
    obtain ⟨v, e, e2⟩ := key k hk
    rw [e]; exact e2
  · have hi : i < l.length := (List.getElem?_eq_some_iff.1 hx).1
    refine t.rd_congr _ _ _ (fun j hj => ?_) (h i x hx)
    have hk : i * t.size + j < l.length * t.size := by
      have : (i + 1) * t.size ≤ l.length * t.size := Nat.mul_le_mul_right _ hi
      rw [Nat.succ_mul] at this; omega
    rw [List.getElem?_map, List.getElem?_range hk]
    obtain ⟨v, e, _⟩ := key _ hk
    simp [e]

/-- what a source hands -/
structure Src (H : Imm) (w : World) (t : Ty) (v : Value) (l : List t.Data) : Prop where
  len : l.length < 4611686018427387904
  val : (v = .slice none 0 0 ∧ l = []) ∨ ∃ (ad : Addr) (c : Nat) (us : List Value), v = .slice (some ad) l.length c ∧ us.length = l.length * t.size ∧ (∀ (j : Nat) u, us[j]? = some u → w.cell? (ad.add j) = some u) ∧
      (∀ u ∈ us, u.oneCell' = true) ∧ ∀ (i : Nat) x, l[i]? = some x → t.rd H (fun j => us[i * t.size + j]?) x

theorem src_of {H : Imm} {t : Ty} {l : List t.Data} {v : Value} {b off c : Nat} {vs : Array Value} {T : Nat} {fr : Nat × Nat} (hlen : l.length < 4611686018427387904) (hw : w.heap[b]? = some (.cells vs T fr))
    (hv : v = .slice (some ⟨b, off, none⟩) l.length c) (h : ∀ (i : Nat) x, l[i]? = some x → t.rd H (fun j => vs[off + i * t.size + j]?) x) : Src H w t v l := by
  obtain ⟨us, h1, h2, h3, h4⟩ := cells_of_rd (H := H) (t := t) (fun j => vs[off + j]?) l (fun i x hx => t.rd_congr _ _ _ (fun j _ => by simp only [Nat.add_assoc]) (h i x hx))
  exact ⟨hlen, .inr ⟨_, c, us, hv, h1, fun j u hu => by rw [addr_add, cell_at hw]; exact h2 j u hu, h3, h4⟩⟩

theorem src_none {H : Imm} {t : Ty} {v : Value} {ad : Addr} {c : Nat} (hv : v = .slice (some ad) 0 c) : Src H w t v [] :=
  ⟨by simp, .inr ⟨ad, c, [], hv, by simp, fun j u hu => by simp at hu, fun u hu => by simp at hu, fun i x hx => by simp at hx⟩⟩

theorem elems_src (hS : Sat P B ρ σ.obj w) {t : Ty} {sv : SV} {l : List t.Data} (h : elems σ t sv = some l) {v : Value} (hv : SV.den P ρ sv v) : Src ρ.H w t v l := by
  unfold elems at h
  split at h
  · rename_i t' d
    obtain ⟨e, rfl⟩ := cast?_some h
    subst e
    simp only [SV.den] at hv
    obtain ⟨a, n, c, e1, e2, e3, e4, e6, e5⟩ := rv_scalar (t := .slice t) rfl hv
    simp at e1
    simp only [castD]
    cases a with
    | none =>
      have hc := e6 rfl
      have hn : n = 0 := by omega
      subst hc hn
      have : d = [] := List.eq_nil_of_length_eq_zero e2.symm
      exact ⟨e4, .inl ⟨e1, this⟩⟩
    | some ad =>
      by_cases hne : d = []
      · subst hne
        simp at e2; subst e2
        exact src_none e1
      · obtain ⟨b, off, blk, e, f2, f3⟩ := e5 hne
        simp at e; subst e
        obtain ⟨T, fr, hw⟩ := hS.good.cells f2
        exact src_of e4 hw (by rw [e1, e2]) f3
  · rename_i ob u
    split at h
    · rename_i E t' fz nl l' hob
      obtain ⟨e, rfl⟩ := cast?_some h
      cases e
      simp only [castD]
      obtain ⟨p, hp, k1, k0, k2⟩ := hS.obs ob _ hob
      simp only [SV.den] at hv
      have hv := hv p hp
      cases p with
      | none =>
        obtain ⟨e1, _⟩ := hv
        exact ⟨k0, .inl ⟨e1, k2.1⟩⟩
      | some q =>
        obtain ⟨b, Cp⟩ := q
        obtain ⟨e1, e2⟩ := hv
        obtain ⟨_, vs, hw, hvs, hlC, _, hr, _⟩ := k2
        exact src_of k0 hw (by rw [e1, k1]) (fun i x hx => t.rd_congr _ _ _ (fun j _ => by simp) (hr i x hx))
    · cases h
  · rename_i ob u lo n
    split at h
    · rename_i E t' fz nl l' hob
      split at h
      · rename_i l'' hc
        obtain ⟨e1, rfl⟩ := cast?_some hc
        obtain ⟨e, rfl⟩ := cast?_some h
        cases e1
        cases e
        simp only [castD]
        obtain ⟨p, hp, k1, k0, k2⟩ := hS.obs ob _ hob
        simp only [SV.den] at hv
        have hv := hv p hp
        cases p with
        | none =>
          obtain ⟨e1, rfl⟩ := hv
          exact ⟨by simp, .inl ⟨e1, by simp⟩⟩
        | some q =>
          obtain ⟨b, Cp⟩ := q
          obtain ⟨a, cap, e1, e2, e3, e4, e5⟩ := hv
          obtain ⟨_, vs, hw, hvs, hlC, _, hr, _⟩ := k2
          have hlen : ((l'.drop lo).take n).length = n := by simp; omega
          rcases Nat.eq_zero_or_pos n with h0 | h0
          · subst h0
            simp only [List.take_zero]
            exact src_none e1
          · rw [e5 (.inr (by omega))] at e1
            refine src_of (by omega) hw (by rw [e1, hlen]) (fun i x hx => ?_)
            rw [List.getElem?_take] at hx
            split at hx
            · rw [List.getElem?_drop] at hx
              have := hr _ _ hx
              refine t.rd_congr _ _ _ (fun j _ => ?_) this
              simp only [Nat.add_mul]
            · cases hx
      · cases h
    · cases h
  · rename_i u
    split at h
    · rename_i hn
      simp at h; subst h
      simp only [SV.den] at hv
      exact ⟨by simp, .inl ⟨by rw [hv, nilSlice hn], rfl⟩⟩
    · cases h
  · cases h

/-! ### append -/

theorem run_append_src {ti te : TI} {U : Nat} (hC : C.ok P) (hsl : C.slice U = some (ti, te)) {v x : Value} {n : Nat} {xs : List Value} (hown : w.ownsRow 0 ti.elem te.ty.size v n xs) {l : List te.ty.Data} (hsrc : Src ρ.H w te.ty x l)
    (h63 : n < 4611686018427387904) (hb : (n + l.length) * te.bytes ≤ 140737488355328) (ty : Nat) :
    ∃ (v' : Value) (w' : World) (us : List Value), (Builtin.append_ #[U, U] ty #[v, x]).run P w = .ok v' w' ∧ w'.ownsRow 0 ti.elem te.ty.size v' (n + l.length) (xs ++ us) ∧ w.grownBy w' v.ownBlock ∧
      (v' = .slice none 0 0 ↔ v = .slice none 0 0 ∧ l = []) ∧ (v'.ownBlock = v.ownBlock ∨ v'.ownBlock = some w.heap.size) ∧ us.length = l.length * te.ty.size ∧
      ∀ (i : Nat) x, l[i]? = some x → te.ty.rd ρ.H (fun j => us[i * te.ty.size + j]?) x := by
  obtain ⟨_, hte, _, hokE, hund, hka, hks, hpos⟩ := slice_info hC hsl
  obtain ⟨i, z, g0, g1, g2, g3, g4, _⟩ := hokE.info
  rw [hte] at g0
  obtain ⟨hlen, ⟨rfl, rfl⟩ | ⟨ad, c, us, rfl, h1, h2, h3, h4⟩⟩ := hsrc
  · refine ⟨v, w, [], run_append_owned_none w 0 U ty ti.elem i te.ty.size hund g0 v n xs hown, by simpa using hown, ⟨rfl, rfl, rfl, Nat.le_refl _, fun _ _ _ => rfl⟩, by simp, .inl rfl, by simp, fun i x hx => by simp at hx⟩
  · obtain ⟨v', w', r1, r2, r3, r4, r5⟩ := run_append_own_at (P := P) w 0 U ty ti.elem i z te.ty.size te.bytes hund g0 g3 (by rw [hks, g1]) g2 (by rw [hks, ← hokE.zlen, ← g4]; simp) (by omega) v n xs hown ad l.length c us h1 h2 h3
      (by simp only [maxLen]; omega) hb (Nat.zero_le _)
    exact ⟨v', w', us, r1, r2, r3, by rw [r4]; simp, r5, h1, h4⟩

/-- the row that is left -/
theorem row_left {ti te : TI} {v' : Value} {w' : World} {n m : Nat} {xs us : List Value} {l' news : List te.ty.Data} (hown : w'.ownsRow 0 ti.elem te.ty.size v' (n + m) (xs ++ us)) (hl' : l'.length = n) (hm : news.length = m)
    (hxs : xs.length = n * te.ty.size) (_ : us.length = m * te.ty.size) {H : Imm}
    (h1 : ∀ (i : Nat) x, l'[i]? = some x → te.ty.rd H (fun j => xs[i * te.ty.size + j]?) x) (h2 : ∀ (i : Nat) x, news[i]? = some x → te.ty.rd H (fun j => us[i * te.ty.size + j]?) x) :
    (v' = .slice none 0 0 ∧ n + m = 0) ∨ ∃ (g cap : Nat) (vs : Array Value), v' = .slice (some ⟨g, 0, none⟩) (n + m) cap ∧ w'.heap[g]? = some (.cells vs ti.elem (0, 0)) ∧ vs.size = cap * te.ty.size ∧ n + m ≤ cap ∧ cap ≤ maxLen ∧
      ∀ (i : Nat) x, (l' ++ news)[i]? = some x → te.ty.rd H (fun j => vs[i * te.ty.size + j]?) x := by
  obtain ⟨k1, ⟨rfl, k2⟩ | ⟨g, cap, vs, rfl, _, k3, k4, k5, k6, k7⟩⟩ := hown
  · exact .inl ⟨rfl, k2⟩
  · refine .inr ⟨g, cap, vs, rfl, k3, k6, k4, k5, fun i x hx => ?_⟩
    have hi : i < n + m := by have := (List.getElem?_eq_some_iff.1 hx).1; simp at this; omega
    have hcell : ∀ j, j < te.ty.size → (xs ++ us)[i * te.ty.size + j]? = vs[i * te.ty.size + j]? := by
      intro j hj
      have : (i + 1) * te.ty.size ≤ (n + m) * te.ty.size := Nat.mul_le_mul_right _ hi
      rw [Nat.succ_mul] at this
      rw [← k7, List.getElem?_take_of_lt (by omega)]
      simp
    by_cases hin : i < n
    · rw [List.getElem?_append_left (by omega)] at hx
      refine te.ty.rd_congr _ _ _ (fun j hj => ?_) (h1 i x hx)
      rw [← hcell j hj, List.getElem?_append_left]
      have : (i + 1) * te.ty.size ≤ n * te.ty.size := Nat.mul_le_mul_right _ hin
      rw [Nat.succ_mul] at this
      omega
    · rw [List.getElem?_append_right (by omega), hl'] at hx
      refine te.ty.rd_congr _ _ _ (fun j hj => ?_) (h2 _ x hx)
      have hle : n * te.ty.size ≤ i * te.ty.size := Nat.mul_le_mul_right _ (by omega)
      rw [← hcell j hj, List.getElem?_append_right (by omega), hxs]
      congr 1
      rw [Nat.sub_mul]; omega


/-- what 'append' leaves -/
theorem append_leaves {ti te : TI} {U dst : Nat} {c : Call} {b x : Operand} (hC : C.ok P) (hop : o.op = .call c) (hc : c.callee = .builtin .append) (hargs : c.args = #[b, x]) (htys : c.argTypes = #[U, U])
    (hsl : C.slice U = some (ti, te)) (hS : Sat P B ρ σ.obj w) (hd : σ.obj dst = none) (hn : NoRef σ.obj dst) {own : Option Nat} {n : Nat} {xs : List Value} {l' news : List te.ty.Data}
    (hown : w.ownsRow 0 ti.elem te.ty.size (ev b) n xs) (hl' : l'.length = n) (hlt : n < 4611686018427387904) (h1 : ∀ (i : Nat) x, l'[i]? = some x → te.ty.rd ρ.H (fun j => xs[i * te.ty.size + j]?) x)
    (hrow : ∀ g, (ev b).ownBlock = some g → ∃ o C, own = some o ∧ ρ.blk o = some (some (g, C)) ∧ ρ.H g = none)
    (hsrc : Src ρ.H w te.ty (ev x) news) (hb : (n + news.length) * te.bytes ≤ 140737488355328) {nl : Nl}
    (hA : ev b = .slice none 0 0 → news = [] → nl ≠ .no) (hB : nl = .yes → ¬ (ev b = .slice none 0 0 ∧ news = []) → l' ++ news ≠ [])
    {vc : List Prop} {wr : List (Nat × Option Ob)} (hwr : ({ σ with ob := wr ++ σ.ob } : St).obj = swapO σ.obj own dst (.row ti.elem te.ty false nl (l' ++ news))) :
    OpDoes P o ev w (Leaves P B ρ σ ⟨vc, [], .own dst te.ty, [], wr, [dst]⟩) := by
  obtain ⟨_, hte, _, hokE, _, _, _, _⟩ := slice_info hC hsl
  obtain ⟨v', w', us, r1, r2, r3, r4, r5, r6, r7⟩ := run_append_src (P := P) hC hsl hown hsrc hlt hb o.type
  have hbpos : 0 < te.bytes := by
    have : tyKnown te.ty = true := by
      unfold Ctx.slice at hsl
      split at hsl
      · split at hsl
        · split at hsl
          · split at hsl
            · rename_i hk; simp at hsl; rw [← hsl.2]; exact hk
            · cases hsl
          · cases hsl
        · cases hsl
      · cases hsl
    exact (hokE.pos this).2
  have hlen : (l' ++ news).length = n + news.length := by simp [hl']
  have hsmall : n + news.length < 4611686018427387904 := by
    have : (n + news.length) * 1 ≤ (n + news.length) * te.bytes := Nat.mul_le_mul_left _ hbpos
    omega
  have hrun : (execOp ev o).run P w = .ok (.value v') w' := by
    simp only [execOp, hop, Sem.run_bind, resolve, hc, hargs, htys, Sem.run_pure, Result.andThen_ok, invoke, builtin]
    simp [r1]
  refine does_value hrun ?_
  have hleft := row_left (te := te) (ti := ti) r2 hl' rfl hown.1 r6 h1 r7
  rcases hleft with ⟨e1, e2⟩ | ⟨g, cap, vs, e1, e2, e3, e4, e5, e6⟩
  · obtain ⟨f1, f2⟩ := r4.1 e1
    have hnil : l' ++ news = [] := List.eq_nil_of_length_eq_zero (by omega)
    obtain ⟨ρ', q1, q2, q3, q4, q5⟩ := put_row hS (own := own) hd hn r3 (run_drawn _ r1) hrow none (by simp) (n + news.length) (.row ti.elem te.ty false nl (l' ++ news)) (fun ρ' _ hlen' _ =>
      ⟨by rw [hlen', hlen], by rw [hlen]; exact hsmall, hnil, hA f1 f2⟩)
    refine ⟨ρ', ?_, q2, ?_, trivial⟩
    · show Sat P B ρ' ({ σ with ob := wr ++ (doFz σ [] ++ σ.ob) } : St).obj _
      simp only [doFz, List.nil_append]
      rw [hwr]; exact q1
    · simp only [SV.den]
      intro p hp
      rw [q3] at hp; simp at hp; subst hp
      exact ⟨e1, by rw [q4]; exact e2⟩
  · have hne : ¬ (ev b = .slice none 0 0 ∧ news = []) := fun h => by have := r4.2 h; rw [e1] at this; cases this
    have hblk : (ev b).ownBlock = some g ∨ g = w.heap.size := by
      rw [e1] at r5
      simp only [Value.ownBlock, Option.some.injEq] at r5
      rcases r5 with h | h
      · exact .inl h.symm
      · exact .inr h
    have hHg : ρ.H g = none := by
      rcases hblk with h | h
      · obtain ⟨_, _, _, _, h⟩ := hrow g h; exact h
      · subst h
        cases hc : ρ.H w.heap.size with
        | none => rfl
        | some c => have := hS.good.lt hc; omega
    obtain ⟨ρ', q1, q2, q3, q4, q5⟩ := put_row hS (own := own) hd hn r3 (run_drawn _ r1) hrow (some (g, cap)) (fun b C hbC => by simp at hbC; rw [← hbC.1]; exact hblk) (n + news.length) (.row ti.elem te.ty false nl (l' ++ news)) (fun ρ' hH hlen' _ =>
      ⟨by rw [hlen', hlen], by rw [hlen]; exact hsmall, fun h => hB h hne, vs, e2, e3, by rw [hlen]; exact e4, e5, fun i x hx => by rw [hH]; exact e6 i x hx, by rw [hH]; exact hHg⟩)
    refine ⟨ρ', ?_, q2, ?_, trivial⟩
    · show Sat P B ρ' ({ σ with ob := wr ++ (doFz σ [] ++ σ.ob) } : St).obj _
      simp only [doFz, List.nil_append]
      rw [hwr]; exact q1
    · simp only [SV.den]
      intro p hp
      rw [q3] at hp; simp at hp; subst hp
      exact ⟨by rw [e1, q4], by rw [q4]; exact e4⟩

theorem swap_some (σ : St) {o dst : Nat} (x : Ob) (hne : o ≠ dst) : ({ σ with ob := [(o, none), (dst, some x)] ++ σ.ob } : St).obj = swapO σ.obj (some o) dst x := funext fun k => by
  simp only [List.cons_append, List.nil_append]
  rw [obj_cons, obj_cons]
  unfold swapO
  by_cases e : k = o
  · subst e; simp [hne]
  · by_cases e' : k = dst
    · subst e'; simp [e]
    · have : o ≠ k := fun h => e h.symm
      simp [e, e', this, St.obj]

theorem swap_none (σ : St) {dst : Nat} (x : Ob) : ({ σ with ob := [(dst, some x)] ++ σ.ob } : St).obj = swapO σ.obj none dst x := funext fun k => by
  simp only [List.cons_append, List.nil_append]
  rw [obj_cons]
  unfold swapO
  by_cases e' : k = dst
  · subst e'; simp
  · simp [e', St.obj]

/-- a row of the call's own is one that may be appended to -/
theorem row_own {E : Nat} {t : Ty} {vs : Array Value} {b Cp m : Nat} (hw : w.heap[b]? = some (.cells vs E (0, 0))) (hvs : vs.size = Cp * t.size) (hm : m ≤ Cp) (hCm : Cp ≤ maxLen) :
    w.ownsRow 0 E t.size (.slice (some ⟨b, 0, none⟩) m Cp) m (vs.toList.take (m * t.size)) := by
  have : m * t.size ≤ Cp * t.size := Nat.mul_le_mul_right _ hm
  exact ⟨by simp; omega, .inr ⟨b, Cp, vs, rfl, Nat.zero_le _, hw, hm, hCm, hvs, rfl⟩⟩

theorem row_reads {t : Ty} {vs : Array Value} {H : Imm} {l : List t.Data} {m : Nat} (hr : ∀ (i : Nat) x, l[i]? = some x → t.rd H (fun j => vs[i * t.size + j]?) x) (_ : m ≤ l.length) :
    ∀ (i : Nat) x, (l.take m)[i]? = some x → t.rd H (fun j => (vs.toList.take (m * t.size))[i * t.size + j]?) x := by
  intro i x hx
  rw [List.getElem?_take] at hx
  split at hx
  · rename_i hi
    refine t.rd_congr _ _ _ (fun j hj => ?_) (hr i x hx)
    have : (i + 1) * t.size ≤ m * t.size := Nat.mul_le_mul_right _ hi
    rw [Nat.succ_mul] at this
    rw [List.getElem?_take_of_lt (by omega)]
    simp
  · cases hx

theorem zeroCells_at (z : Array Value) (n m : Nat) : (Builtin.zeroCells z n)[m]? = if m < n * z.size then some (z[m % z.size]!) else none := by
  unfold Builtin.zeroCells
  rw [Array.getElem?_map]
  by_cases h : m < n * z.size
  · rw [if_pos h, Array.getElem?_eq_getElem (by simpa using h)]; simp
  · rw [if_neg h, Array.getElem?_eq_none (by simpa using Nat.le_of_not_lt h)]; rfl

theorem zeroCells_size (z : Array Value) (n : Nat) : (Builtin.zeroCells z n).size = n * z.size := by simp [Builtin.zeroCells]

theorem does_zeros {dst : Nat} {c : Call} {b x : Operand} {U U' : Nat} (hC : C.ok P) (hop : o.op = .call c) (hc : c.callee = .builtin .append) (hargs : c.args = #[b, x]) (htys : c.argTypes = #[U, U'])
    (h : zerSV C σ dst b x U U' = some out) (hS : Sat P B ρ σ.obj w) (hev : ∀ x, SV.den P ρ (opnd σ x) (ev x)) (hvc : AllP out.vc) (hd : σ.obj dst = none) (hn : NoRef σ.obj dst) : OpDoes P o ev w (Leaves P B ρ σ out) := by
  unfold zerSV at h
  split at h
  case h_2 => cases h
  rename_i ti te tx hsl htx
  split at h
  case h_2 => cases h
  rename_i v n hb hx hty hag
  split at h
  case h_2 => cases h
  rename_i hnil
  simp at h; subst h
  simp only [AllP] at hvc
  obtain ⟨h0, hbytes, _⟩ := hvc
  obtain ⟨_, hte, _, hokE, hund, hka, hks, hpos⟩ := slice_info hC hsl
  obtain ⟨i, z, g0, g1, g2, g3, g4, g5⟩ := hokE.info
  rw [hte] at g0
  obtain ⟨hid, hokX⟩ := hC.ti _ _ htx
  obtain ⟨d, u1, _, _, _, _, u2, _⟩ := hokX.flat hag
  rw [hid, u2 hty] at u1
  have hbv : ev b = .slice none 0 0 := by
    have := hev b
    rw [hb] at this
    simp only [SV.den] at this
    rw [this, nilSlice hnil]
  obtain ⟨k, hnk⟩ : ∃ k : Nat, n = ((k : Int) : Ty.int.Data) := Int.eq_ofNat_of_zero_le (Int.le_of_lt h0)
  subst hnk
  have h0 : (0 : Int) < (k : Int) := h0
  have hxv : ev x = .int .i64 (k : Int) := asInt_den (i := (k : Int)) (by rw [hx]; rfl) (hev x)
  have hk : 0 < k := by omega
  have hkk : Int.toNat ((k : Int) : Ty.int.Data) = k := Int.toNat_natCast k
  rw [hkk] at hbytes ⊢
  have hbpos : 0 < te.bytes := by
    have : tyKnown te.ty = true := by
      unfold Ctx.slice at hsl
      split at hsl
      · split at hsl
        · split at hsl
          · split at hsl
            · rename_i hk; simp at hsl; rw [← hsl.2]; exact hk
            · cases hsl
          · cases hsl
        · cases hsl
      · cases hsl
    exact (hokE.pos this).2
  have hkn : tyKnown te.ty = true := by
    unfold Ctx.slice at hsl
    split at hsl
    · split at hsl
      · split at hsl
        · split at hsl
          · rename_i hk; simp at hsl; rw [← hsl.2]; exact hk
          · cases hsl
        · cases hsl
      · cases hsl
    · cases hsl
  have hk2 : k ≤ 140737488355328 := by
    have : k * 1 ≤ k * te.bytes := Nat.mul_le_mul_left _ hbpos
    omega
  have hrunA := Lib.run_append_nil_zeros (P := P) w U U' o.type ti.elem i z .i64 .i64 hund u1 g0 g3 k hk (by rw [g1]; exact hpos) (by omega) (by rw [g2]; omega)
  have hge := grownCap_ge w k 0 ti.elem
  have hle := grownCap_le_maxLen w k 0 ti.elem (by simp only [maxLen]; omega)
  generalize hcap : grownCap w k 0 ti.elem = cap at hrunA hge hle
  have hzs : z.cells.size = te.ty.size := by rw [← Array.length_toList, g4, hokE.zlen, hks]
  have hrun : (execOp ev o).run P w = .ok (.value (.slice (some ⟨w.heap.size, 0, none⟩) k cap)) (w.drew.alloc (.cells (Builtin.zeroCells z.cells k ++ Builtin.zeroCells z.cells (cap - k)) ti.elem)) := by
    simp only [execOp, hop, Sem.run_bind, resolve, hc, hargs, htys, Sem.run_pure, Result.andThen_ok, invoke, builtin]
    simp [hbv, hxv, hrunA]
  have hgrow : w.grownBy (w.drew.alloc (.cells (Builtin.zeroCells z.cells k ++ Builtin.zeroCells z.cells (cap - k)) ti.elem)) none :=
    (fun g => ⟨g.os, g.tape, g.output, g.size, g.block⟩) (World.grownBy_alloc w.drew (.cells (Builtin.zeroCells z.cells k ++ Builtin.zeroCells z.cells (cap - k)) ti.elem) none)
  obtain ⟨ρ', q1, q2, q3, q4, q5⟩ := put_row hS (own := none) hd hn hgrow (Nat.le_succ w.drawn) (by simp) (some (w.heap.size, cap)) (fun b C hbC => by simp at hbC; exact .inr hbC.1.symm) k
    (.row ti.elem te.ty false .yes (List.replicate k te.ty.dflt)) (fun ρ' hH hlen' _ => by
      refine ⟨by rw [hlen']; simp, by simp; omega, fun _ => ?_, _, heap_alloc_new w.drew _, ?_, by simpa using hge, hle, fun i x hx => ?_, ?_⟩
      · intro e
        have := congrArg List.length e
        simp at this
        omega
      · rw [Array.size_append, zeroCells_size, zeroCells_size, hzs, ← Nat.add_mul]
        congr 1
        omega
      · rw [hH]
        have hi : i < k := by have := (List.getElem?_eq_some_iff.1 hx).1; simpa using this
        have hx' : x = te.ty.dflt := by
          rw [List.getElem?_replicate, if_pos hi] at hx
          simpa using hx.symm
        subst hx'
        refine te.ty.rd_congr _ _ _ (fun j hj => ?_) (hokE.zd hkn ρ.H)
        have hm : i * te.ty.size + j < k * te.ty.size := by
          have : (i + 1) * te.ty.size ≤ k * te.ty.size := Nat.mul_le_mul_right _ hi
          rw [Nat.succ_mul] at this
          omega
        rw [Array.getElem?_append_left (by rw [zeroCells_size, hzs]; exact hm), zeroCells_at, hzs, if_pos hm, Nat.mul_comm, Nat.mul_add_mod, Nat.mod_eq_of_lt hj, ← g4, Array.getElem?_toList]
        have hj' : j < z.cells.size := by rw [hzs]; exact hj
        simp [hj']
      · rw [hH]
        simp only [fzH]
        cases hc : ρ.H w.heap.size with
        | none => rfl
        | some c => have := hS.good.lt hc; omega)
  refine does_value hrun ⟨ρ', ?_, q2, ?_, trivial⟩
  · show Sat P B ρ' ({ σ with ob := [(dst, _)] ++ (doFz σ [] ++ σ.ob) } : St).obj _
    simp only [doFz, List.nil_append]
    rw [swap_none]
    exact q1
  · simp only [SV.den]
    intro p hp
    rw [q3] at hp; simp at hp; subst hp
    exact ⟨by rw [q4], by rw [q4]; exact hge⟩

theorem does_cap {c : Call} (hC : C.ok P) (hop : o.op = .call c) (hc : c.callee = .builtin .cap) (h : capSV C σ c.args.toList c.argTypes.toList = some out) (hS : Sat P B ρ σ.obj w)
    (hev : ∀ x, SV.den P ρ (opnd σ x) (ev x)) : OpDoes P o ev w (Leaves P B ρ σ out) := by
  unfold capSV at h
  split at h
  case h_2 => cases h
  rename_i x U hargs htys
  have hargs : c.args = #[x] := by rw [← Array.toList_inj]; exact hargs
  have htys : c.argTypes = #[U] := by rw [← Array.toList_inj]; exact htys
  split at h
  case h_2 => cases h
  rename_i tt v hsl hx
  obtain ⟨ti, te⟩ := tt
  split at h
  case h_2 => cases h
  rename_i hnil
  simp [Out.pure] at h; subst h
  obtain ⟨_, _, _, _, hund, _⟩ := slice_info hC hsl
  have hbv : ev x = .slice none 0 0 := by
    have := hev x
    rw [hx] at this
    simp only [SV.den] at this
    rw [this, nilSlice hnil]
  exact does_plain hS (v := .int .i64 0) (by simp [execOp, hop, hc, hargs, htys, resolve, invoke, builtin, hbv, Builtin.cap_, run_underlying hund, goInt]) (rv_int _) trivial

theorem does_append {dst : Nat} {c : Call} (hC : C.ok P) (hop : o.op = .call c) (hc : c.callee = .builtin .append) (h : appSV C σ dst c.args.toList c.argTypes.toList = some out) (hS : Sat P B ρ σ.obj w)
    (hev : ∀ x, SV.den P ρ (opnd σ x) (ev x)) (hvc : AllP out.vc) (hd : σ.obj dst = none) (hn : NoRef σ.obj dst) : OpDoes P o ev w (Leaves P B ρ σ out) := by
  unfold appSV at h
  split at h
  case h_2 => cases h
  rename_i b x U U' hargs htys
  have hargs : c.args = #[b, x] := by rw [← Array.toList_inj]; exact hargs
  have htys : c.argTypes = #[U, U'] := by rw [← Array.toList_inj]; exact htys
  split at h
  case h_2 => exact does_zeros hC hop hc hargs htys h hS hev hvc hd hn
  case h_3 => cases h
  rename_i ti te hU hsl
  have hU := Nat.eq_of_beq_eq_true hU
  subst hU
  split at h
  case h_2 => cases h
  rename_i news hnews
  have hsrc := elems_src hS hnews (hev x)
  have hbv := hev b
  split at h
  · rename_i ob u hbo
    rw [hbo] at hbv
    split at h
    · rename_i E t nl l hob
      have hne : ob ≠ dst := fun e => by rw [e, hd] at hob; cases hob
      split at h
      · rename_i l' hcst
        obtain ⟨e, rfl⟩ := cast?_some hcst
        cases e
        simp only [castD] at h
        split at h
        · rename_i hE
          have hE := Nat.eq_of_beq_eq_true hE
          subst hE
          simp at h; subst h
          simp only [AllP] at hvc
          obtain ⟨p, hp, k1, k0, k2⟩ := hS.obs ob _ hob
          simp only [SV.den] at hbv
          have hbv := hbv p hp
          cases p with
          | none =>
            obtain ⟨e1, e2⟩ := hbv
            obtain ⟨rfl, hnn'⟩ := k2
            refine append_leaves hC hop hc hargs htys hsl hS hd hn (own := some ob) (n := 0) (xs := []) (by rw [e1]; exact World.ownsRow_nil _ _ _ _) rfl (by omega) (by simp) (by rw [e1]; simp [Value.ownBlock]) hsrc (by simpa using hvc.1) (fun _ _ => hnn') ?_ (swap_some σ _ hne)
            intro _ hnn
            rw [e1] at hnn
            simpa using hnn
          | some q =>
            obtain ⟨bb, Cp⟩ := q
            obtain ⟨e1, e2⟩ := hbv
            obtain ⟨k3, vs, hw, hvs, hlC, hCm, hr, hH⟩ := k2
            simp only [fzH] at hH
            have htk : l.take l.length = l := List.take_length
            refine append_leaves hC hop hc hargs htys hsl hS hd hn (own := some ob) (n := l.length) (xs := vs.toList.take (l.length * te.ty.size)) (by rw [e1, k1]; exact row_own hw hvs hlC hCm) rfl k0
              (by have := row_reads (m := l.length) hr (Nat.le_refl _); rwa [htk] at this) ?_ hsrc hvc.1 ?_ ?_ (swap_some σ _ hne)
            · intro g hg
              rw [e1] at hg
              simp [Value.ownBlock] at hg
              subst hg
              exact ⟨ob, Cp, rfl, hp, hH⟩
            · intro h; rw [e1] at h; cases h
            · intro hnl _
              have := k3 hnl
              simp [this]
        · cases h
      · cases h
    · cases h
  · rename_i ob u n hbo
    rw [hbo] at hbv
    split at h
    · rename_i E t l hob
      have hne : ob ≠ dst := fun e => by rw [e, hd] at hob; cases hob
      split at h
      · rename_i l' hcst
        obtain ⟨e, rfl⟩ := cast?_some hcst
        cases e
        simp only [castD] at h
        split at h
        · rename_i hE
          have hE := Nat.eq_of_beq_eq_true hE
          subst hE
          simp at h; subst h
          simp only [AllP] at hvc
          obtain ⟨p, hp, k1, k0, k2⟩ := hS.obs ob _ hob
          simp only [SV.den] at hbv
          have hbv := hbv p hp
          cases p with
          | none => obtain ⟨_, k2⟩ := k2; exact absurd rfl k2
          | some q =>
            obtain ⟨bb, Cp⟩ := q
            obtain ⟨a, cap, e1, e2, e3, e4, e5⟩ := hbv
            have e5 := e5 (.inl (by trivial))
            subst e5
            simp only [Nat.zero_mul] at e1
            have : cap = Cp := by omega
            subst this
            obtain ⟨k3, vs, hw, hvs, hlC, hCm, hr, hH⟩ := k2
            simp only [fzH] at hH
            have hlen : (l.take n).length = n := by simp; omega
            refine append_leaves hC hop hc hargs htys hsl hS hd hn (own := some ob) (n := n) (xs := vs.toList.take (n * te.ty.size)) (by rw [e1]; exact row_own hw hvs e2 hCm) hlen (by omega)
              (row_reads (m := n) hr (by omega)) ?_ hsrc hvc.1 ?_ ?_ (swap_some σ _ hne)
            · intro g hg
              rw [e1] at hg
              simp [Value.ownBlock] at hg
              subst hg
              exact ⟨ob, cap, rfl, hp, hH⟩
            · intro h; rw [e1] at h; cases h
            · intro hnl; cases hnl
        · cases h
      · cases h
    · rename_i E t l hob
      have hne : ob ≠ dst := fun e => by rw [e, hd] at hob; cases hob
      split at h
      · rename_i l' hcst
        obtain ⟨e, rfl⟩ := cast?_some hcst
        cases e
        simp only [castD] at h
        split at h
        · rename_i hE
          have hE := Nat.eq_of_beq_eq_true hE
          subst hE
          simp at h; subst h
          simp only [AllP] at hvc
          obtain ⟨p, hp, k1, k0, k2⟩ := hS.obs ob _ hob
          simp only [SV.den] at hbv
          have hbv := hbv p hp
          cases p with
          | none =>
            obtain ⟨e1, rfl⟩ := hbv
            obtain ⟨rfl, _⟩ := k2
            refine append_leaves (l' := ([] : List te.ty.Data).take 0) hC hop hc hargs htys hsl hS hd hn (own := some ob) (n := 0) (xs := []) (by rw [e1]; exact World.ownsRow_nil _ _ _ _) rfl (by omega) (by simp) (by rw [e1]; simp [Value.ownBlock]) hsrc (by simpa using hvc.1) (fun _ _ => (by simp)) ?_ (swap_some σ _ hne)
            intro h; cases h
          | some q =>
            obtain ⟨bb, Cp⟩ := q
            obtain ⟨a, cap, e1, e2, e3, e4, e5⟩ := hbv
            have e5 := e5 (.inl (by trivial))
            subst e5
            simp only [Nat.zero_mul] at e1
            have : cap = Cp := by omega
            subst this
            obtain ⟨k3, vs, hw, hvs, hlC, hCm, hr, hH⟩ := k2
            simp only [fzH] at hH
            have hlen : (l.take n).length = n := by simp; omega
            refine append_leaves hC hop hc hargs htys hsl hS hd hn (own := some ob) (n := n) (xs := vs.toList.take (n * te.ty.size)) (by rw [e1]; exact row_own hw hvs e2 hCm) hlen (by omega)
              (row_reads (m := n) hr (by omega)) ?_ hsrc hvc.1 ?_ ?_ (swap_some σ _ hne)
            · intro g hg
              rw [e1] at hg
              simp [Value.ownBlock] at hg
              subst hg
              exact ⟨ob, cap, rfl, hp, hH⟩
            · intro h; rw [e1] at h; cases h
            · intro hnl; cases hnl
        · cases h
      · cases h
    · rename_i E t l hob
      have hne : ob ≠ dst := fun e => by rw [e, hd] at hob; cases hob
      split at h
      · rename_i l' hcst
        obtain ⟨e, rfl⟩ := cast?_some hcst
        cases e
        simp only [castD] at h
        split at h
        · rename_i y ys hE
          have hE := Nat.eq_of_beq_eq_true hE
          subst hE
          simp at h; subst h
          simp only [AllP] at hvc
          obtain ⟨p, hp, k1, k0, k2⟩ := hS.obs ob _ hob
          simp only [SV.den] at hbv
          have hbv := hbv p hp
          cases p with
          | none =>
            obtain ⟨e1, rfl⟩ := hbv
            obtain ⟨rfl, _⟩ := k2
            refine append_leaves (l' := ([] : List te.ty.Data).take 0) hC hop hc hargs htys hsl hS hd hn (own := some ob) (n := 0) (xs := []) (by rw [e1]; exact World.ownsRow_nil _ _ _ _) rfl (by omega) (by simp) (by rw [e1]; simp [Value.ownBlock]) hsrc (by simpa using hvc.1) (fun _ _ => (by simp)) ?_ (swap_some σ _ hne)
            intro _ _
            simp
          | some q =>
            obtain ⟨bb, Cp⟩ := q
            obtain ⟨a, cap, e1, e2, e3, e4, e5⟩ := hbv
            have e5 := e5 (.inl (by trivial))
            subst e5
            simp only [Nat.zero_mul] at e1
            have : cap = Cp := by omega
            subst this
            obtain ⟨k3, vs, hw, hvs, hlC, hCm, hr, hH⟩ := k2
            simp only [fzH] at hH
            have hlen : (l.take n).length = n := by simp; omega
            refine append_leaves hC hop hc hargs htys hsl hS hd hn (own := some ob) (n := n) (xs := vs.toList.take (n * te.ty.size)) (by rw [e1]; exact row_own hw hvs e2 hCm) hlen (by omega)
              (row_reads (m := n) hr (by omega)) ?_ hsrc hvc.1 ?_ ?_ (swap_some σ _ hne)
            · intro g hg
              rw [e1] at hg
              simp [Value.ownBlock] at hg
              subst hg
              exact ⟨ob, cap, rfl, hp, hH⟩
            · intro h; rw [e1] at h; cases h
            · intro _ _; simp
        · cases h
      · cases h
    · cases h
  · rename_i v hbo
    rw [hbo] at hbv
    split at h
    · rename_i hn'
      simp at h; subst h
      simp only [SV.den] at hbv
      rw [nilSlice hn'] at hbv
      simp only [AllP] at hvc
      refine append_leaves (l' := ([] : List te.ty.Data)) hC hop hc hargs htys hsl hS hd hn (own := none) (n := 0) (xs := []) (by rw [hbv]; exact World.ownsRow_nil _ _ _ _) rfl (by omega) (by simp) (by rw [hbv]; simp [Value.ownBlock]) hsrc (by simpa using hvc.1) (fun _ _ => (by simp)) ?_ (swap_none σ _)
      intro _ hnn
      rw [hbv] at hnn
      simpa using hnn
    · cases h
  · cases h

theorem does_buildSlice {U n dst : Nat} {parts : Array (Nat × Operand)} (hC : C.ok P) (hop : o.op = .buildSlice U n parts) (h : evalOp C σ dst (.buildSlice U n parts) = some out) (hS : Sat P B ρ σ.obj w)
    (hev : ∀ x, SV.den P ρ (opnd σ x) (ev x)) (hd : σ.obj dst = none) (hn : NoRef σ.obj dst) : OpDoes P o ev w (Leaves P B ρ σ out) := by
  simp only [evalOp] at h
  split at h
  case h_2 => cases h
  rename_i ti te hsl
  split at h
  case h_2 => cases h
  rename_i l fz hl
  split at h
  case h_2 => cases h
  rename_i hln hsm
  simp at h; subst h
  have hln := Nat.eq_of_beq_eq_true hln
  subst hln
  have hsm := Nat.le_of_ble_eq_true hsm
  obtain ⟨_, hte, _, hokE, hund, hka, hks, hpos⟩ := slice_info hC hsl
  obtain ⟨i, z, g0, g1, g2, g3, g4, _⟩ := hokE.info
  rw [hte] at g0
  obtain ⟨ρ1, hS1, hle1, hb1, hl1⟩ := freeze_sat fz hS
  have hev1 : ∀ x, SV.den P ρ1 (opnd σ x) (ev x) := fun x => SV.den_mono hle1 _ _ (fun o ho => by simp at ho) (hev x)
  obtain ⟨vs, e1, e2, e3, e4⟩ := elemsAll_sound hS1 (fz_frz σ fz) hev1 parts.toList 0 l fz hl (fun o ho => ho)
  have hzs : z.cells.size = te.size := by rw [← hokE.zlen, ← g4]; simp
  have hsz : 0 < te.size := hpos
  have hfill : Instr.fill (fun i => some (i * te.size, te.size)) ((Array.range (l.length * te.size)).map (z.cells[· % z.cells.size]!)) (parts.map fun (i, x) => (i, ev x)).toList =
      some (vs.flatMap fun v => v.cells.toList).toArray := by
    have := Great.fill_whole hsz vs ((Array.range (l.length * te.size)).map (z.cells[· % z.cells.size]!)) (fun v hv => by rw [e3 v hv, hks]) (by simp [e2])
    rw [← this]
    congr 1
    simpa using e1
  have hcells := flat_len vs e3
  have hrun : (execOp ev o).run P w = .ok (.value (.slice (some ⟨w.heap.size, 0, none⟩) l.length l.length)) (w.alloc (.cells (vs.flatMap fun v => v.cells.toList).toArray ti.elem)) := by
    have : (Instr.buildSlice U l.length (parts.map fun (i, x) => (i, ev x))).run P w = .ok (.slice (some ⟨w.heap.size, 0, none⟩) l.length l.length) (w.alloc (.cells (vs.flatMap fun v => v.cells.toList).toArray ti.elem)) := by
      have g1' : i.size = te.size := g1
      by_cases h0 : l.length = 0
      · have hv0 : vs = [] := List.eq_nil_of_length_eq_zero (by omega)
        have hp0 : parts = #[] := by
          subst hv0
          simp at e1
          exact e1
        subst hp0 hv0
        simp [Instr.buildSlice, run_underlying hund, sizeOf, typeInfo, g0, h0, newRow, Instr.fill, show Array.range 0 = #[] from rfl]
      · exact run_buildSlice w U ti.elem l.length _ _ i z hund g0 g3 (by rw [g1']; omega) (by rw [g1']; have := Nat.mul_pos (Nat.pos_of_ne_zero h0) hsz; omega) (by rw [g1']; exact hfill)
    simp only [execOp, hop, Sem.run_bind]
    rw [this]
    simp
  refine does_value hrun ?_
  have hd1 : (σ.frz fz).obj dst = none := by rw [obj_frz, hd]; simp
  have hn1 : NoRef (σ.frz fz).obj dst := by
    intro o' T f cs ho'
    rw [obj_frz] at ho'
    split at ho'
    · cases hx : σ.obj o' with
      | none => rw [hx] at ho'; cases ho'
      | some x =>
        rw [hx] at ho'
        cases x <;> simp [frozenOb] at ho'
        obtain ⟨rfl, _, rfl⟩ := ho'
        exact hn o' _ _ _ hx
    · exact hn o' _ _ _ ho'
  have hsmall : l.length ≤ 16777216 := by
    have : l.length * 1 ≤ l.length * te.size := Nat.mul_le_mul_left _ hsz
    omega
  obtain ⟨ρ', q1, q2, q3, q4, q5⟩ := put_row hS1 (own := none) hd1 hn1 (w.grownBy_alloc (.cells (vs.flatMap fun v => v.cells.toList).toArray ti.elem) none) (Nat.le_refl _) (by simp) (some (w.heap.size, l.length)) (fun b C hbC => by simp at hbC; exact .inr hbC.1.symm)
    l.length (.row ti.elem te.ty false .no l) (fun ρ' hH hlen' _ => by
      refine ⟨hlen', by omega, by simp, _, heap_alloc_new w _, by simp [hcells, e2], Nat.le_refl _, by simp only [maxLen]; omega, fun i x hx => ?_, ?_⟩
      · rw [hH]
        have hi : i < vs.length := by have := (List.getElem?_eq_some_iff.1 hx).1; omega
        have hv := e4 i _ x (List.getElem?_eq_getElem hi) hx
        refine te.ty.rd_congr _ _ _ (fun j hj => ?_) hv.2.2
        have := flat_cell vs e3 i j _ (List.getElem?_eq_getElem hi) hj
        simpa using this.symm
      · rw [hH]
        simp only [fzH]
        cases hc : ρ1.H w.heap.size with
        | none => rfl
        | some c => have := hS1.good.lt hc; omega)
  refine ⟨ρ', ?_, (hle1.weaken (by simp)).trans q2, ?_, trivial⟩
  · show Sat P B ρ' ({ σ with ob := [(dst, _)] ++ (doFz σ fz ++ σ.ob) } : St).obj _
    rw [show ({ σ with ob := [(dst, some (Ob.row ti.elem te.ty false .no l))] ++ (doFz σ fz ++ σ.ob) } : St) = ({ (σ.frz fz) with ob := [(dst, some (Ob.row ti.elem te.ty false .no l))] ++ (σ.frz fz).ob } : St) from rfl, swap_none]
    exact q1
  · simp only [SV.den]
    intro p hp
    rw [q3] at hp; simp at hp; subst hp
    exact ⟨by rw [q4], by rw [q4]; exact Nat.le_refl _⟩

end
end Go.X
/-
  Maps: one operation, sound.
-/
namespace Go.X
open Go.RowKit (Below)

section
variable {P : Program} {B : Base} {C : Ctx} {σ : St} {ρ : Env} {w : World} {o : Oper} {ev : Operand → Value} {out : Out}

theorem heap_alloc_here (w : World) (y : Obj) : (w.alloc y).heap[w.heap.size]? = some y := by
  show (w.heap.push y)[w.heap.size]? = some y
  simp

theorem does_makeMap {U dst : Nat} (_ : C.ok P) (hop : o.op = .makeMap U none) (h : evalOp C σ dst (.makeMap U none) = some out) (hS : Sat P B ρ σ.obj w)
    (hd : σ.obj dst = none) (hn : NoRef σ.obj dst) : OpDoes P o ev w (Leaves P B ρ σ out) := by
  simp only [evalOp] at h
  split at h
  case h_2 => cases h
  rename_i ti tk te hmp
  simp at h; subst h
  obtain ⟨ρ', h1, h2, h3, _, _⟩ := new_obj' hS hd hn (.map #[] 0) 0 0 (.map false tk.ty te.ty []) (fun ρ' hH _ _ => by
    simp only [ObSat, fzM]
    refine ⟨w.heap.size, 0, #[], 0, rfl, heap_alloc_here w _, ⟨rfl, Nat.le_refl _, fun i e he => by simp at he, fun i j e e' he => by simp at he, fun i x hx => by simp at hx⟩, ?_⟩
    rw [hH]
    cases hc : ρ.H w.heap.size with
    | none => rfl
    | some c => have := hS.good.lt hc; omega)
  refine does_value (v := .map (some w.heap.size)) (w' := w.alloc (.map #[] 0)) (by simp [execOp, hop, Instr.makeMap]) ⟨ρ', ?_, h2, ?_, trivial⟩
  · simpa [doFz, ← obj_wr1] using h1
  · simp only [SV.den]
    intro p hp
    rw [h3] at hp
    simp at hp; subst hp
    exact ⟨_, _, rfl, rfl⟩

/-- the keys of entries -/
def keysOf {α β : Type} : List (α × β) → List α
  | [] => []
  | x :: r => x.1 :: keysOf r

theorem keysRd {H : Imm} {kt vt : Ty} : ∀ (es : List MapEntry) (l : List (kt.Data × vt.Data)), es.length = l.length → (∀ (i : Nat) (x : kt.Data × vt.Data), l[i]? = some x → ∃ e : MapEntry, es[i]? = some e ∧ kt.rv H e.key x.1 ∧ vt.rv H e.val x.2) → KeysRd H kt es (keysOf l)
  | [], [], _, _ => trivial
  | [], _ :: _, h, _ => by simp at h
  | _ :: _, [], h, _ => by simp at h
  | e :: es, x :: l, h, hx => by
    refine ⟨?_, keysRd es l (by simpa using h) (fun i y hy => by simpa using hx (i + 1) y (by simpa using hy))⟩
    obtain ⟨e', h1, h2, _⟩ := hx 0 x rfl
    simp at h1; subst h1
    exact h2

/-- the entry that is found reads as 'mfind' says -/
theorem findIx_mfind {H : Imm} {kt vt : Ty} (a : kt.Data) : ∀ (es : List MapEntry) (l : List (kt.Data × vt.Data)) (i : Nat), es.length = l.length → (∀ (i : Nat) (x : kt.Data × vt.Data), l[i]? = some x → ∃ e : MapEntry, es[i]? = some e ∧ kt.rv H e.key x.1 ∧ vt.rv H e.val x.2) →
    (findIx kt a (keysOf l) es i = none ∧ mfind kt a l = none ∧ (∀ v : vt.Data, mput kt a v l = l ++ [(a, v)])) ∨
    ∃ (j : Nat) (e : MapEntry) (x : kt.Data × vt.Data), findIx kt a (keysOf l) es i = some (i + j, e.val) ∧ mfind kt a l = some x.2 ∧ es[j]? = some e ∧ l[j]? = some x ∧ x.1 = a ∧ kt.rv H e.key x.1 ∧ vt.rv H e.val x.2 ∧ ∀ v : vt.Data, mput kt a v l = l.set j (a, v)
  | [], [], i, _, _ => .inl ⟨rfl, rfl, fun _ => rfl⟩
  | [], _ :: _, _, h, _ => by simp at h
  | _ :: _, [], _, h, _ => by simp at h
  | e :: es, x :: l, i, h, hx => by
    obtain ⟨e', h1, h2, h3⟩ := hx 0 x rfl
    simp at h1; subst h1
    by_cases hk : @decide (a = x.1) (kt.decEq a x.1) = true
    · refine .inr ⟨0, e, x, by simp only [keysOf, findIx, hk, if_true]; rfl, by simp only [mfind, hk, if_true], rfl, rfl, (@of_decide_eq_true _ (_) hk).symm, h2, h3, fun v => by simp only [mput, hk, if_true]; rfl⟩
    · rcases findIx_mfind (H := H) a es l (i + 1) (by simpa using h) (fun i y hy => by simpa using hx (i + 1) y (by simpa using hy)) with ⟨g1, g2, g3⟩ | ⟨j, e', x', g1, g2, g3, g4, g5, g6, g7, g8⟩
      · exact .inl ⟨by simp only [keysOf, findIx, hk]; exact g1, by simp only [mfind, hk]; exact g2, fun v => by simp only [mput, hk]; rw [show mput kt a v l = _ from g3 v]; rfl⟩
      · refine .inr ⟨j + 1, e', x', by simp only [keysOf, findIx, hk]; rw [show findIx kt a (keysOf l) es (i + 1) = _ from g1]; simp; omega, by simp only [mfind, hk]; exact g2, by simpa using g3, by simpa using g4, g5, g6, g7, fun v => by simp only [mput, hk]; rw [show mput kt a v l = _ from g8 v]; rfl⟩

theorem zero_rv {ti : TI} (h : ti.ok P) (hk : tyKnown ti.ty = true) (H : Imm) : ∃ z, (∀ w, (zeroValue ti.id).run P w = .ok z w) ∧ ti.ty.rv H z ti.ty.dflt := by
  obtain ⟨i, z, _, _, _, _, hz, hc, ha⟩ := run_info h
  obtain ⟨k1, k2⟩ := h.known hk
  refine ⟨z, hz, by rw [ha, k1], ?_, ?_⟩
  · rw [← Array.length_toList, hc, h.zlen, k2]
  · refine Ty.rd_congr _ _ _ _ (fun j _ => ?_) (h.zd hk H)
    rw [← hc]; simp

theorem does_lookup {U dst : Nat} {x ix : Operand} {ok : Bool} (hC : C.ok P) (hop : o.op = .lookup U x ix ok) (h : evalOp C σ dst (.lookup U x ix ok) = some out) (hS : Sat P B ρ σ.obj w)
    (hx : SV.den P ρ (opnd σ x) (ev x)) (hix : SV.den P ρ (opnd σ ix) (ev ix)) : OpDoes P o ev w (Leaves P B ρ σ out) := by
  simp only [evalOp] at h
  split at h
  case h_2 => cases h
  rename_i ti tk te hmp
  obtain ⟨_, ok2, ok3, hund, hkq, hte⟩ := mapT_info hC hmp
  obtain ⟨q1, q2, _⟩ := ok2.keyq hkq
  split at h
  case h_2 => cases h
  rename_i l k hl hk
  have hkr := toDat_sound hS (fz := []) (fun o => ⟨.inl rfl, fun ho => by simp at ho⟩) hk (fun o ho => ho) hix
  obtain ⟨z, hz, hzr⟩ := zero_rv ok3 hte ρ.H
  -- what is found
  have key : ∃ v : Value, te.ty.rv ρ.H v (mvalD te.ty.dflt (mfind tk.ty k l)) ∧ (execOp ev o).run P w = .ok (.value (if ok then .tuple #[v, .bool (misS (mfind tk.ty k l))] else v)) w := by
    rcases mapOf_sound hS hl hx with ⟨e, rfl⟩ | ⟨b, es, clock, e, e1, e2⟩
    · refine ⟨z, hzr, ?_⟩
      have c1 := q1 ρ.H (ev ix) k w true hkr
      have c2 := q2 ρ.H [] [] (ev ix) k w hkr trivial
      simp [execOp, hop, Instr.lookup, run_underlying hund, e, c1, c2, findIx, hz, mfind, misS]
    · have hg : (getObj b).run P w = .ok (.map es clock) w := by simp [getObj, Sem.run, e1]
      have c1 := q1 ρ.H (ev ix) k w es.isEmpty hkr
      have hlen : es.toList.length = l.length := by simpa using e2.1
      have hget : ∀ (i : Nat) (x : tk.ty.Data × te.ty.Data), l[i]? = some x → ∃ e : MapEntry, es.toList[i]? = some e ∧ tk.ty.rv ρ.H e.key x.1 ∧ te.ty.rv ρ.H e.val x.2 := fun i x hx => by simpa using e2.2.2.2.2 i x hx
      have c2 := q2 ρ.H es.toList (keysOf l) (ev ix) k w hkr (keysRd _ _ hlen hget)
      rcases findIx_mfind (H := ρ.H) k es.toList l 0 hlen hget with ⟨g1, g2, _⟩ | ⟨j, e', x', g1, g2, g3, g4, g5, g6, g7, _⟩
      · refine ⟨z, by rw [g2]; exact hzr, ?_⟩
        rw [g1] at c2
        simp [execOp, hop, Instr.lookup, run_underlying hund, e, hg, c1, c2, hz, g2, misS]
      · refine ⟨e'.val, by rw [g2]; exact g7, ?_⟩
        rw [g1] at c2
        simp [execOp, hop, Instr.lookup, run_underlying hund, e, hg, c1, c2, g2, misS]
  obtain ⟨v, hv, hrun⟩ := key
  split at h
  · simp only [Out.pure, Option.some.injEq] at h; subst h
    refine does_plain hS (v := _) (by simpa using hrun) ?_ trivial
    simp only [SV.den, SV.denL]
    exact ⟨_, rfl, _, _, rfl, hv, _, _, rfl, rv_bool _, rfl⟩
  · simp only [Out.pure, Option.some.injEq] at h; subst h
    exact does_plain hS (v := v) (by simpa using hrun) (by simpa only [SV.den] using hv) trivial

theorem memb_false {l : List Nat} {k : Nat} (h : memb l k = false) : k ∉ l := by
  induction l with
  | nil => simp
  | cons j r ih =>
    simp only [memb] at h
    split at h
    · cases h
    · rename_i hb
      simp only [List.mem_cons, not_or]
      exact ⟨fun e => beq_of_refs hb e.symm, ih h⟩

theorem does_mapUpdate {U dst : Nat} {m ix x : Operand} (hC : C.ok P) (hop : o.op = .mapUpdate U m ix x) (h : evalOp C σ dst (.mapUpdate U m ix x) = some out) (hS : Sat P B ρ σ.obj w)
    (hm : SV.den P ρ (opnd σ m) (ev m)) (hix : SV.den P ρ (opnd σ ix) (ev ix)) (hx : SV.den P ρ (opnd σ x) (ev x)) : OpDoes P o ev w (Leaves P B ρ σ out) := by
  simp only [evalOp] at h
  split at h
  case h_2 => cases h
  rename_i ti tk te hmp
  obtain ⟨_, ok2, ok3, hund, hkq, hte⟩ := mapT_info hC hmp
  obtain ⟨q1, q2, q3⟩ := ok2.keyq hkq
  split at h
  case h_2 => cases h
  rename_i ob hob
  rw [hob] at hm
  split at h
  case h_2 => cases h
  rename_i kt vt l ho
  split at h
  case h_2 => cases h
  rename_i l' k v fz hc hk hv
  split at h
  case h_2 => cases h
  rename_i hmem
  have hmem := memb_false hmem
  simp at h; subst h
  obtain ⟨e, rfl⟩ := cast?_some hc
  obtain ⟨e1, e2⟩ : kt = tk.ty ∧ vt = te.ty := by injection e with a b; exact ⟨a, b⟩
  subst e1
  subst e2
  have hcast : castD e l = l := rfl
  rw [hcast]
  -- freeze what is stored
  obtain ⟨ρ1, hS1, hle1, hb1, hn1⟩ := freeze_sat (σ := σ) fz hS
  have hkr := toDat_sound hS (fz := []) (fun o => ⟨.inl rfl, fun ho => by simp at ho⟩) hk (fun o ho => ho) hix
  have hkr1 := Ty.rv_mono hle1.H hkr
  have hvr := toDat_sound hS1 (fz_frz σ fz) hv (fun o ho => ho) (SV.den_mono hle1 _ _ (fun r hr => by simp at hr) hx)
  have ho1 : (σ.frz fz).obj ob = some (.map false tk.ty te.ty l) := by rw [obj_frz, if_neg hmem]; exact ho
  obtain ⟨p, hp, hs⟩ := hS1.obs ob _ ho1
  simp only [ObSat, fzM] at hs
  obtain ⟨b, Cp, es, clock, rfl, k1, k2, k3⟩ := hs
  simp only [SV.den] at hm
  obtain ⟨b', C', f1, f2⟩ := hm _ (by rw [← hb1]; exact hp)
  simp at f1
  obtain ⟨rfl, rfl⟩ := f1
  have hg : (getObj b).run P w = .ok (.map es clock) w := by simp [getObj, Sem.run, k1]
  have hset : ∀ y : Obj, (setObj b y).run P w = .ok () { w with heap := w.heap.setIfInBounds b y } := fun y => by simp [setObj, Sem.run, k1]
  have hblt : b < w.heap.size := (Array.getElem?_eq_some_iff.1 k1).1
  have c1 := q1 ρ.H (ev ix) k w false hkr
  obtain ⟨m1, m2, m3, m4, m5⟩ := k2
  have hlen : es.toList.length = l.length := by simpa using m1
  have hget : ∀ (i : Nat) (x : tk.ty.Data × te.ty.Data), l[i]? = some x → ∃ e : MapEntry, es.toList[i]? = some e ∧ tk.ty.rv ρ1.H e.key x.1 ∧ te.ty.rv ρ1.H e.val x.2 := fun i x hx => by simpa using m5 i x hx
  have c2 := q2 ρ1.H es.toList (keysOf l) (ev ix) k w hkr1 (keysRd _ _ hlen hget)
  have fin : ∀ (es' : Array MapEntry) (clock' : Nat), MapRd ρ1.H tk.ty te.ty es' clock' (mput tk.ty k v l) → (execOp ev o).run P w = .ok .skip { w with heap := w.heap.setIfInBounds b (.map es' clock') } → OpDoes P o ev w (Leaves P B ρ σ ⟨[], [], .any, fz, [(ob, some (.map false tk.ty te.ty (mput tk.ty k v l)))], []⟩) := by
    intro es' clock' hrd hrun
    refine does_skip hrun ⟨ρ1, ?_, hle1, den_any _, trivial⟩
    have := set_obj hS1 hp k3 (.map false tk.ty te.ty (mput tk.ty k v l)) (w' := { w with heap := w.heap.setIfInBounds b (.map es' clock') }) ⟨rfl, rfl, rfl, Nat.le_refl _, by simp, fun j hj => (by show (w.heap.setIfInBounds b _)[j]? = _; rw [Array.getElem?_setIfInBounds, if_neg (fun h => hj h.symm)])⟩ (by
      simp only [ObSat, fzM]
      exact ⟨b, Cp, es', clock', rfl, by simp [hblt], hrd, k3⟩)
    rw [List.cons_append, List.nil_append]
    show Sat P B ρ1 ({ (σ.frz fz) with ob := (ob, _) :: (σ.frz fz).ob } : St).obj _
    rw [obj_wr1]
    exact this
  rcases findIx_mfind (H := ρ1.H) k es.toList l 0 hlen hget with ⟨g1, g2, g3⟩ | ⟨j, e', x', g1, g2, g3, g4, g5, g6, g7, g8⟩
  · rw [g1] at c2
    refine fin (es.push { key := ev ix, val := ev x, born := clock }) (clock + 1) ?_ ?_
    · rw [g3]
      have hlt : ∀ (i : Nat) (e : MapEntry), (es.push { key := ev ix, val := ev x, born := clock })[i]? = some e → (i < es.size ∧ es[i]? = some e) ∨ (i = es.size ∧ e = { key := ev ix, val := ev x, born := clock }) := by
        intro i e he
        rw [Array.getElem?_push] at he
        split at he
        · rename_i hi; simp at he; exact .inr ⟨hi, he.symm⟩
        · exact .inl ⟨(Array.getElem?_eq_some_iff.1 he).1, he⟩
      refine ⟨by simp [m1], by simp; omega, fun i e he => ?_, fun i j e e' he he' hb => ?_, fun i y hy => ?_⟩
      · rcases hlt i e he with ⟨_, h⟩ | ⟨_, rfl⟩
        · have := m3 i e h; omega
        · simp
      · rcases hlt i e he with ⟨h0, h⟩ | ⟨h0, rfl⟩ <;> rcases hlt j e' he' with ⟨h0', h'⟩ | ⟨h0', rfl⟩
        · exact m4 i j e e' h h' hb
        · have := m3 i e h; simp at hb; omega
        · have := m3 j e' h'; simp at hb; omega
        · omega
      · by_cases hi : i < l.length
        · rw [List.getElem?_append_left hi] at hy
          obtain ⟨e, h1, h2, h3⟩ := m5 i y hy
          exact ⟨e, by rw [Array.getElem?_push, if_neg (by omega)]; exact h1, h2, h3⟩
        · rw [List.getElem?_append_right (by omega)] at hy
          have : i - l.length = 0 := by
            by_cases e : i - l.length = 0
            · exact e
            · obtain ⟨q, hq⟩ : ∃ q, i - l.length = q + 1 := ⟨i - l.length - 1, by omega⟩
              rw [hq] at hy; simp at hy
          rw [this] at hy
          simp at hy; subst hy
          exact ⟨{ key := ev ix, val := ev x, born := clock }, by rw [Array.getElem?_push, if_pos (by omega)], hkr1, hvr⟩
    · simp [execOp, hop, Instr.mapUpdate, run_underlying hund, f2, hg, c1, c2, hset]
  · rw [g1] at c2
    have hsb := q3 ρ1.H e'.key (ev ix) k (g5 ▸ g6) hkr1
    have g3' : es[j]? = some e' := by simpa using g3
    refine fin (es.modify j fun e => { e with key := ev ix, val := ev x }) clock ?_ ?_
    · rw [g8]
      have hmod : ∀ (i : Nat) (e : MapEntry), (es.modify j fun e => { e with key := ev ix, val := ev x })[i]? = some e → (i ≠ j ∧ es[i]? = some e) ∨ (i = j ∧ e = { e' with key := ev ix, val := ev x }) := by
        intro i e he
        rw [Array.getElem?_modify] at he
        split at he
        · rename_i hi
          subst hi
          rw [g3'] at he
          simp at he
          exact .inr ⟨rfl, he.symm⟩
        · rename_i hi; exact .inl ⟨fun h => hi h.symm, he⟩
      refine ⟨by simp [m1], by simpa using m2, fun i e he => ?_, fun i i' e e2 he he' hb => ?_, fun i y hy => ?_⟩
      · rcases hmod i e he with ⟨_, h⟩ | ⟨rfl, rfl⟩
        · exact m3 i e h
        · exact m3 i e' g3'
      · rcases hmod i e he with ⟨h0, h⟩ | ⟨rfl, rfl⟩ <;> rcases hmod i' e2 he' with ⟨h0', h'⟩ | ⟨rfl, rfl⟩
        · exact m4 i i' e e2 h h' hb
        · exact m4 i i' e e' h g3' hb
        · exact m4 i i' e' e2 g3' h' hb
        · rfl
      · rw [List.getElem?_set] at hy
        by_cases hij : j = i
        · subst hij
          rw [if_pos rfl] at hy
          have hjl : j < l.length := by have := (List.getElem?_eq_some_iff.1 g4).1; exact this
          rw [if_pos hjl] at hy
          simp at hy; subst hy
          exact ⟨{ e' with key := ev ix, val := ev x }, by rw [Array.getElem?_modify, if_pos rfl, g3']; rfl, hkr1, hvr⟩
        · rw [if_neg hij] at hy
          obtain ⟨e, h1, h2, h3⟩ := m5 i y hy
          exact ⟨e, by rw [Array.getElem?_modify, if_neg hij]; exact h1, h2, h3⟩
    · have hks : (Instr.keyThatStays e'.key (ev ix)).run P w = .ok (ev ix) w := by simp [Instr.keyThatStays, hsb]
      simp [execOp, hop, Instr.mapUpdate, run_underlying hund, f2, hg, c1, c2, hset, g3', hks]

/-! ### An entry that is laid, then written -/

theorem push_rd {H : Imm} {kt vt : Ty} {es : Array MapEntry} {clock : Nat} {l : List (kt.Data × vt.Data)} (h : MapRd H kt vt es clock l) {kv vv : Value} {k : kt.Data} {v : vt.Data} (hk : kt.rv H kv k) (hv : vt.rv H vv v) :
    MapRd H kt vt (es.push { key := kv, val := vv, born := clock }) (clock + 1) (l ++ [(k, v)]) := by
  obtain ⟨m1, m2, m3, m4, m5⟩ := h
  have hlt : ∀ (i : Nat) (e : MapEntry), (es.push { key := kv, val := vv, born := clock })[i]? = some e → (i < es.size ∧ es[i]? = some e) ∨ (i = es.size ∧ e = { key := kv, val := vv, born := clock }) := by
    intro i e he
    rw [Array.getElem?_push] at he
    split at he
    · rename_i hi; simp at he; exact .inr ⟨hi, he.symm⟩
    · exact .inl ⟨(Array.getElem?_eq_some_iff.1 he).1, he⟩
  refine ⟨by simp [m1], by simp; omega, fun i e he => ?_, fun i j e e' he he' hb => ?_, fun i y hy => ?_⟩
  · rcases hlt i e he with ⟨_, h⟩ | ⟨_, rfl⟩
    · have := m3 i e h; omega
    · simp
  · rcases hlt i e he with ⟨h0, h⟩ | ⟨h0, rfl⟩ <;> rcases hlt j e' he' with ⟨h0', h'⟩ | ⟨h0', rfl⟩
    · exact m4 i j e e' h h' hb
    · have := m3 i e h; simp at hb; omega
    · have := m3 j e' h'; simp at hb; omega
    · omega
  · by_cases hi : i < l.length
    · rw [List.getElem?_append_left hi] at hy
      obtain ⟨e, h1, h2, h3⟩ := m5 i y hy
      exact ⟨e, by rw [Array.getElem?_push, if_neg (by omega)]; exact h1, h2, h3⟩
    · rw [List.getElem?_append_right (by omega)] at hy
      have : i - l.length = 0 := by
        by_cases e : i - l.length = 0
        · exact e
        · obtain ⟨q, hq⟩ : ∃ q, i - l.length = q + 1 := ⟨i - l.length - 1, by omega⟩
          rw [hq] at hy; simp at hy
      rw [this] at hy
      simp at hy; subst hy
      exact ⟨{ key := kv, val := vv, born := clock }, by rw [Array.getElem?_push, if_pos (by omega)], hk, hv⟩

theorem mod_rd {H : Imm} {kt vt : Ty} {es : Array MapEntry} {clock : Nat} {l : List (kt.Data × vt.Data)} (h : MapRd H kt vt es clock l) {j : Nat} {e' : MapEntry} (hj : es[j]? = some e') {f : MapEntry → MapEntry} (hb : (f e').born = e'.born)
    {k : kt.Data} {v : vt.Data} (hk : kt.rv H (f e').key k) (hv : vt.rv H (f e').val v) : MapRd H kt vt (es.modify j f) clock (l.set j (k, v)) := by
  obtain ⟨m1, m2, m3, m4, m5⟩ := h
  have hmod : ∀ (i : Nat) (e : MapEntry), (es.modify j f)[i]? = some e → (i ≠ j ∧ es[i]? = some e) ∨ (i = j ∧ e = f e') := by
    intro i e he
    rw [Array.getElem?_modify] at he
    split at he
    · rename_i hi
      subst hi
      rw [hj] at he
      simp at he
      exact .inr ⟨rfl, he.symm⟩
    · rename_i hi; exact .inl ⟨fun h => hi h.symm, he⟩
  refine ⟨by simp [m1], by simpa using m2, fun i e he => ?_, fun i i' e e2 he he' hbb => ?_, fun i y hy => ?_⟩
  · rcases hmod i e he with ⟨_, h⟩ | ⟨rfl, rfl⟩
    · exact m3 i e h
    · rw [hb]; exact m3 i e' hj
  · rcases hmod i e he with ⟨h0, h⟩ | ⟨rfl, rfl⟩ <;> rcases hmod i' e2 he' with ⟨h0', h'⟩ | ⟨rfl, rfl⟩
    · exact m4 i i' e e2 h h' hbb
    · exact m4 i i' e e' h hj (hbb.trans hb)
    · exact m4 i i' e' e2 hj h' (hb.symm.trans hbb)
    · rfl
  · rw [List.getElem?_set] at hy
    by_cases hij : j = i
    · subst hij
      have hjl : j < l.length := by have := (Array.getElem?_eq_some_iff.1 hj).1; omega
      rw [if_pos rfl, if_pos hjl] at hy
      simp at hy; subst hy
      exact ⟨f e', by rw [Array.getElem?_modify, if_pos rfl, hj]; rfl, hk, hv⟩
    · rw [if_neg hij] at hy
      obtain ⟨e, h1, h2, h3⟩ := m5 i y hy
      exact ⟨e, by rw [Array.getElem?_modify, if_neg hij]; exact h1, h2, h3⟩

/-- the entry at a key is laid -/
theorem run_entry {U : Nat} {ti tk te : TI} (hC : C.ok P) (hmp : C.mapT U = some (ti, tk, te)) {H : Imm} {b : Nat} {es : Array MapEntry} {clock : Nat} {l : List (tk.ty.Data × te.ty.Data)} (hw : w.heap[b]? = some (.map es clock))
    (hrd : MapRd H tk.ty te.ty es clock l) {kv : Value} {k : tk.ty.Data} (hk : tk.ty.rv H kv k) :
    ∃ (v : Value) (s : Int) (es' : Array MapEntry) (clock' : Nat), (Instr.mapEntry U (.map (some b)) kv).run P w = .ok (.tuple #[v, .int .i64 s]) { w with heap := w.heap.setIfInBounds b (.map es' clock') } ∧
      MapRd H tk.ty te.ty es' clock' (mentry tk.ty te.ty.dflt k l) ∧ te.ty.rv H v (mvalD te.ty.dflt (mfind tk.ty k l)) ∧
      ∃ (j : Nat) (e : MapEntry), es'[j]? = some e ∧ (e.born : Int) = s ∧ ∀ v, mput tk.ty k v l = (mentry tk.ty te.ty.dflt k l).set j (k, v) := by
  obtain ⟨_, ok2, ok3, hund, hkq, hte⟩ := mapT_info hC hmp
  obtain ⟨q1, q2, q3⟩ := ok2.keyq hkq
  have hg : (getObj b).run P w = .ok (.map es clock) w := by simp [getObj, Sem.run, hw]
  have hset : ∀ y : Obj, (setObj b y).run P w = .ok () { w with heap := w.heap.setIfInBounds b y } := fun y => by simp [setObj, Sem.run, hw]
  have c1 := q1 H kv k w false hk
  have hlen : es.toList.length = l.length := by simpa using hrd.1
  have hget : ∀ (i : Nat) (x : tk.ty.Data × te.ty.Data), l[i]? = some x → ∃ e : MapEntry, es.toList[i]? = some e ∧ tk.ty.rv H e.key x.1 ∧ te.ty.rv H e.val x.2 := fun i x hx => by simpa using hrd.2.2.2.2 i x hx
  have c2 := q2 H es.toList (keysOf l) kv k w hk (keysRd _ _ hlen hget)
  rcases findIx_mfind (H := H) k es.toList l 0 hlen hget with ⟨g1, g2, g3⟩ | ⟨j, e', x', g1, g2, g3, g4, g5, g6, g7, g8⟩
  · rw [g1] at c2
    obtain ⟨z, hz, hzr⟩ := zero_rv ok3 hte H
    have hl : mentry tk.ty te.ty.dflt k l = l ++ [(k, te.ty.dflt)] := by unfold mentry; rw [g2, g3]; rfl
    refine ⟨z, clock, es.push { key := kv, val := z, born := clock }, clock + 1, ?_, ?_, by rw [g2]; exact hzr, l.length, { key := kv, val := z, born := clock }, ?_, rfl, fun v => ?_⟩
    · simp [Instr.mapEntry, run_underlying hund, hg, c1, c2, hset, hz, goInt]
    · rw [hl]; exact push_rd hrd hk hzr
    · rw [Array.getElem?_push, if_pos hrd.1.symm]
    · rw [hl, g3, List.set_append_right _ _ (Nat.le_refl _)]
      simp
  · rw [g1] at c2
    have g3' : es[j]? = some e' := by simpa using g3
    have hsb := q3 H e'.key kv k (g5 ▸ g6) hk
    have hl : mentry tk.ty te.ty.dflt k l = l.set j (k, x'.2) := by unfold mentry; rw [g2, g8]; rfl
    have hks : (Instr.keyThatStays e'.key kv).run P w = .ok kv w := by simp [Instr.keyThatStays, hsb]
    refine ⟨e'.val, e'.born, es.modify j fun e => { e with key := kv }, clock, ?_, ?_, by rw [g2]; exact g7, j, { e' with key := kv }, ?_, rfl, fun v => ?_⟩
    · simp [Instr.mapEntry, run_underlying hund, hg, c1, c2, hset, g3', hks, goInt]
    · rw [hl]; exact mod_rd hrd g3' rfl hk g7
    · rw [Array.getElem?_modify, if_pos rfl, g3']; rfl
    · rw [hl, g8, List.set_set]

theorem does_entryStore {U dst : Nat} {m st x : Operand} (_ : C.ok P) (hop : o.op = .entryStore U m st x) (h : evalOp C σ dst (.entryStore U m st x) = some out) (hS : Sat P B ρ σ.obj w)
    (hm : SV.den P ρ (opnd σ m) (ev m)) (hst : SV.den P ρ (opnd σ st) (ev st)) (hx : SV.den P ρ (opnd σ x) (ev x)) (hvc : AllP out.vc) : OpDoes P o ev w (Leaves P B ρ σ out) := by
  simp only [evalOp] at h
  split at h
  case h_2 => cases h
  rename_i ti tk te hmp
  split at h
  case h_2 => cases h
  rename_i ob s hob hs
  rw [hob] at hm
  split at h
  case h_2 => cases h
  rename_i kt vt l k s' ho
  split at h
  case h_2 => cases h
  rename_i l' k' v fz hc hk hv
  split at h
  case h_2 => cases h
  rename_i hmem
  have hmem := memb_false hmem
  simp at h; subst h
  obtain ⟨e, rfl⟩ := cast?_some hc
  obtain ⟨e1, e2⟩ : kt = tk.ty ∧ vt = te.ty := by injection e with a b; exact ⟨a, b⟩
  subst e1
  subst e2
  obtain ⟨ek, hkk⟩ := cast?_some hk
  have hkk : k = k' := by first | exact hkk | exact hkk.symm
  subst hkk
  have hcast : castD e l = l := rfl
  rw [hcast]
  simp only [AllP] at hvc
  obtain ⟨hss, _⟩ := hvc
  have hsv : ev st = .int .i64 s := asInt_den (i := s) (by rw [hs]; rfl) hst
  obtain ⟨ρ1, hS1, hle1, hb1, hn1⟩ := freeze_sat (σ := σ) fz hS
  have hvr := toDat_sound hS1 (fz_frz σ fz) hv (fun o ho => ho) (SV.den_mono hle1 _ _ (fun r hr => by simp at hr) hx)
  have ho1 : (σ.frz fz).obj ob = some (.mape tk.ty te.ty l k s') := by rw [obj_frz, if_neg hmem]; exact ho
  obtain ⟨p, hp, hs1⟩ := hS1.obs ob _ ho1
  simp only [ObSat] at hs1
  obtain ⟨b, Cp, es, clock, rfl, k1, k2, k3, j, e', j1, j2, j3⟩ := hs1
  simp only [SV.den] at hm
  obtain ⟨b', C', f1, f2⟩ := hm _ (by rw [← hb1]; exact hp)
  simp at f1
  obtain ⟨rfl, rfl⟩ := f1
  have hg : (getObj b).run P w = .ok (.map es clock) w := by simp [getObj, Sem.run, k1]
  have hset : ∀ y : Obj, (setObj b y).run P w = .ok () { w with heap := w.heap.setIfInBounds b y } := fun y => by simp [setObj, Sem.run, k1]
  have hblt : b < w.heap.size := (Array.getElem?_eq_some_iff.1 k1).1
  obtain ⟨hjlt, hje⟩ := Array.getElem?_eq_some_iff.1 j1
  have hfind : es.findIdx? (fun e => (e.born : Int) == s) = some j := by
    rw [Array.findIdx?_eq_some_iff_getElem]
    refine ⟨hjlt, by rw [hje]; simp [j2, hss], fun i hi => ?_⟩
    have hil : i < es.size := by omega
    intro hbad
    have hbad : ((es[i]).born : Int) = s := by simpa using hbad
    have := k2.2.2.2.1 i j es[i] e' (Array.getElem?_eq_getElem hil) j1 (by
      have h1 : ((es[i]).born : Int) = (e'.born : Int) := by rw [hbad, j2, hss]
      exact_mod_cast h1)
    omega
  have hjl : j < (mentry tk.ty te.ty.dflt k l).length := by have := k2.1; omega
  have hkey : tk.ty.rv ρ1.H e'.key k := by
    obtain ⟨e2, h1, h2, _⟩ := k2.2.2.2.2 j _ (List.getElem?_eq_getElem hjl)
    rw [j1] at h1
    simp at h1; subst h1
    have h3 := j3 (mvalD te.ty.dflt (mfind tk.ty k l))
    have h4 : ((mentry tk.ty te.ty.dflt k l)[j]).1 = k := by
      have : (mentry tk.ty te.ty.dflt k l)[j]? = some (k, mvalD te.ty.dflt (mfind tk.ty k l)) := by
        conv => lhs; rw [show mentry tk.ty te.ty.dflt k l = _ from h3]
        rw [List.getElem?_set, if_pos rfl, if_pos hjl]
      rw [List.getElem?_eq_getElem hjl] at this
      simp at this
      rw [this]
    rw [h4] at h2
    exact h2
  have hrun : (execOp ev o).run P w = .ok .skip { w with heap := w.heap.setIfInBounds b (.map (es.modify j fun e => { e with val := ev x }) clock) } := by
    simp [execOp, hop, Instr.entryStore, f2, hg, hsv, Go.asInt, asIntOf, hfind, hset]
  refine does_skip hrun ⟨ρ1, ?_, hle1, den_any _, trivial⟩
  have := set_obj hS1 hp k3 (.map false tk.ty te.ty (mput tk.ty k v l)) (w' := { w with heap := w.heap.setIfInBounds b (.map (es.modify j fun e => { e with val := ev x }) clock) }) ⟨rfl, rfl, rfl, Nat.le_refl _, by simp, fun j hj => (by show (w.heap.setIfInBounds b _)[j]? = _; rw [Array.getElem?_setIfInBounds, if_neg (fun h => hj h.symm)])⟩ (by
    simp only [ObSat, fzM]
    refine ⟨b, Cp, es.modify j fun e => { e with val := ev x }, clock, rfl, by simp [hblt], ?_, k3⟩
    rw [j3]
    exact mod_rd k2 j1 rfl hkey hvr)
  rw [List.cons_append, List.nil_append]
  show Sat P B ρ1 ({ (σ.frz fz) with ob := (ob, _) :: (σ.frz fz).ob } : St).obj _
  rw [obj_wr1]
  exact this

theorem does_range {U dst : Nat} {x : Operand} (hC : C.ok P) (hop : o.op = .range U x) (h : evalOp C σ dst (.range U x) = some out) (hS : Sat P B ρ σ.obj w)
    (hd : σ.obj dst = none) (hn : NoRef σ.obj dst) (hx : SV.den P ρ (opnd σ x) (ev x)) : OpDoes P o ev w (Leaves P B ρ σ out) := by
  simp only [evalOp] at h
  split at h
  case h_2 => cases h
  rename_i ti tk te hmp
  obtain ⟨_, _, _, hund, _, _⟩ := mapT_info hC hmp
  split at h
  case h_2 => cases h
  rename_i l fz hl
  simp at h; subst h
  obtain ⟨ρ1, hS1, hle1, hb1, hn1⟩ := freeze_sat (σ := σ) fz hS
  have hr := toDat_sound hS1 (fz_frz σ fz) hl (fun o ho => ho) (SV.den_mono hle1 _ _ (fun r hr => by simp at hr) hx)
  obtain ⟨p, h1, h2, h3⟩ := rv_scalar (t := .map tk.ty te.ty) rfl hr
  simp at h1
  have hd1 : (σ.frz fz).obj dst = none := by rw [obj_frz, hd]; simp
  have hn1 : NoRef (σ.frz fz).obj dst := by
    intro r T f cs hr
    rw [obj_frz] at hr
    split at hr
    · cases hx : σ.obj r with
      | none => rw [hx] at hr; cases hr
      | some y =>
        rw [hx] at hr
        cases y <;> simp [frozenOb] at hr
        obtain ⟨rfl, _, rfl⟩ := hr
        exact hn r _ _ _ hx
    · exact hn r T f cs hr
  have fin : ∀ (y : Obj), IterRd ρ1.H tk.ty te.ty l none y → (execOp ev o).run P w = .ok (.value (.pointer (some ⟨w.heap.size, 0, none⟩))) (w.alloc y) → OpDoes P o ev w (Leaves P B ρ σ ⟨[], [], .ip dst, fz, [(dst, some (.iter tk.ty te.ty l none))], [dst]⟩) := by
    intro y hy hrun
    obtain ⟨ρ', g1, g2, g3, _, _⟩ := new_obj' hS1 hd1 hn1 y 0 0 (.iter tk.ty te.ty l none) (fun ρ' hH _ _ => by
      simp only [ObSat]
      refine ⟨w.heap.size, 0, y, rfl, heap_alloc_here w _, by rw [hH]; exact hy, ?_⟩
      rw [hH]
      cases hc : ρ1.H w.heap.size with
      | none => rfl
      | some c => have := hS1.good.lt hc; omega)
    refine does_value hrun ⟨ρ', ?_, (hle1.weaken (fun o ho => by simp at ho)).trans g2, ?_, trivial⟩
    · rw [List.cons_append, List.nil_append]
      show Sat P B ρ' ({ (σ.frz fz) with ob := (dst, _) :: (σ.frz fz).ob } : St).obj _
      rw [obj_wr1]
      exact g1
    · simp only [SV.den]
      intro p hp
      rw [g3] at hp
      simp at hp; subst hp
      exact ⟨_, _, rfl, rfl⟩
  cases p with
  | none =>
    have := h2 rfl
    subst this
    refine fin (.mapIter none 0 #[] 0) ⟨rfl, rfl⟩ ?_
    simp [execOp, hop, Instr.range, run_underlying hund, h1]
  | some b =>
    obtain ⟨es, clock, e1, e2, e3, e4, e5, e6⟩ := h3 b rfl
    have hw := hS1.good b _ e1
    have hg : (getObj b).run P w = .ok (.map es clock) w := by
      have : w.heap[b]? = some (.map es clock) := hw
      simp [getObj, Sem.run, this]
    refine fin (.mapIter (some b) clock #[] clock) ⟨es, clock, e1, rfl, e4, e5, .inl rfl, ⟨es.toList, ?_, by simpa using e2, fun i x hx => ?_⟩, trivial⟩ ?_
    · rw [List.filter_eq_self.2]; intro e _; simp
    · obtain ⟨e, q1, q2, q3⟩ := e6 i x hx
      exact ⟨e, by simpa using q1, q2, q3⟩
    · simp [execOp, hop, Instr.range, run_underlying hund, h1, hg]

theorem does_entry {dst : Nat} {it : Operand} (hop : o.op = .entry it) (h : evalOp C σ dst (.entry it) = some out) (hS : Sat P B ρ σ.obj w)
    (hit : SV.den P ρ (opnd σ it) (ev it)) : OpDoes P o ev w (Leaves P B ρ σ out) := by
  simp only [evalOp] at h
  split at h
  case h_2 => cases h
  rename_i ob hob
  rw [hob] at hit
  split at h
  case h_2 => cases h
  rename_i kt vt left x ho
  simp only [Out.pure, Option.some.injEq] at h; subst h
  obtain ⟨p, hp, hs⟩ := hS.obs ob _ ho
  simp only [ObSat] at hs
  obtain ⟨b, Cp, y, rfl, k1, k2, k3⟩ := hs
  simp only [SV.den] at hit
  obtain ⟨b', C', e1, e2⟩ := hit _ hp
  simp at e1
  obtain ⟨rfl, rfl⟩ := e1
  unfold IterRd at k2
  split at k2
  · exact absurd k2.2 (by simp)
  · rename_i m since seen stepped
    obtain ⟨es, clock, h1, h2, h3, h4, h5, _, h7, e, g1, g2, g3, g4⟩ := k2
    have hm : w.heap[m]? = some (.map es clock) := hS.good m _ h1
    have hg1 : (getObj b).run P w = .ok (.mapIter (some m) since seen stepped) w := by simp [getObj, Sem.run, k1]
    have hg2 : (getObj m).run P w = .ok (.map es clock) w := by simp [getObj, Sem.run, hm]
    have hfind : es.find? (·.born == e.born) = some e := by
      cases hf : es.find? (·.born == e.born) with
      | none =>
        have := Array.find?_eq_none.1 hf e (by simpa using g1)
        simp at this
      | some e' =>
        have hb := Array.find?_some hf
        simp at hb
        have hmem := Array.mem_of_find?_eq_some hf
        obtain ⟨i, hi⟩ := Array.getElem?_of_mem hmem
        obtain ⟨j, hj⟩ := Array.getElem?_of_mem (show e ∈ es by simpa using g1)
        have := h4 i j e' e hi hj hb
        subst this
        rw [hi] at hj
        exact hj
    refine does_plain hS (v := .tuple #[e.key, e.val]) ?_ ?_ trivial
    · simp [execOp, hop, Instr.entry, e2, hg1, hg2, g2, h7, hfind]
    · simp only [SV.den, SV.denL]
      exact ⟨_, rfl, _, _, rfl, g3, _, _, rfl, g4, rfl⟩
  · exact k2.elim

end
end Go.X
