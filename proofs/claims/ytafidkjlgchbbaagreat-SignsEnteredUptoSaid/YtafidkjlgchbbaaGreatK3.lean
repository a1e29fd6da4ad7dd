/-
  One operation: sound (calls); every operation.
-/
import Derived.Test.YtafidkjlgchbbaaGreatK2
import Derived.Orders
namespace Go.X
open Go.RowKit (Below)

section
variable {P : Program} {B : Base} {C : Ctx} {σ : St} {ρ : Env} {w : World} {o : Oper} {ev : Operand → Value} {out : Out}

/-- a way to read function values is right -/
def TfOk (P : Program) (ρ : Env) (fz : List Nat) (tf : (ps rs : List Ty) → SV → Option (FnD ps rs × List Nat)) : Prop :=
  ∀ (ps rs : List Ty) (sv : SV) (d : FnD ps rs) (fz' : List Nat), tf ps rs sv = some (d, fz') → (∀ o, o ∈ fz' → o ∈ fz) → ∀ v, SV.den P ρ sv v → FnV P ρ.H ps rs d.pre d.F v

theorem fnPtr_sound {τ : St} (hS : Sat P B ρ τ.obj w) {fz : List Nat} (hF : Frz σ τ fz) {tf : (ps rs : List Ty) → SV → Option (FnD ps rs × List Nat)} (ht : TfOk P ρ fz tf) {ps rs : List Ty} {sv : SV} {d : FnD ps rs} {fz' : List Nat} (h : fnPtr tf σ ps rs sv = some (d, fz'))
    (hs : ∀ o, o ∈ fz' → o ∈ fz) {v : Value} (hv : SV.den P ρ sv v) : parV P ρ.H (.rfn ps rs) v d := by
  unfold fnPtr at h
  split at h
  · split at h
    · rename_i e
      obtain ⟨e1, e2⟩ := e
      subst e1 e2
      simp at h
      obtain ⟨rfl, rfl⟩ := h
      simpa [SV.den, parV] using hv
    · cases h
  · rename_i o
    split at h
    · rename_i T f c hx
      split at h
      · rename_i x f2 hc
        simp at h
        obtain ⟨rfl, rfl⟩ := h
        have hτ : τ.obj o = some (.box T true [c]) := by rw [(hF o).2 (hs o (by simp)), hx]; rfl
        obtain ⟨p, hp, b, C', vs, rfl, hw, hdl, _, hH⟩ := hS.obs o _ hτ
        simp only [SV.den] at hv
        obtain ⟨b', C2, e, rfl⟩ := hv _ hp
        simp at e
        obtain ⟨rfl, rfl⟩ := e
        simp only [SV.denL] at hdl
        obtain ⟨u, r, evs, hdu, rfl⟩ := hdl
        have evs : vs = #[u] := Array.toList_inj.1 (by simpa using evs)
        subst evs
        exact ⟨b, u, rfl, by simpa [fzH] using hH, ht _ _ _ _ _ hc (fun o ho => hs o (List.mem_cons_of_mem _ ho)) _ hdu⟩
      · cases h
    · cases h
  · cases h

theorem zipPC_sound {τ : St} (hS : Sat P B ρ τ.obj w) {fz : List Nat} (hF : Frz σ τ fz) {tf : (ps rs : List Ty) → SV → Option (FnD ps rs × List Nat)} (ht : TfOk P ρ fz tf) :
    ∀ {ps : List Par} {svs : List SV} {d : PD ps} {fz' : List Nat}, zipPC tf σ ps svs = some (d, fz') → (∀ o, o ∈ fz' → o ∈ fz) → ∀ {vs : List Value}, SV.denL P ρ svs vs → pvs P ρ.H ps vs d
  | [], [], d, fz', h, _, vs, hv => by simpa [SV.denL, pvs] using hv
  | [], _ :: _, d, fz', h, _, vs, hv => by simp [zipPC] at h
  | .val _ :: _, [], d, fz', h, _, vs, hv => by simp [zipPC] at h
  | .ref _ :: _, [], d, fz', h, _, vs, hv => by simp [zipPC] at h
  | .fn _ _ :: _, [], d, fz', h, _, vs, hv => by simp [zipPC] at h
  | .fn _ _ :: _, _ :: _, d, fz', h, _, vs, hv => by simp [zipPC] at h
  | .rfn _ _ :: _, [], d, fz', h, _, vs, hv => by simp [zipPC] at h
  | .val t :: ps, sv :: svs, d, fz', h, hs, vs, hv => by
    simp only [zipPC] at h
    split at h
    · rename_i x f hx
      split at h
      · rename_i xs f' hr
        simp at h
        obtain ⟨rfl, rfl⟩ := h
        simp only [SV.denL] at hv
        obtain ⟨v, r, rfl, h1, h2⟩ := hv
        exact ⟨toDat_sound hS hF hx (fun o ho => hs o (List.mem_append_left _ ho)) h1, zipPC_sound hS hF ht hr (fun o ho => hs o (List.mem_append_right _ ho)) h2⟩
      · cases h
    · cases h
  | .ref t :: ps, sv :: svs, d, fz', h, hs, vs, hv => by
    simp only [zipPC] at h
    split at h
    · rename_i x f hx
      split at h
      · rename_i xs f' hr
        simp at h
        obtain ⟨rfl, rfl⟩ := h
        simp only [SV.denL] at hv
        obtain ⟨v, r, rfl, h1, h2⟩ := hv
        exact ⟨toRef_sound hS hF hx (fun o ho => hs o (List.mem_append_left _ ho)) h1, zipPC_sound hS hF ht hr (fun o ho => hs o (List.mem_append_right _ ho)) h2⟩
      · cases h
    · cases h
  | .rfn as rs :: ps, sv :: svs, d, fz', h, hs, vs, hv => by
    simp only [zipPC] at h
    split at h
    · rename_i x f hx
      split at h
      · rename_i xs f' hr
        simp at h
        obtain ⟨rfl, rfl⟩ := h
        simp only [SV.denL] at hv
        obtain ⟨v, r, rfl, h1, h2⟩ := hv
        exact ⟨fnPtr_sound hS hF ht hx (fun o ho => hs o (List.mem_append_left _ ho)) h1, zipPC_sound hS hF ht hr (fun o ho => hs o (List.mem_append_right _ ho)) h2⟩
      · cases h
    · cases h

theorem toFnN_sound (hC : C.ok P) {τ : St} (hS : Sat P B ρ τ.obj w) {fz : List Nat} (hF : Frz σ τ fz) : ∀ n, TfOk P ρ fz (toFnN C σ n)
  | 0 => fun ps rs sv d fz' h => by simp [toFnN] at h
  | n + 1 => by
    intro ps rs sv d fz' h hs v hv
    unfold toFnN at h
    split at h
    · rename_i ps' rs' pre F
      split at h
      · rename_i e
        obtain ⟨e1, e2⟩ := e
        subst e1 e2
        simp at h
        obtain ⟨rfl, rfl⟩ := h
        simpa [SV.den] using hv
      · cases h
    · rename_i f caps
      split at h
      · rename_i s hs'
        split at h
        · rename_i e
          obtain ⟨e1, e2⟩ := e
          subst e1
          split at h
          · rename_i rest k hk
            split at h
            · rename_i y fz2 hz
              simp at h
              obtain ⟨rfl, rfl⟩ := h
              simp only [SV.den] at hv
              obtain ⟨vs, rfl, hd⟩ := hv
              have hfn := hC.fs f s hs' e2
              refine ⟨f, vs, rfl, hfn.enters, fun H' w' vals x hH hG hvals hpre => ?_⟩
              have hp := zipPC_sound hS hF (toFnN_sound hC hS hF n) hz hs hd
              have := hfn.calls H' w' (vals ++ vs.toList) (k x y) hG (splitPar_sound hk hvals (pvs.mono hH hp)) hpre
              rwa [show (vals ++ vs.toList).toArray = vals.toArray ++ vs from by apply Array.toList_inj.1; simp] at this
            · cases h
          · cases h
        · cases h
      · cases h
    · cases h

theorem toFn_sound (hC : C.ok P) {τ : St} (hS : Sat P B ρ τ.obj w) {fz : List Nat} (hF : Frz σ τ fz) {ps rs : List Ty} {sv : SV} {d : FnD ps rs} {fz' : List Nat} (h : toFn C σ ps rs sv = some (d, fz')) (hs : ∀ o, o ∈ fz' → o ∈ fz)
    {v : Value} (hv : SV.den P ρ sv v) : FnV P ρ.H ps rs d.pre d.F v := toFnN_sound hC hS hF 4 ps rs sv d fz' h hs v hv

theorem zipArgs_sound (hC : C.ok P) {τ : St} (hS : Sat P B ρ τ.obj w) {fz : List Nat} (hF : Frz σ τ fz) :
    ∀ {ps : List Par} {svs : List SV} {d : PD ps} {fz' : List Nat}, zipArgs C σ ps svs = some (d, fz') → (∀ o, o ∈ fz' → o ∈ fz) → ∀ {vs : List Value}, SV.denL P ρ svs vs → pvs P ρ.H ps vs d
  | [], [], d, fz', h, _, vs, hv => by simpa [SV.denL, pvs] using hv
  | [], _ :: _, d, fz', h, _, vs, hv => by simp [zipArgs] at h
  | .val _ :: _, [], d, fz', h, _, vs, hv => by simp [zipArgs] at h
  | .ref _ :: _, [], d, fz', h, _, vs, hv => by simp [zipArgs] at h
  | .fn _ _ :: _, [], d, fz', h, _, vs, hv => by simp [zipArgs] at h
  | .rfn _ _ :: _, [], d, fz', h, _, vs, hv => by simp [zipArgs] at h
  | .val t :: ps, sv :: svs, d, fz', h, hs, vs, hv => by
    simp only [zipArgs] at h
    split at h
    · rename_i x f hx
      split at h
      · rename_i xs f' hr
        simp at h
        obtain ⟨rfl, rfl⟩ := h
        simp only [SV.denL] at hv
        obtain ⟨v, r, rfl, h1, h2⟩ := hv
        exact ⟨toDat_sound hS hF hx (fun o ho => hs o (List.mem_append_left _ ho)) h1, zipArgs_sound hC hS hF hr (fun o ho => hs o (List.mem_append_right _ ho)) h2⟩
      · cases h
    · cases h
  | .ref t :: ps, sv :: svs, d, fz', h, hs, vs, hv => by
    simp only [zipArgs] at h
    split at h
    · rename_i x f hx
      split at h
      · rename_i xs f' hr
        simp at h
        obtain ⟨rfl, rfl⟩ := h
        simp only [SV.denL] at hv
        obtain ⟨v, r, rfl, h1, h2⟩ := hv
        exact ⟨toRef_sound hS hF hx (fun o ho => hs o (List.mem_append_left _ ho)) h1, zipArgs_sound hC hS hF hr (fun o ho => hs o (List.mem_append_right _ ho)) h2⟩
      · cases h
    · cases h
  | .fn as rs :: ps, sv :: svs, d, fz', h, hs, vs, hv => by
    simp only [zipArgs] at h
    split at h
    · rename_i x f hx
      split at h
      · rename_i xs f' hr
        simp at h
        obtain ⟨rfl, rfl⟩ := h
        simp only [SV.denL] at hv
        obtain ⟨v, r, rfl, h1, h2⟩ := hv
        exact ⟨toFn_sound hC hS hF hx (fun o ho => hs o (List.mem_append_left _ ho)) h1, zipArgs_sound hC hS hF hr (fun o ho => hs o (List.mem_append_right _ ho)) h2⟩
      · cases h
    · cases h
  | .rfn as rs :: ps, sv :: svs, d, fz', h, hs, vs, hv => by
    simp only [zipArgs] at h
    split at h
    · rename_i x f hx
      split at h
      · rename_i xs f' hr
        simp at h
        obtain ⟨rfl, rfl⟩ := h
        simp only [SV.denL] at hv
        obtain ⟨v, r, rfl, h1, h2⟩ := hv
        exact ⟨fnPtr_sound hS hF (toFnN_sound hC hS hF 4) hx (fun o ho => hs o (List.mem_append_left _ ho)) h1, zipArgs_sound hC hS hF hr (fun o ho => hs o (List.mem_append_right _ ho)) h2⟩
      · cases h
    · cases h

/-- a call leaves the state's own things alone -/
theorem sat_call {obj : Nat → Option Ob} (hS : Sat P B ρ obj w) (hlt : ∀ o b Cp, ρ.blk o = some (some (b, Cp)) → b < w.heap.size) {H' : Imm} {w' : World} (hE : HExt ρ.H w H' w') :
    Sat P B { ρ with H := H' } obj w' ∧ ρ.le { ρ with H := H' } [] := by
  have hle : ρ.le { ρ with H := H' } [] := ⟨hE.mono hS.good, fun _ _ _ h => h, fun _ _ => rfl⟩
  refine ⟨⟨hE.below.os.trans hS.os, hE.below.tape.trans hS.tape, hE.below.output.trans hS.output, Nat.le_trans hS.drawn hE.drawn, Nat.le_trans hS.size hE.below.size, hE.good, ?_, ?_, ?_, hS.dead, hS.inj, hS.own⟩, hle⟩
  · intro b hb hbo
    have := hS.size
    show H' b = _
    rw [hE.old b (by omega)]; exact hS.oldH b hb hbo
  · intro b hb hbo
    have := hS.size
    rw [hE.below.block b (by omega)]; exact hS.old b hb hbo
  · intro o x hx
    obtain ⟨p, hp, hs⟩ := hS.obs o x hx
    refine ⟨p, hp, obSat_mono hle (by simp) (fun _ _ _ _ o' ho' => by simp at ho') (fun b C' hpb => ?_) hs⟩
    subst hpb
    have := hlt o b C' hp
    exact ⟨hE.old b this, hE.below.block b this⟩

theorem one_of_rv {H : Imm} {t : Ty} (ht : t.agg = false) {v : Value} {d : t.Data} (h : t.rv H v d) : v.oneCell' = true := by
  have hs : 0 < t.size := by cases t <;> simp_all [Ty.agg, Ty.size]
  obtain ⟨u, e, h1⟩ := rd_some t _ d (rv_scalar ht h) 0 hs
  simp at e; subst e; exact h1

/-- a call that may write one variable -/
theorem sat_callE {obj : Nat → Option Ob} (hS : Sat P B ρ obj w) (hlt : ∀ o b Cp, ρ.blk o = some (some (b, Cp)) → b < w.heap.size) {o b Cp T : Nat} {cs : List SV} (hx : obj o = some (.box T false cs)) (hb : ρ.blk o = some (some (b, Cp)))
    {H' : Imm} {w' : World} {u : Value} {sv : SV} (hE : HExtB [b] ρ.H w H' w') (hH : H' b = none) (hw : w'.heap[b]? = some (.cells #[u] T (0, 0))) (hd : SV.den P { ρ with H := H' } sv u) (h1 : u.oneCell' = true) :
    Sat P B { ρ with H := H' } (putO obj o (some (.box T false [sv]))) w' ∧ ρ.le { ρ with H := H' } [] := by
  have hbn : ρ.H b = none := by
    obtain ⟨p, hp, b2, C2, vs, e, _, _, _, k⟩ := hS.obs o _ hx
    rw [hb] at hp; simp at hp; subst hp
    simp at e; obtain ⟨rfl, rfl⟩ := e
    exact k
  have hle : ρ.le { ρ with H := H' } [] := ⟨fun b' c hc => by
    have hl := hS.good.lt hc
    show H' b' = _
    rw [hE.old b' hl (by intro hm; simp at hm; subst hm; rw [hbn] at hc; cases hc)]; exact hc, fun _ _ _ h => h, fun _ _ => rfl⟩
  have out : ∀ b', b' < B.w.heap.size → b' ∉ B.bor → b' ∉ [b] := by
    intro b' h2 h3 hm
    simp at hm; subst hm
    rcases hS.own o _ _ hb with h | h
    · omega
    · exact h3 h
  refine ⟨⟨hE.os.trans hS.os, hE.tape.trans hS.tape, hE.output.trans hS.output, Nat.le_trans hS.drawn hE.drawn, Nat.le_trans hS.size hE.size, hE.good, ?_, ?_, ?_, ?_, hS.inj, hS.own⟩, hle⟩
  · intro b' h2 h3
    have := hS.size
    show H' b' = _
    rw [hE.old b' (by omega) (out b' h2 h3)]; exact hS.oldH b' h2 h3
  · intro b' h2 h3
    have := hS.size
    rw [hE.block b' (by omega) (out b' h2 h3)]; exact hS.old b' h2 h3
  · intro o' x hx'
    unfold putO at hx'
    split at hx'
    · rename_i e
      subst e
      simp at hx'; subst hx'
      refine ⟨_, hb, b, Cp, #[u], rfl, hw, ?_, by simpa using h1, hH⟩
      simp only [SV.denL]
      exact ⟨u, [], rfl, hd, rfl⟩
    · rename_i hne
      obtain ⟨p, hp, hs⟩ := hS.obs o' x hx'
      refine ⟨p, hp, obSat_mono hle (by simp) (fun _ _ _ _ o2 ho' => by simp at ho') (fun b' C' hpb => ?_) hs⟩
      subst hpb
      have hl := hlt o' b' C' hp
      have hn : b' ∉ [b] := by
        intro hm
        simp at hm; subst hm
        exact hne (hS.inj o' o _ _ _ hp hb)
      exact ⟨hE.old b' hl hn, hE.block b' hl hn⟩
  · intro o' hx'
    unfold putO at hx'
    split at hx'
    · cases hx'
    · exact hS.dead o' hx'

theorem results_den {H : Imm} (hH : ρ.H = H) : ∀ (rs : List Ty) (vs : List Value) (d : (Ty.st rs).Data), rvs H rs vs d → SV.denL P ρ (results rs d) vs
  | [], vs, d, h => by simpa [results, SV.denL, rvs] using h
  | t :: ts, [], d, h => h.elim
  | t :: ts, v :: vs, d, h => by
    simp only [results, SV.denL]
    exact ⟨v, vs, rfl, by simp only [SV.den]; rw [hH]; exact h.1, results_den hH ts vs d.2 h.2⟩

theorem resSV_den {H : Imm} (hH : ρ.H = H) : ∀ {rs : List Ty} {v : Value} {d : (Ty.st rs).Data}, resV H rs v d → SV.den P ρ (resSV rs d) v
  | [t], v, d, h => by
    simp only [resSV, results, SV.den]
    rw [hH]; exact h
  | [], v, d, h => by
    obtain ⟨vs, rfl, h⟩ := h
    simp only [resSV, results, SV.den]
    exact ⟨vs, rfl, results_den hH [] _ d h⟩
  | t :: u :: ts, v, d, h => by
    obtain ⟨vs, rfl, h⟩ := h
    have := results_den (P := P) hH (t :: u :: ts) _ d h
    simp only [resSV, results, SV.den] at this ⊢
    exact ⟨vs, rfl, this⟩

theorem sat_below {obj : Nat → Option Ob} (hS : Sat P B ρ obj w) {w' : World} (hb : Below w.heap.size w w') (hdr : w.drawn ≤ w'.drawn) : Sat P B ρ obj w' := by
  have hlt : ∀ o x, obj o = some x → ∀ b Cp, ρ.blk o = some (some (b, Cp)) → b < w.heap.size := by
    intro o x hx b Cp hp
    obtain ⟨p, hp', hs⟩ := hS.obs o x hx
    rw [hp] at hp'; simp at hp'; subst hp'
    exact obSat_lt hs
  refine ⟨hb.os.trans hS.os, hb.tape.trans hS.tape, hb.output.trans hS.output, Nat.le_trans hS.drawn hdr, Nat.le_trans hS.size hb.size, ?_, hS.oldH, ?_, ?_, hS.dead, hS.inj, hS.own⟩
  · intro b c hc
    rw [hb.block b (hS.good.lt hc)]; exact hS.good b c hc
  · intro b h1 h2
    have := hS.size
    rw [hb.block b (by omega)]; exact hS.old b h1 h2
  · intro o x hx
    obtain ⟨p, hp, hs⟩ := hS.obs o x hx
    refine ⟨p, hp, obSat_mono (Env.le.refl ρ []) (by simp) (fun _ _ _ _ o' ho' => by simp at ho') (fun b C' hpb => ⟨rfl, ?_⟩) hs⟩
    subst hpb
    exact hb.block b (hlt o x hx b C' hp)

theorem flat_rd {H H' : Imm} : ∀ (t : Ty) (f : Nat → Option Value) (d : t.Data), flatTy t = true → t.rd H f d → t.rd H' f d
  | .int, _, _, _, h => h
  | .bool, _, _, _, h => h
  | .uint _, _, _, _, h => h
  | .unit, _, _, _, _ => trivial
  | .slice _, _, _, hf, _ => by cases hf
  | .map _ _, _, _, hf, _ => by cases hf
  | .pair a b, f, d, hf, h => by
    simp only [flatTy] at hf
    split at hf
    · rename_i ha; exact ⟨flat_rd a _ _ ha h.1, flat_rd b _ _ hf h.2⟩
    · cases hf

theorem flat_rvs {H H' : Imm} : ∀ (rs : List Ty) (vs : List Value) (d : (Ty.st rs).Data), flatL rs = true → rvs H rs vs d → rvs H' rs vs d
  | [], vs, d, _, h => h
  | t :: ts, [], d, _, h => h.elim
  | t :: ts, v :: vs, d, hf, h => by
    simp only [flatL] at hf
    split at hf
    · rename_i ht; exact ⟨⟨h.1.1, h.1.2.1, flat_rd t _ _ ht h.1.2.2⟩, flat_rvs ts vs d.2 hf h.2⟩
    · cases hf

theorem flat_resV {H H' : Imm} : ∀ {rs : List Ty} {v : Value} {d : (Ty.st rs).Data}, flatL rs = true → resV H rs v d → resV H' rs v d
  | [t], v, d, hf, h => by
    simp only [flatL] at hf
    split at hf
    · rename_i ht; exact ⟨h.1, h.2.1, flat_rd t _ _ ht h.2.2⟩
    · cases hf
  | [], v, d, hf, h => h
  | t :: u :: ts, v, d, hf, h => by
    obtain ⟨vs, e, h⟩ := h
    exact ⟨vs, e, flat_rvs (t :: u :: ts) _ d hf h⟩

theorem call_leaves (hS : Sat P B ρ σ.obj w) (fz : List Nat) {rs : List Ty} {r : (Ty.st rs).Data} {vc : List Prop} {k : FuncId} {args : Array Value}
    (h : ∀ ρ', Sat P B ρ' (σ.frz fz).obj w → ρ.le ρ' [] → Calls P k args w (Post ρ'.H w rs r)) :
    Calls P k args w (fun e w' => ∃ v, e = .returned v ∧ Leaves P B ρ σ ⟨vc, [], resSV rs r, fzOf rs fz, [], []⟩ v w') := by
  unfold fzOf
  obtain ⟨ρ1, hS1, hle1, _, _⟩ := freeze_sat fz hS
  refine (h ρ1 hS1 hle1).mono fun e w' he => ?_
  obtain ⟨v, H', rfl, hE, hr⟩ := he
  split
  · rename_i hfl
    refine ⟨v, rfl, ρ, ?_, Env.le.refl _ _, resSV_den rfl (flat_resV hfl hr), trivial⟩
    exact sat_below hS hE.below hE.drawn
  obtain ⟨hS2, hle2⟩ := sat_call hS1 (fun o b Cp hb => (blk_lt (σ := σ.frz fz) hS1 hb).1) hE
  refine ⟨v, rfl, _, ?_, hle1.trans hle2, resSV_den rfl hr, trivial⟩
  show Sat P B _ (σ.frz fz).obj w'
  exact hS2

theorem does_call {dst : Nat} {c : Call} {f : Operand} (hC : C.ok P) (hop : o.op = .call c) (hc : c.callee = .value f) (h : callSV C σ dst (opnd σ f) (c.args.toList.map (opnd σ)) = some out) (hS : Sat P B ρ σ.obj w)
    (hev : ∀ x, SV.den P ρ (opnd σ x) (ev x)) (hvc : AllP out.vc) (hd : σ.obj dst = none) (hn : NoRef σ.obj dst) : OpDoes P o ev w (Leaves P B ρ σ out) := by
  have hargs := denL_map (P := P) (ρ := ρ) (σ := σ) hev c.args.toList
  have hfv := hev f
  have hrun : ∀ (k : Nat) (caps : Array Value), ev f = .func (.func k) #[] caps → enters P k → (execOp ev o).run P w = .ok (.enter k (c.args.map ev ++ caps)) w := by
    intro k caps e hen
    simp only [execOp, hop, Sem.run_bind, resolve, hc, Deferred.ofValue, e, Sem.run_pure, Result.andThen_ok, invoke]
    rw [← hen (c.args.map ev ++ caps) w]
    simp
  unfold callSV at h
  split at h
  · rename_i k caps hf
    rw [hf] at hfv
    simp only [SV.den] at hfv
    obtain ⟨vs, ef, hcaps⟩ := hfv
    have hall := denL_append _ _ _ _ hargs hcaps
    split at h
    · rename_i s hs
      split at h
      · rename_i d fz hz
        split at h
        · rename_i hown
          simp at h; subst h
          have hfn := hC.fs k s hs hown
          unfold OpDoes
          rw [hrun k vs ef hfn.enters]
          simp only
          refine call_leaves hS fz fun ρ' hS' hle => ?_
          have hall' : SV.denL P ρ' (c.args.toList.map (opnd σ) ++ caps) (c.args.toList.map ev ++ vs.toList) := SV.denL_mono hle _ _ (fun o ho => by simp at ho) hall
          have := hfn.calls ρ'.H w _ d hS'.good (zipArgs_sound hC hS' (fz_frz σ fz) hz (fun o ho => ho) hall') hvc
          rwa [show (c.args.toList.map ev ++ vs.toList).toArray = c.args.map ev ++ vs from by apply Array.toList_inj.1; simp] at this
        · cases h
      · cases h
    · rename_i hs
      obtain ⟨hen, hcall⟩ := hC.eff k dst σ _ out h
      unfold OpDoes
      rw [hrun k vs ef hen]
      simp only
      have := hcall B ρ w _ hS hall hvc hd hn
      rwa [show (c.args.toList.map ev ++ vs.toList).toArray = c.args.map ev ++ vs from by apply Array.toList_inj.1; simp] at this
  · rename_i ps rs pre F hf
    rw [hf] at hfv
    simp only [SV.den] at hfv
    split at h
    · rename_i d fz hz
      simp at h; subst h
      obtain ⟨k, caps, ef, hen, hk⟩ := hfv
      unfold OpDoes
      rw [hrun k caps ef hen]
      simp only
      refine call_leaves hS fz fun ρ' hS' hle => ?_
      have hall' : SV.denL P ρ' (c.args.toList.map (opnd σ)) (c.args.toList.map ev) := SV.denL_mono hle _ _ (fun o ho => by simp at ho) hargs
      have := hk ρ'.H w _ d hle.H hS'.good (zipTy_sound hS' (fz_frz σ fz) hz (fun o ho => ho) hall') hvc
      rwa [show (c.args.toList.map ev).toArray ++ caps = c.args.map ev ++ caps from by apply Array.toList_inj.1; simp] at this
    · cases h
  · rename_i ob T st ps rs pre K hf
    rw [hf] at hfv
    simp only [SV.den] at hfv
    split at h
    · rename_i d fz T' sc hz hx
      split at h
      · rename_i s hT hm hst hs
        simp at h; subst h
        have := Nat.eq_of_beq_eq_true hT; subst this
        obtain ⟨ρ1, hS1, hle1, hblk1, _⟩ := freeze_sat fz hS
        have hx1 : (σ.frz fz).obj ob = some (.box T false [sc]) := by rw [obj_frz, if_neg (memb_false hm)]; exact hx
        obtain ⟨p, hp, b, Cp, vs, rfl, hw, hdl, h1, hHb⟩ := hS1.obs ob _ hx1
        have hHb : ρ1.H b = none := hHb
        simp only [SV.denL] at hdl
        obtain ⟨u, r, evs, hdu, rfl⟩ := hdl
        have evs : vs = #[u] := Array.toList_inj.1 (by simpa using evs)
        subst evs
        obtain ⟨b2, C2, e2, u2, hF, hv2⟩ := hfv _ (by rw [← hblk1]; exact hp)
        simp at e2; obtain ⟨rfl, rfl⟩ := e2
        obtain ⟨k, caps, ef, hen, hk⟩ := hF
        have ef : ev f = .func (.func k) #[] caps := hv2.trans ef
        unfold OpDoes
        rw [hrun k caps ef hen]
        simp only
        have hall' : SV.denL P ρ1 (c.args.toList.map (opnd σ)) (c.args.toList.map ev) := SV.denL_mono hle1 _ _ (fun o ho => by simp at ho) hargs
        have hsu := toDat_sound hS1 (fz_frz σ fz) hs (fun o ho => by simp at ho) hdu
        have hc2 := hk ρ1.H w _ d s u hle1.H hS1.good hHb hw hsu (zipTy_sound hS1 (fz_frz σ fz) hz (fun o ho => ho) hall') hvc
        rw [show (c.args.toList.map ev).toArray ++ caps = c.args.map ev ++ caps from by apply Array.toList_inj.1; simp] at hc2
        refine hc2.mono fun e w' he => ?_
        obtain ⟨v, H', u', rfl, hE, hH', hw', hu', hr⟩ := he
        obtain ⟨hS2, hle2⟩ := sat_callE hS1 (fun o b Cp hb => (blk_lt (σ := σ.frz fz) hS1 hb).1) hx1 hp hE hH' hw' (sv := .dat st (K d s).2) (by simp only [SV.den]; exact hu') (one_of_rv hst hu')
        refine ⟨v, rfl, { ρ1 with H := H' }, ?_, hle1.trans hle2, resSV_den rfl hr, trivial⟩
        show Sat P B _ ({ (σ.frz fz) with ob := (ob, some (.box T false [.dat st (K d s).2])) :: (σ.frz fz).ob } : St).obj w'
        rw [obj_wr1]
        exact hS2
      · cases h
    · cases h
  · cases h

/-! ### min and max -/

theorem min_if (a b : Int) : (if b < a then b else a) = min a b := by rw [Int.min_def]; split <;> split <;> omega
theorem max_if (a b : Int) : (if b > a then b else a) = max a b := by rw [Int.max_def]; split <;> split <;> omega

theorem foldMin_sound : ∀ (l : List SV) (vs : List Value) (a m : Int), foldMin l a = some m → SV.denL P ρ l vs → (vs.foldlM Builtin.min2 (.int .i64 a)).run P w = .ok (.int .i64 m) w
  | [], vs, a, m, h, hd => by
    simp [foldMin] at h; simp [SV.denL] at hd; subst h hd; simp
  | x :: l, vs, a, m, h, hd => by
    unfold foldMin at h
    split at h
    · rename_i e; cases e
    · rename_i a _ _ b r e1
      cases e1
      simp only [SV.denL] at hd
      obtain ⟨v, r', rfl, h1, h2⟩ := hd
      have hv := int_of_rv (by simpa [SV.den] using h1)
      subst hv
      have := foldMin_sound l r' (min a b) m h h2
      rw [List.foldlM_cons]
      simp only [Builtin.min2, Sem.run_bind, Sem.run_pure, Result.andThen_ok]
      have e := min_if a b
      exact Eq.trans (by rw [← e]) this
    · cases h

theorem foldMax_sound : ∀ (l : List SV) (vs : List Value) (a m : Int), foldMax l a = some m → SV.denL P ρ l vs → (vs.foldlM Builtin.max2 (.int .i64 a)).run P w = .ok (.int .i64 m) w
  | [], vs, a, m, h, hd => by
    simp [foldMax] at h; simp [SV.denL] at hd; subst h hd; simp
  | x :: l, vs, a, m, h, hd => by
    unfold foldMax at h
    split at h
    · rename_i e; cases e
    · rename_i a _ _ b r e1
      cases e1
      simp only [SV.denL] at hd
      obtain ⟨v, r', rfl, h1, h2⟩ := hd
      have hv := int_of_rv (by simpa [SV.den] using h1)
      subst hv
      have := foldMax_sound l r' (max a b) m h h2
      rw [List.foldlM_cons]
      simp only [Builtin.max2, Sem.run_bind, Sem.run_pure, Result.andThen_ok]
      have e := max_if a b
      exact Eq.trans (by rw [← e]) this
    · cases h

theorem does_makeInterface {T : Nat} {x : Operand} {ti : TI} (hC : C.ok P) (hop : o.op = .makeInterface T x) (hti : C.info T = some ti) (hS : Sat P B ρ σ.obj w) : OpDoes P o ev w (Leaves P B ρ σ (.pure .any)) := by
  obtain ⟨rfl, hok⟩ := hC.ti _ _ hti
  have hu : ∃ d, P.underlying ti.id = some d ∧ ∀ ms, d ≠ .interface ms := by
    cases hg : ti.agg with
    | true =>
      cases hr : ti.arr with
      | false => obtain ⟨fs, e, _⟩ := hok.str hg hr; exact ⟨_, e, by simp⟩
      | true => obtain ⟨_, n, ie, e, _⟩ := hok.arrk hr; exact ⟨_, e, by simp⟩
    | false => obtain ⟨d, e, _, _, h, _⟩ := hok.flat hg; exact ⟨_, e, h⟩
  obtain ⟨d, hd, hne⟩ := hu
  refine does_plain hS (v := .iface ti.id (ev x)) ?_ (den_any _) trivial
  simp only [execOp, hop, Instr.makeInterface, Sem.run_bind, run_underlying hd, Result.andThen_ok]
  cases d <;> simp_all

/-! ### A slice that is data from the start -/

theorem does_buildD {U n : Nat} {parts : Array (Nat × Operand)} (hC : C.ok P) (hop : o.op = .buildSlice U n parts) (h : buildD C σ U n parts.toList = some out) (hS : Sat P B ρ σ.obj w)
    (hev : ∀ x, SV.den P ρ (opnd σ x) (ev x)) : OpDoes P o ev w (Leaves P B ρ σ out) := by
  unfold buildD at h
  split at h
  case h_2 => cases h
  rename_i ti te hsl
  split at h
  case h_2 => cases h
  rename_i l fz hl
  split at h
  case h_2 => cases h
  rename_i hln hsm
  simp at h; subst h
  have hln := Nat.eq_of_beq_eq_true hln
  subst hln
  have hsm := Nat.le_of_ble_eq_true hsm
  obtain ⟨_, hte, _, hokE, hund, hka, hks, hpos⟩ := slice_info hC hsl
  obtain ⟨i, z, g0, g1, g2, g3, g4, _⟩ := hokE.info
  rw [hte] at g0
  obtain ⟨ρ1, hS1, hle1, hb1, hl1⟩ := freeze_sat fz hS
  have hev1 : ∀ x, SV.den P ρ1 (opnd σ x) (ev x) := fun x => SV.den_mono hle1 _ _ (fun o ho => by simp at ho) (hev x)
  obtain ⟨vs, e1, e2, e3, e4⟩ := elemsAll_sound hS1 (fz_frz σ fz) hev1 parts.toList 0 l fz hl (fun o ho => ho)
  have hzs : z.cells.size = te.size := by rw [← hokE.zlen, ← g4]; simp
  have hsz : 0 < te.size := hpos
  have hfill : Instr.fill (fun i => some (i * te.size, te.size)) ((Array.range (l.length * te.size)).map (z.cells[· % z.cells.size]!)) (parts.map fun (i, x) => (i, ev x)).toList =
      some (vs.flatMap fun v => v.cells.toList).toArray := by
    have := Great.fill_whole hsz vs ((Array.range (l.length * te.size)).map (z.cells[· % z.cells.size]!)) (fun v hv => by rw [e3 v hv, hks]) (by simp [e2])
    rw [← this]
    congr 1
    simpa using e1
  have hcells := flat_len vs e3
  have hrun : (execOp ev o).run P w = .ok (.value (.slice (some ⟨w.heap.size, 0, none⟩) l.length l.length)) (w.alloc (.cells (vs.flatMap fun v => v.cells.toList).toArray ti.elem)) := by
    have : (Instr.buildSlice U l.length (parts.map fun (i, x) => (i, ev x))).run P w = .ok (.slice (some ⟨w.heap.size, 0, none⟩) l.length l.length) (w.alloc (.cells (vs.flatMap fun v => v.cells.toList).toArray ti.elem)) := by
      have g1' : i.size = te.size := g1
      by_cases h0 : l.length = 0
      · have hv0 : vs = [] := List.eq_nil_of_length_eq_zero (by omega)
        have hp0 : parts = #[] := by
          subst hv0
          simp at e1
          exact e1
        subst hp0 hv0
        simp [Instr.buildSlice, run_underlying hund, sizeOf, typeInfo, g0, h0, newRow, Instr.fill, show Array.range 0 = #[] from rfl]
      · exact run_buildSlice w U ti.elem l.length _ _ i z hund g0 g3 (by rw [g1']; omega) (by rw [g1']; have := Nat.mul_pos (Nat.pos_of_ne_zero h0) hsz; omega) (by rw [g1']; exact hfill)
    simp only [execOp, hop, Sem.run_bind]
    rw [this]
    simp
  refine does_value hrun ?_
  have hsmall : l.length ≤ 16777216 := by
    have : l.length * 1 ≤ l.length * te.size := Nat.mul_le_mul_left _ hsz
    omega
  have hnew := heap_alloc_new w (.cells (vs.flatMap fun v => v.cells.toList).toArray ti.elem)
  have hg := w.grownBy_alloc (.cells (vs.flatMap fun v => v.cells.toList).toArray ti.elem) none
  have hHn : ρ1.H w.heap.size = none := by
    cases hc : ρ1.H w.heap.size with
    | none => rfl
    | some c => have := hS1.good.lt hc; omega
  have hE : HExt ρ1.H w (fun b => if b = w.heap.size then some (.cells (vs.flatMap fun v => v.cells.toList).toArray) else ρ1.H b) (w.alloc (.cells (vs.flatMap fun v => v.cells.toList).toArray ti.elem)) := by
    refine ⟨⟨hg.os, hg.tape, hg.output, hg.size, fun k hk => hg.block k (by omega) (by simp)⟩, fun b c hb => ?_, fun b hb => if_neg (by omega), Nat.le_refl _⟩
    by_cases he : b = w.heap.size
    · subst he
      rw [if_pos rfl] at hb
      simp at hb; subst hb
      exact ⟨_, _, hnew⟩
    · rw [if_neg he] at hb
      have hlt := hS1.good.lt hb
      have := hS1.good b c hb
      rw [hg.block b hlt (by simp)]
      exact this
  obtain ⟨hS2, hle2⟩ := sat_call hS1 (fun o b Cp hb => (blk_lt (σ := σ.frz fz) hS1 hb).1) hE
  refine ⟨_, ?_, hle1.trans hle2, ?_, trivial⟩
  · show Sat P B _ (σ.frz fz).obj _
    exact hS2
  · simp only [SV.den]
    refine ⟨rfl, rfl, _, _, _, rfl, rfl, Nat.le_refl _, by omega, by simp, fun _ => ⟨_, 0, _, rfl, if_pos rfl, fun k x hx => ?_⟩⟩
    have hi : k < vs.length := by have := (List.getElem?_eq_some_iff.1 hx).1; omega
    have hv := e4 k _ x (List.getElem?_eq_getElem hi) hx
    refine te.ty.rd_mono (hE.mono hS1.good) _ _ (te.ty.rd_congr _ _ _ (fun j hj => ?_) hv.2.2)
    have := flat_cell vs e3 k j _ (List.getElem?_eq_getElem hi) hj
    simpa using this.symm

/-! ### clear -/

theorem does_clear {c : Call} (hC : C.ok P) (hop : o.op = .call c) (hc : c.callee = .builtin .clear) (h : clrSV C σ c.args.toList c.argTypes.toList = some out) (hS : Sat P B ρ σ.obj w)
    (hev : ∀ x, SV.den P ρ (opnd σ x) (ev x)) (hvc : AllP out.vc) : OpDoes P o ev w (Leaves P B ρ σ out) := by
  unfold clrSV at h
  split at h
  case h_2 => cases h
  rename_i x U hargs htys
  have hargs : c.args = #[x] := by rw [← Array.toList_inj]; exact hargs
  have htys : c.argTypes = #[U] := by rw [← Array.toList_inj]; exact htys
  split at h
  case h_2 => cases h
  rename_i ti te ob u lo n hsl hx
  split at h
  case h_2 => cases h
  rename_i E t nl l hob
  split at h
  case h_2 => cases h
  rename_i l' hl' hu
  simp at h; subst h
  obtain ⟨e, rfl⟩ := cast?_some hl'
  have e' : t = te.ty := by injection e
  subst e'
  have hu : u = te.ty := by
    unfold decEqTy at hu
    split at hu
    · assumption
    · cases hu
  subst hu
  obtain ⟨p, hp, k1, k0, k2⟩ := hS.obs ob _ hob
  have hden := hev x
  rw [hx] at hden
  simp only [SV.den] at hden
  have hden := hden p hp
  have hlen : lo + n = l.length := hvc.1
  obtain ⟨_, hte, _, hokE, hund, hka, hks, hpos⟩ := slice_info hC hsl
  obtain ⟨_, z, _, _, _, _, hz, hzc, _⟩ := run_info hokE
  rw [hte] at hz
  have hzs : z.cells.size = te.ty.size := by rw [hks, ← hokE.zlen, ← hzc]; simp
  have hcast : castD e l = l := rfl
  rw [hcast]
  rcases Nat.eq_zero_or_pos n with h0 | h0
  · subst h0
    have hev0 : ∃ a cap, ev x = .slice a 0 cap := by
      cases p with
      | none => obtain ⟨e, _⟩ := hden; exact ⟨_, _, e⟩
      | some q => obtain ⟨b, Cp⟩ := q; obtain ⟨a, cap, e, _⟩ := hden; exact ⟨_, _, e⟩
    obtain ⟨a, cap, hev0⟩ := hev0
    have hl : l.take lo ++ List.replicate 0 te.ty.dflt = l := by
      rw [List.replicate_zero, List.append_nil, List.take_of_length_le (by omega)]
    refine does_value (v := .tuple #[]) (w' := w) ?_ ⟨ρ, ?_, Env.le.refl _ _, den_any _, trivial⟩
    · simp only [execOp, hop, Sem.run_bind, resolve, hc, hargs, htys, Sem.run_pure, Result.andThen_ok, invoke, builtin]
      cases a <;> simp [Builtin.clear_, hev0, run_underlying hund]
    · show Sat P B ρ ({ σ with ob := (ob, _) :: (doFz σ [] ++ σ.ob) } : St).obj _
      simp only [doFz, List.nil_append]
      rw [obj_wr1, hl]
      have : putO σ.obj ob (some (.row E te.ty false nl l)) = σ.obj := funext fun k => by
        unfold putO
        split
        · rename_i hk; rw [hk]; exact hob.symm
        · rfl
      rw [this]
      exact hS
  · cases p with
    | none => obtain ⟨_, e⟩ := hden; omega
    | some q =>
      obtain ⟨b, Cp⟩ := q
      obtain ⟨a, cap, hv, v2, v3, v4, v5⟩ := hden
      have v5 := v5 (.inr (by omega))
      subst v5
      obtain ⟨k3, vs, hw, hvs, hlC, hCm, hr, hH⟩ := k2
      simp only [fzH] at hH
      have hzl : (Builtin.zeroCells z.cells n).toList.length = n * te.ty.size := by rw [Array.length_toList, zeroCells_size, hzs]
      have hmul : (lo + n) * te.ty.size ≤ Cp * te.ty.size := Nat.mul_le_mul_right _ (by omega)
      rw [Nat.add_mul] at hmul
      have hone : ∀ v ∈ (Builtin.zeroCells z.cells n).toList, v.oneCell' = true := by
        intro v hv
        obtain ⟨m, hm⟩ := List.mem_iff_getElem?.1 hv
        rw [Array.getElem?_toList, zeroCells_at] at hm
        split at hm
        · simp at hm
          have hlt : m % z.cells.size < z.cells.size := Nat.mod_lt _ (by omega)
          rw [getElem!_pos z.cells _ hlt] at hm
          refine hokE.one v ?_
          rw [← hzc, ← hm]
          simp
        · cases hm
      have hrun := run_storeCells_at P b (lo * te.ty.size) E (Builtin.zeroCells z.cells n).toList 0 vs w hw (by rw [hzl, hvs]; omega) hone
      simp only [Nat.add_zero, hzl] at hrun
      obtain ⟨f1, f2⟩ := setRow_facts w hw (vs.toList.take (lo * te.ty.size) ++ (Builtin.zeroCells z.cells n).toList ++ vs.toList.drop (lo * te.ty.size + n * te.ty.size)).toArray
      refine does_value (v := .tuple #[]) (w' := w.setRow b (vs.toList.take (lo * te.ty.size) ++ (Builtin.zeroCells z.cells n).toList ++ vs.toList.drop (lo * te.ty.size + n * te.ty.size)).toArray) ?_ ⟨ρ, ?_, Env.le.refl _ _, den_any _, trivial⟩
      · simp only [execOp, hop, Sem.run_bind, resolve, hc, hargs, htys, Sem.run_pure, Result.andThen_ok, invoke, builtin]
        obtain ⟨n', rfl⟩ : ∃ n', n = n' + 1 := ⟨n - 1, by omega⟩
        simp [Builtin.clear_, hv, run_underlying hund, hz, hrun]
      · show Sat P B ρ ({ σ with ob := (ob, _) :: (doFz σ [] ++ σ.ob) } : St).obj _
        simp only [doFz, List.nil_append]
        rw [obj_wr1]
        refine set_obj hS hp hH _ f1 ?_
        have hnl : (l.take lo ++ List.replicate n te.ty.dflt).length = l.length := by simp; omega
        have hl1 : (vs.toList.take (lo * te.ty.size)).length = lo * te.ty.size := by simp; omega
        refine ⟨by rw [hnl]; exact k1, by rw [hnl]; exact k0, fun _ hn => ?_, _, f2, ?_, by rw [hnl]; exact hlC, hCm, ?_, by simpa [fzH] using hH⟩
        · rw [hn] at hnl; simp at hnl; omega
        · simp only [List.size_toArray, List.length_append, hl1, hzl, List.length_drop, Array.length_toList]
          omega
        · intro k y hy
          by_cases hk : k < lo
          · rw [List.getElem?_append_left (by simp; omega), List.getElem?_take_of_lt hk] at hy
            refine te.ty.rd_congr _ _ _ (fun j hj => ?_) (hr k y hy)
            have : (k + 1) * te.ty.size ≤ lo * te.ty.size := Nat.mul_le_mul_right _ hk
            rw [Nat.succ_mul] at this
            simp only [List.getElem?_toArray, List.append_assoc]
            rw [List.getElem?_append_left (by omega), List.getElem?_take_of_lt (by omega)]; simp
          · have hlt : k < (l.take lo ++ List.replicate n te.ty.dflt).length := (List.getElem?_eq_some_iff.1 hy).1
            rw [hnl] at hlt
            have htl : (l.take lo).length = lo := by simp; omega
            rw [List.getElem?_append_right (by omega), htl, List.getElem?_replicate, if_pos (by omega)] at hy
            simp at hy; subst hy
            have hkn : tyKnown te.ty = true := by
              unfold Ctx.slice at hsl
              split at hsl
              · split at hsl
                · split at hsl
                  · split at hsl
                    · rename_i hk; simp at hsl; rw [← hsl.2]; exact hk
                    · cases hsl
                  · cases hsl
                · cases hsl
              · cases hsl
            refine te.ty.rd_congr _ _ _ (fun j hj => ?_) (hokE.zd hkn ρ.H)
            obtain ⟨d, rfl⟩ : ∃ d, k = lo + d := ⟨k - lo, by omega⟩
            have h1 : (d + 1) * te.ty.size ≤ n * te.ty.size := Nat.mul_le_mul_right _ (by omega)
            rw [Nat.succ_mul] at h1
            simp only [List.getElem?_toArray, List.append_assoc]
            rw [Nat.add_mul, List.getElem?_append_right (by omega), hl1, List.getElem?_append_left (by omega), Array.getElem?_toList, zeroCells_at, hzs, if_pos (by omega)]
            have hmod : (lo * te.ty.size + d * te.ty.size + j - lo * te.ty.size) % te.ty.size = j := by
              rw [show lo * te.ty.size + d * te.ty.size + j - lo * te.ty.size = j + d * te.ty.size by omega, Nat.add_mul_mod_self_right, Nat.mod_eq_of_lt hj]
            rw [hmod, getElem!_pos z.cells j (by omega), ← hzc]
            rw [Array.getElem?_toList, Array.getElem?_eq_getElem (by omega)]

/-! ### Every operation -/

theorem evalOp_sound {dst : Nat} (hC : C.ok P) (h : evalOp C σ dst o.op = some out) (hS : Sat P B ρ σ.obj w) (hev : ∀ x, SV.den P ρ (opnd σ x) (ev x)) (hvc : AllP out.vc)
    (hd : out.nw ≠ [] → σ.obj dst = none ∧ NoRef σ.obj dst ∧ ∀ x cs, cells σ (opnd σ x) = some cs → SV.refs.refsL dst cs = false) (hcall : ∀ c, o.op = .call c → c.callee ≠ .builtin .clear → σ.obj dst = none ∧ NoRef σ.obj dst) : OpDoes P o ev w (Leaves P B ρ σ out) := by
  cases hop : o.op with
  | move x => rw [hop] at h; simp [evalOp] at h; subst h; exact does_move (.inl hop) hS (hev x)
  | assign x => rw [hop] at h; simp [evalOp] at h; subst h; exact does_move (.inr hop) hS (hev x)
  | alloc E =>
    rw [hop] at h
    have hn : out.nw ≠ [] := by
      simp only [evalOp] at h
      split at h
      · simp at h; subst h; simp
      · cases h
    exact does_alloc hC hop h hS (hd hn).1 (hd hn).2.1
  | box E x =>
    rw [hop] at h
    have hn : out.nw ≠ [] := by
      simp only [evalOp] at h
      split at h
      · split at h
        · simp at h; subst h; simp
        · cases h
      · cases h
    exact does_box hC hop h hS (hev x) (hd hn).1 (hd hn).2.1 (fun cs => (hd hn).2.2 x cs)
  | build U parts => rw [hop] at h; exact does_build hC hop h hS hev
  | buildSlice U n parts =>
    rw [hop] at h
    have hn : out.nw ≠ [] := by
      simp only [evalOp] at h
      split at h
      · split at h
        · split at h
          · simp at h; subst h; simp
          · cases h
        · cases h
      · cases h
    exact does_buildSlice hC hop h hS hev (hd hn).1 (hd hn).2.1
  | load U a => rw [hop] at h; exact does_load hC hop h hS (hev a)
  | store U a x => rw [hop] at h; exact does_store hC hop h hS (hev a) (hev x)
  | nilCheck x => rw [hop] at h; exact does_nilCheck hop h hS (hev x)
  | fieldAddr U x f => rw [hop] at h; exact does_fieldAddr hC hop h hS (hev x)
  | field U x f => rw [hop] at h; exact does_field hC hop h hS (hev x)
  | indexAddr U x ix => rw [hop] at h; exact does_indexAddr hC hop h hS (hev x) (hev ix) hvc
  | binOp op U x y t => rw [hop] at h; simp only [evalOp] at h; exact does_bin hC hop h hS (hev x) (hev y) hvc
  | index U x ix => rw [hop] at h; exact does_index hC hop h hS (hev x) (hev ix) hvc
  | unOp op T x => rw [hop] at h; exact does_unOp hop h hS (hev x) hvc
  | convert V U x => rw [hop] at h; exact does_convert hC hop h hS (hev x) hvc
  | makeFunc f fs cs => rw [hop] at h; exact does_makeFunc hop h hS hev
  | slice U x lo hi mx =>
    rw [hop] at h
    cases mx with
    | none => exact does_slice hC hop h hS hev hvc
    | some m => simp [evalOp] at h
  | extract x i => rw [hop] at h; exact does_extract hop h hS (hev x)
  | panic x => rw [hop] at h; simp [evalOp] at h; subst h; exact does_panic hvc
  | makeMap U r =>
    rw [hop] at h
    cases r with
    | some r => simp [evalOp] at h
    | none =>
      have hn : out.nw ≠ [] := by
        simp only [evalOp] at h
        split at h
        · simp at h; subst h; simp
        · cases h
      exact does_makeMap hC hop h hS (hd hn).1 (hd hn).2.1
  | lookup U x ix ok => rw [hop] at h; exact does_lookup hC hop h hS (hev x) (hev ix)
  | mapUpdate U m ix x => rw [hop] at h; exact does_mapUpdate hC hop h hS (hev m) (hev ix) (hev x)
  | entryStore U m st x => rw [hop] at h; exact does_entryStore hC hop h hS (hev m) (hev st) (hev x) hvc
  | range U x =>
    rw [hop] at h
    have hn : out.nw ≠ [] := by
      simp only [evalOp] at h
      split at h
      · split at h
        · simp at h; subst h; simp
        · cases h
      · cases h
    exact does_range hC hop h hS (hd hn).1 (hd hn).2.1 (hev x)
  | entry it => rw [hop] at h; exact does_entry hop h hS (hev it)
  | makeInterface T x =>
    rw [hop] at h
    simp only [evalOp] at h
    split at h
    · rename_i ti hti
      simp at h; subst h
      exact does_makeInterface hC hop hti hS
    · cases h
  | call c =>
    rw [hop] at h
    simp only [evalOp] at h
    split at h
    · rename_i f hf
      have hcl := hcall c hop (by rw [hf]; simp)
      exact does_call hC hop hf h hS hev hvc hcl.1 hcl.2
    · rename_i hb
      exact does_len hC hop hb h hS hev
    · rename_i hb
      have hcl := hcall c hop (by rw [hb]; simp)
      exact does_append hC hop hb h hS hev hvc hcl.1 hcl.2
    · rename_i hb
      exact does_clear hC hop hb h hS hev hvc
    · rename_i hb
      exact does_cap hC hop hb h hS hev
    · rename_i hb
      split at h
      · rename_i a r hl
        split at h
        · rename_i m hm
          simp at h; subst h
          have hd := denL_map (P := P) (ρ := ρ) (σ := σ) hev c.args.toList
          rw [hl] at hd
          simp only [SV.denL] at hd
          obtain ⟨v, r', e, h1, h2⟩ := hd
          have hv := int_of_rv (by simpa [SV.den] using h1)
          subst hv
          refine does_plain hS (v := .int .i64 m) ?_ (rv_int m) trivial
          have e' : (c.args.map ev).toList = .int .i64 a :: r' := by simpa using e
          simp only [execOp, hop, Sem.run_bind, resolve, hb, Sem.run_pure, Result.andThen_ok, invoke, builtin, Builtin.min_, e', foldMin_sound r r' a m hm h2]
        · cases h
      · cases h
    · rename_i hb
      split at h
      · rename_i a r hl
        split at h
        · rename_i m hm
          simp at h; subst h
          have hd := denL_map (P := P) (ρ := ρ) (σ := σ) hev c.args.toList
          rw [hl] at hd
          simp only [SV.denL] at hd
          obtain ⟨v, r', e, h1, h2⟩ := hd
          have hv := int_of_rv (by simpa [SV.den] using h1)
          subst hv
          refine does_plain hS (v := .int .i64 m) ?_ (rv_int m) trivial
          have e' : (c.args.map ev).toList = .int .i64 a :: r' := by simpa using e
          simp only [execOp, hop, Sem.run_bind, resolve, hb, Sem.run_pure, Result.andThen_ok, invoke, builtin, Builtin.max_, e', foldMax_sound r r' a m hm h2]
        · cases h
      · cases h
    · cases h
  | _ => rw [hop] at h; simp [evalOp] at h

end
end Go.X
/-
  What an operation looks at is enough: the rest of the state is carried along.
-/
namespace Go.X
open Go.RowKit (Below)

theorem memb_iff : ∀ (l : List Nat) (k : Nat), memb l k = true ↔ k ∈ l
  | [], k => by simp [memb]
  | j :: r, k => by
    simp only [memb]
    cases h : Nat.beq j k with
    | true => have := Nat.eq_of_beq_eq_true h; subst this; simp
    | false =>
      have hne : j ≠ k := beq_of_refs h
      simp only [memb_iff r k, List.mem_cons]
      constructor
      · exact .inr
      · rintro (e | e)
        · exact absurd e.symm hne
        · exact e

theorem mem_union : ∀ (l r : List Nat) (k : Nat), k ∈ union l r ↔ k ∈ l ∨ k ∈ r
  | [], r, k => by simp [union]
  | o :: l, r, k => by
    simp only [union]
    cases h : memb r o with
    | true =>
      have := (memb_iff r o).1 h
      rw [mem_union l r k]
      constructor
      · rintro (e | e)
        · exact .inl (List.mem_cons_of_mem _ e)
        · exact .inr e
      · rintro (e | e)
        · rcases List.mem_cons.1 e with rfl | e
          · exact .inr this
          · exact .inl e
        · exact .inr e
    | false =>
      rw [mem_union l (o :: r) k]
      simp only [List.mem_cons]
      constructor
      · rintro (e | e | e)
        · exact .inl (.inr e)
        · exact .inl (.inl e)
        · exact .inr e
      · rintro ((e | e) | e)
        · exact .inr (.inl e)
        · exact .inl e
        · exact .inr (.inr e)

theorem subsetN_iff : ∀ (l r : List Nat), subsetN l r = true → ∀ k, k ∈ l → k ∈ r
  | [], r, _, k, hk => by simp at hk
  | o :: l, r, h, k, hk => by
    simp only [subsetN] at h
    cases hm : memb r o with
    | false => rw [hm] at h; cases h
    | true =>
      rw [hm] at h
      rcases List.mem_cons.1 hk with rfl | hk
      · exact (memb_iff r k).1 hm
      · exact subsetN_iff l r h k hk

mutual
theorem refs_rl : ∀ (sv : SV) (o : Nat), sv.refs o = true → o ∈ sv.rl
  | .any, o, h => by simp [SV.refs] at h
  | .dat _ _, o, h => by simp [SV.refs] at h
  | .ep _ _, o, h => by simp [SV.refs] at h
  | .bp o' _, o, h => by simp only [SV.refs] at h; simp [SV.rl, Nat.eq_of_beq_eq_true h]
  | .own o' _, o, h => by simp only [SV.refs] at h; simp [SV.rl, Nat.eq_of_beq_eq_true h]
  | .osl o' _ _ _, o, h => by simp only [SV.refs] at h; simp [SV.rl, Nat.eq_of_beq_eq_true h]
  | .rp o' _ _ _, o, h => by simp only [SV.refs] at h; simp [SV.rl, Nat.eq_of_beq_eq_true h]
  | .mp o', o, h => by simp only [SV.refs] at h; simp [SV.rl, Nat.eq_of_beq_eq_true h]
  | .ip o', o, h => by simp only [SV.refs] at h; simp [SV.rl, Nat.eq_of_beq_eq_true h]
  | .fe _ o' _ _ _ _ _ _, o, h => by simp only [SV.refs] at h; simp [SV.rl, Nat.eq_of_beq_eq_true h]
  | .fn _ _ _ _, o, h => by simp [SV.refs] at h
  | .fnp _ _ _ _, o, h => by simp [SV.refs] at h
  | .clo _ caps, o, h => by simp only [SV.refs] at h; simp only [SV.rl]; exact refsL_rlL caps o h
  | .agg cs, o, h => by simp only [SV.refs] at h; simp only [SV.rl]; exact refsL_rlL cs o h
  | .tup cs, o, h => by simp only [SV.refs] at h; simp only [SV.rl]; exact refsL_rlL cs o h
  | .lit _, o, h => by simp [SV.refs] at h
theorem refsL_rlL : ∀ (cs : List SV) (o : Nat), SV.refs.refsL o cs = true → o ∈ SV.rl.rlL cs
  | [], o, h => by simp [SV.refs.refsL] at h
  | c :: cs, o, h => by
    simp only [SV.refs.refsL] at h
    simp only [SV.rl.rlL, List.mem_append]
    cases hc : c.refs o with
    | true => exact .inl (refs_rl c o hc)
    | false => rw [hc] at h; exact .inr (refsL_rlL cs o h)
end

section
variable {P : Program} {B : Base} {σ : St} {ρ : Env} {w : World}

def onlyO (os : List Nat) (obj : Nat → Option Ob) : Nat → Option Ob := fun o => if o ∈ os then obj o else none
def onlyE (os : List Nat) (ρ : Env) : Env := { ρ with blk := fun o => if o ∈ os then ρ.blk o else none }
def borOf (ρ : Env) : List Nat → List Nat
  | [] => []
  | o :: r => match ρ.blk o with | some (some (b, _)) => b :: borOf ρ r | _ => borOf ρ r

theorem mem_borOf {b : Nat} : ∀ (os : List Nat), b ∈ borOf ρ os ↔ ∃ o Cp, o ∈ os ∧ ρ.blk o = some (some (b, Cp))
  | [] => by simp [borOf]
  | o :: r => by
    simp only [borOf]
    constructor
    · intro h
      split at h
      · rename_i b' C' hb
        rcases List.mem_cons.1 h with rfl | h
        · exact ⟨o, C', List.mem_cons_self, hb⟩
        · obtain ⟨o', Cp, h1, h2⟩ := (mem_borOf r).1 h; exact ⟨o', Cp, List.mem_cons_of_mem _ h1, h2⟩
      · obtain ⟨o', Cp, h1, h2⟩ := (mem_borOf r).1 h; exact ⟨o', Cp, List.mem_cons_of_mem _ h1, h2⟩
    · rintro ⟨o', Cp, h1, h2⟩
      rcases List.mem_cons.1 h1 with rfl | h1
      · rw [h2]; exact List.mem_cons_self
      · have := (mem_borOf r).2 ⟨o', Cp, h1, h2⟩
        split
        · exact List.mem_cons_of_mem _ this
        · exact this

theorem onlyE_le (os : List Nat) (ρ : Env) : ρ.le (onlyE os ρ) [] := by
  refine ⟨fun _ _ h => h, fun o p _ hp => ?_, fun _ _ => rfl⟩
  simp only [onlyE] at hp
  split at hp
  · exact hp
  · cases hp

theorem frame_in (hS : Sat P B ρ σ.obj w) (os : List Nat) : Sat P ⟨w, ρ.H, borOf ρ os, fun _ => none, fun _ => 0⟩ (onlyE os ρ) (onlyO os σ.obj) w := by
  refine ⟨rfl, rfl, rfl, Nat.le_refl _, Nat.le_refl _, hS.good, fun _ _ _ => rfl, fun _ _ _ => rfl, ?_, ?_, ?_, ?_⟩
  · intro o x hx
    unfold onlyO at hx
    split at hx
    · rename_i ho
      obtain ⟨p, hp, hs⟩ := hS.obs o x hx
      exact ⟨p, by simp [onlyE, ho, hp], obSat_mono (onlyE_le os ρ) (by simp) (fun _ _ _ _ o' ho' => by simp at ho') (fun _ _ _ => ⟨rfl, rfl⟩) hs⟩
    · cases hx
  · intro o ho
    unfold onlyO at ho
    by_cases hm : o ∈ os
    · rw [if_pos hm] at ho; simp [onlyE, hm, hS.dead o ho]
    · simp [onlyE, hm]
  · intro o o' b C C' h h'
    simp only [onlyE] at h h'
    split at h
    · split at h'
      · exact hS.inj o o' b C C' h h'
      · cases h'
    · cases h
  · intro o b C h
    simp only [onlyE] at h
    split at h
    · rename_i hm; exact .inr ((mem_borOf os).2 ⟨o, C, hm, h⟩)
    · cases h

/-- the whole state behind a step that looked at a part of it -/
theorem frame_out (hS : Sat P B ρ σ.obj w) (os nw : List Nat) (hnw : ∀ d, d ∈ nw → NoRef σ.obj d) {ρ' : Env} {obj' : Nat → Option Ob} {w' : World}
    (hS' : Sat P ⟨w, ρ.H, borOf ρ os, fun _ => none, fun _ => 0⟩ ρ' obj' w') (hle : (onlyE os ρ).le ρ' nw) (hrefs : ∀ o T fz cs, obj' o = some (.box T fz cs) → ∀ r, SV.refs.refsL r cs = true → r ∈ nw ∨ r ∈ os) :
    ∃ ρ'', Sat P B ρ'' (fun o => if o ∈ nw ∨ o ∈ os then obj' o else σ.obj o) w' ∧ ρ.le ρ'' nw ∧
      ∀ sv v, (∀ r, sv.refs r = true → r ∈ nw ∨ r ∈ os) → SV.den P ρ' sv v → SV.den P ρ'' sv v := by
  let ρ'' : Env := { ρ' with blk := fun o => if o ∈ nw ∨ o ∈ os then ρ'.blk o else ρ.blk o }
  have hle2 : ρ.le ρ'' nw := by
    refine ⟨fun b c h => hle.H b c h, fun o p ho hp => ?_, fun o ho => hle.len o ho⟩
    simp only [ρ''] at hp
    by_cases hm : o ∈ os
    · rw [if_pos (.inr hm)] at hp
      have := hle.blk o p ho hp
      simpa [onlyE, hm] using this
    · rw [if_neg (by rintro (h | h); exact ho h; exact hm h)] at hp
      exact hp
  let bad : List Nat := ((σ.ob.map Prod.fst).filter fun o => decide ¬ (o ∈ nw ∨ o ∈ os))
  have hbad : ∀ o, ρ.blk o ≠ none → ¬ (o ∈ nw ∨ o ∈ os) → o ∈ bad := by
    intro o hb hn
    simp only [bad, List.mem_filter]
    refine ⟨?_, by simpa using hn⟩
    cases hobj : σ.obj o with
    | none => exact absurd (hS.dead o hobj) hb
    | some x =>
      simp only [St.obj] at hobj
      split at hobj
      · rename_i y hy
        exact List.mem_map.2 ⟨(o, y), look_mem _ _ _ hy, rfl⟩
      · cases hobj
  have hle3 : ρ'.le ρ'' bad := by
    refine ⟨fun _ _ h => h, fun o p ho hp => ?_, fun _ _ => rfl⟩
    simp only [ρ''] at hp
    by_cases hm : o ∈ nw ∨ o ∈ os
    · rw [if_pos hm] at hp; exact hp
    · rw [if_neg hm] at hp
      exact absurd (hbad o (by rw [hp]; simp) hm) ho
  have hbadn : ∀ r, r ∈ bad → ¬ (r ∈ nw ∨ r ∈ os) := fun r hr => by
    simp only [bad, List.mem_filter] at hr
    simpa using hr.2
  have hsame : ∀ b, b < w.heap.size → b ∉ borOf ρ os → ρ'.H b = ρ.H b ∧ w'.heap[b]? = w.heap[b]? := fun b hb hn => ⟨hS'.oldH b hb hn, hS'.old b hb hn⟩
  have hout : ∀ b, b < B.w.heap.size → b ∉ B.bor → b ∉ borOf ρ os := by
    intro b hb hn hm
    obtain ⟨o, Cp, _, h2⟩ := (mem_borOf os).1 hm
    rcases hS.own o b Cp h2 with h | h
    · omega
    · exact hn h
  have hsz := hS.size
  have hmem : ∀ o b Cp, o ∈ nw ∨ o ∈ os → ρ'.blk o = some (some (b, Cp)) → ∀ o2 C2, ¬ (o2 ∈ nw ∨ o2 ∈ os) → ρ.blk o2 = some (some (b, C2)) → False := by
    intro o b Cp _ h2 o2 C2 h3 h4
    rcases hS'.own o b Cp h2 with h | h
    · have := (blk_lt hS h4).1
      simp only at h
      omega
    · obtain ⟨o3, C3, h5, h6⟩ := (mem_borOf os).1 h
      exact h3 (.inr (by rw [hS.inj o2 o3 b C2 C3 h4 h6]; exact h5))
  refine ⟨ρ'', ⟨hS'.os.trans hS.os, hS'.tape.trans hS.tape, hS'.output.trans hS.output, Nat.le_trans hS.drawn hS'.drawn, Nat.le_trans hsz hS'.size, hS'.good, ?_, ?_, ?_, ?_, ?_, ?_⟩, hle2, ?_⟩
  · intro b hb hn
    show ρ'.H b = _
    rw [(hsame b (by omega) (hout b hb hn)).1]; exact hS.oldH b hb hn
  · intro b hb hn
    rw [(hsame b (by omega) (hout b hb hn)).2]; exact hS.old b hb hn
  · intro o x hx
    by_cases hm : o ∈ nw ∨ o ∈ os
    · simp only [hm, if_true] at hx
      obtain ⟨p, hp, hs⟩ := hS'.obs o x hx
      refine ⟨p, by simp [ρ'', hm, hp], obSat_mono hle3 (fun h => hbadn o h hm) (fun T fz cs hcs r hr => ?_) (fun _ _ _ => ⟨rfl, rfl⟩) hs⟩
      cases hc : SV.refs.refsL r cs with
      | false => rfl
      | true => exact absurd (hrefs o T fz cs (by rw [hx, hcs]) r hc) (hbadn r hr)
    · simp only [hm, if_false] at hx
      obtain ⟨p, hp, hs⟩ := hS.obs o x hx
      refine ⟨p, by simp [ρ'', hm, hp], obSat_mono hle2 (fun h => hm (.inl h)) (fun T fz cs hcs r hr => hnw r hr o T fz cs (by rw [hx, hcs])) (fun b C hpb => ?_) hs⟩
      subst hpb
      refine hsame b (blk_lt hS hp).1 fun hb => ?_
      obtain ⟨o3, C3, h5, h6⟩ := (mem_borOf os).1 hb
      exact hm (.inr (by rw [hS.inj o o3 b C C3 hp h6]; exact h5))
  · intro o ho
    by_cases hm : o ∈ nw ∨ o ∈ os
    · simp only [hm, if_true] at ho
      simp [ρ'', hm, hS'.dead o ho]
    · simp only [hm, if_false] at ho
      simp [ρ'', hm, hS.dead o ho]
  · intro o o' b C C' h h'
    simp only [ρ''] at h h'
    by_cases hm : o ∈ nw ∨ o ∈ os <;> by_cases hm' : o' ∈ nw ∨ o' ∈ os
    · rw [if_pos hm] at h; rw [if_pos hm'] at h'; exact hS'.inj o o' b C C' h h'
    · rw [if_pos hm] at h; rw [if_neg hm'] at h'; exact (hmem o b C hm h o' C' hm' h').elim
    · rw [if_neg hm] at h; rw [if_pos hm'] at h'; exact (hmem o' b C' hm' h' o C hm h).elim
    · rw [if_neg hm] at h; rw [if_neg hm'] at h'; exact hS.inj o o' b C C' h h'
  · intro o b C h
    simp only [ρ''] at h
    by_cases hm : o ∈ nw ∨ o ∈ os
    · rw [if_pos hm] at h
      rcases hS'.own o b C h with h1 | h1
      · simp only at h1; exact .inl (by omega)
      · obtain ⟨o3, C3, _, h6⟩ := (mem_borOf os).1 h1
        exact hS.own o3 b C3 h6
    · rw [if_neg hm] at h; exact hS.own o b C h
  · intro sv v hr hd
    refine SV.den_mono hle3 sv v (fun r hrb => ?_) hd
    cases hc : sv.refs r with
    | false => rfl
    | true => exact absurd (hr r hc) (hbadn r hrb)

end
end Go.X
/-
  One operation of a region: sound.
-/
namespace Go.X
open Go.RowKit (Below)

section
variable {P : Program} {B : Base} {C : Ctx} {ρ : Env} {w : World} {ops : Array Oper} {a : Act}

def Hold (ops : Array Oper) (a : Act) (g : Nat × Bool) : Prop := yielded ops a.tmps g.1 = some g.2

def GL (P : Program) (ops : Array Oper) (ρ : Env) (gl : List (Nat × (Nat × Bool) × SV)) (a : Act) : Prop :=
  ∀ s g v, (s, g, v) ∈ gl → (Hold ops a g → SV.den P ρ v (a.tmps.getD s undef)) ∧ (¬ Hold ops a g → a.tmps.getD s undef = undef)

theorem lookG_mem : ∀ (gl : List (Nat × (Nat × Bool) × SV)) (k : Nat) g v, lookG gl k = some (g, v) → (k, g, v) ∈ gl
  | [], _, _, _, h => by simp [lookG] at h
  | (j, g', x) :: r, k, g, v, h => by
    simp only [lookG] at h
    cases hb : Nat.beq j k
    · rw [hb] at h; exact List.mem_cons_of_mem _ (lookG_mem r k g v h)
    · rw [hb] at h; simp at h; obtain ⟨rfl, rfl⟩ := h; have := Nat.eq_of_beq_eq_true hb; subst this; exact List.mem_cons_self

theorem yielded_eq (j : Nat) : yielded ops a.tmps j = (match dstAt ops.toList j with | some d => (match a.tmps[d]? with | some (.bool b) => some b | _ => none) | none => none) := by
  unfold yielded dstAt
  rw [Array.getElem?_toList]
  cases h : ops[j]? with
  | none => simp
  | some o =>
    simp only [Option.bind_some]
    cases o.dst with
    | none => rfl
    | some d => rfl

theorem hold_iff {j : Nat} {want : Bool} {d : Nat} (h : dstAt ops.toList j = some d) : Hold ops a (j, want) ↔ a.tmps[d]? = some (.bool want) := by
  unfold Hold
  rw [yielded_eq, h]
  simp only
  constructor
  · intro h
    split at h
    · rename_i b hb; simp at h; subst h; exact hb
    · cases h
  · intro h; rw [h]

theorem tmp_bool {d : Nat} {b : Bool} (h : a.tmps.getD d undef = .bool b) : a.tmps[d]? = some (.bool b) := by
  rw [Array.getD_eq_getD_getElem?] at h
  cases hd : a.tmps[d]? with
  | none => rw [hd] at h; simp [undef] at h
  | some v => rw [hd] at h; simp at h; rw [h]

theorem tmp_undef {d : Nat} (h : a.tmps.getD d undef = undef) (b : Bool) : a.tmps[d]? ≠ some (.bool b) := by
  intro hd
  rw [Array.getD_eq_getD_getElem?, hd] at h
  simp [undef] at h

theorem guardB_sound {R : RS} (hSl : Slots P ρ R.st.sl a) (hG : GL P ops ρ R.gl a) : ∀ (fuel : Nat) (g : Nat × Bool) (γ : Bool), guardB ops.toList R fuel g = some γ → (Hold ops a g ↔ γ = true)
  | 0, g, γ, h => by simp [guardB] at h
  | fuel + 1, (j, want), γ, h => by
    simp only [guardB] at h
    split at h
    case h_2 => cases h
    rename_i d hd
    rw [hold_iff hd]
    split at h
    · rename_i g' β hl
      split at h
      case h_2 => cases h
      rename_i γ' hg
      simp at h; subst h
      have ih := guardB_sound hSl hG fuel g' γ' hg
      obtain ⟨h1, h2⟩ := hG d g' _ (lookG_mem _ _ _ _ hl)
      cases γ' with
      | true =>
        have := tmp_bool (bool_of_rv (by simpa [SV.den] using h1 (ih.2 rfl)))
        rw [this]
        cases want <;> cases β <;> simp [sgn]
      | false =>
        have hn : ¬ Hold ops a g' := fun h => by have := ih.1 h; cases this
        constructor
        · intro h; exact absurd h (tmp_undef (h2 hn) want)
        · intro h; simp at h
    · cases h
    · split at h
      · rename_i β hv
        simp at h; subst h
        have hden : SV.den P ρ (R.st.get d) (a.tmps.getD d undef) := den_opnd (a := a) hSl (.tmp d)
        rw [hv] at hden
        have := tmp_bool (bool_of_rv (by simpa [SV.den] using hden))
        rw [this]
        cases want <;> cases β <;> simp [sgn]
      · cases h

theorem chain_sound {R : RS} (hG : GL P ops ρ R.gl a) : ∀ (fuel : Nat) (g : Nat × Bool), Hold ops a g → ∀ h, h ∈ chain ops.toList R fuel g → Hold ops a h
  | 0, g, _, h, hm => by simp [chain] at hm
  | fuel + 1, (j, want), hg, h, hm => by
    simp only [chain] at hm
    rcases List.mem_cons.1 hm with rfl | hm
    · exact hg
    · split at hm
      · rename_i d hd
        split at hm
        · rename_i g' v hl
          refine chain_sound hG fuel g' ?_ h hm
          obtain ⟨_, h2⟩ := hG d g' _ (lookG_mem _ _ _ _ hl)
          rw [hold_iff hd] at hg
          by_cases hh : Hold ops a g'
          · exact hh
          · exact absurd hg (tmp_undef (h2 hh) want)
        · simp at hm
      · simp at hm

theorem sameG_eq {g h : Nat × Bool} (e : sameG g h = true) : g = h := by
  obtain ⟨a, x⟩ := g
  obtain ⟨b, y⟩ := h
  unfold sameG at e
  simp only at e
  split at e
  · rename_i hb
    have := Nat.eq_of_beq_eq_true hb
    subst this
    cases x <;> cases y <;> simp_all
  · cases e

theorem inChain_mem : ∀ (ch : List (Nat × Bool)) (g : Nat × Bool), inChain ch g = true → g ∈ ch
  | [], _, h => by simp [inChain] at h
  | x :: r, g, h => by
    simp only [inChain] at h
    split at h
    · rename_i e; rw [sameG_eq e]; exact List.mem_cons_self
    · exact List.mem_cons_of_mem _ (inChain_mem r g h)

theorem visible_mem : ∀ (gl : List (Nat × (Nat × Bool) × SV)) (ch : List (Nat × Bool)) (s : Nat) (v : SV), (s, v) ∈ visible gl ch → ∃ g, (s, g, v) ∈ gl ∧ g ∈ ch
  | [], _, _, _, h => by simp [visible] at h
  | (s', g, x) :: r, ch, s, v, h => by
    simp only [visible] at h
    split at h
    · rename_i hc
      rcases List.mem_cons.1 h with e | h
      · simp at e; obtain ⟨rfl, rfl⟩ := e; exact ⟨g, List.mem_cons_self, inChain_mem _ _ hc⟩
      · obtain ⟨g', h1, h2⟩ := visible_mem r ch s v h; exact ⟨g', List.mem_cons_of_mem _ h1, h2⟩
    · obtain ⟨g', h1, h2⟩ := visible_mem r ch s v h; exact ⟨g', List.mem_cons_of_mem _ h1, h2⟩

theorem seen_slots {R : RS} (hSl : Slots P ρ R.st.sl a) (hG : GL P ops ρ R.gl a) {ch : List (Nat × Bool)} (hch : ∀ g, g ∈ ch → Hold ops a g) : Slots P ρ (seenBy R ch).sl a := by
  intro s sv h
  simp only [seenBy] at h
  rw [look_append] at h
  split at h
  · rename_i v hv
    simp at h; subst h
    obtain ⟨g, h1, h2⟩ := visible_mem _ _ _ _ (look_mem _ _ _ hv)
    exact (hG s g _ h1).1 (hch g h2)
  · exact hSl s sv h

theorem writers_mem (t : Nat) : ∀ (l : List Oper) (j k : Nat), k ∈ writers t l j → ∃ o, l[k - j]? = some o ∧ o.dst = some t ∧ j ≤ k
  | [], _, _, h => by simp [writers] at h
  | o :: r, j, k, h => by
    have more : k ∈ writers t r (j + 1) → ∃ o', (o :: r)[k - j]? = some o' ∧ o'.dst = some t ∧ j ≤ k := by
      intro h
      obtain ⟨o', h1, h2, h3⟩ := writers_mem t r (j + 1) k h
      refine ⟨o', ?_, h2, by omega⟩
      rw [show k - j = (k - (j + 1)) + 1 by omega]; simpa using h1
    simp only [writers] at h
    split at h
    · rename_i d hd
      split at h
      · rename_i hb
        rcases List.mem_cons.1 h with rfl | h
        · exact ⟨o, by simp, by rw [hd, Nat.eq_of_beq_eq_true hb], Nat.le_refl _⟩
        · exact more h
      · exact more h
    · exact more h

theorem guardsOn_hold {c : Operand} {β : Bool} (hv : a.eval c = .bool β) : ∀ g, g ∈ guardsOn ops.toList c β → Hold ops a g := by
  intro g hg
  unfold guardsOn at hg
  split at hg
  · rename_i t ht
    obtain ⟨j, hj, rfl⟩ := List.mem_map.1 hg
    obtain ⟨o, h1, h2, _⟩ := writers_mem t _ 0 j hj
    have hd : dstAt ops.toList j = some t := by unfold dstAt; simp only [Nat.sub_zero] at h1; rw [h1]; exact h2
    rw [hold_iff hd]
    cases c <;> simp [isTmp] at ht
    subst ht
    exact tmp_bool (by simpa [Act.eval] using hv)
  · simp at hg

theorem does_pick {R : RS} {o : Oper} {c x y : Operand} {ch : List (Nat × Bool)} {out : Out} (hop : o.op = .pick c x y) (h : pickOut ops.toList R ch c x y = some out) (hS : Sat P B ρ R.st.obj w) (hSl : Slots P ρ R.st.sl a) (hG : GL P ops ρ R.gl a)
    (hch : ∀ g, g ∈ ch → Hold ops a g) : OpDoes P o a.eval w (Leaves P B ρ R.st out) := by
  unfold pickOut at h
  split at h
  case h_2 => cases h
  rename_i β hc
  have hcv := den_opnd (a := a) (seen_slots hSl hG hch) c
  rw [hc] at hcv
  have hcv := bool_of_rv (by simpa [SV.den] using hcv)
  have hrun : (execOp a.eval o).run P w = .ok (.value (if β then a.eval x else a.eval y)) w := by
    simp [execOp, hop, hcv, asBool]
  have hch' : ∀ b, β = b → ∀ g, g ∈ guardsOn ops.toList c b ++ ch → Hold ops a g := by
    rintro b rfl g hg
    rcases List.mem_append.1 hg with hg | hg
    · exact guardsOn_hold hcv g hg
    · exact hch g hg
  have hx : β = true → SV.den P ρ (opnd (seenBy R (guardsOn ops.toList c true ++ ch)) x) (a.eval x) := fun e => den_opnd (a := a) (seen_slots hSl hG (hch' true e)) x
  have hy : β = false → SV.den P ρ (opnd (seenBy R (guardsOn ops.toList c false ++ ch)) y) (a.eval y) := fun e => den_opnd (a := a) (seen_slots hSl hG (hch' false e)) y
  split at h
  · rename_i p q hp hq
    rw [hp] at hx; rw [hq] at hy
    have hx : β = true → a.eval x = .bool p := fun e => bool_of_rv (by simpa [SV.den] using hx e)
    have hy : β = false → a.eval y = .bool q := fun e => bool_of_rv (by simpa [SV.den] using hy e)
    have fin : ∀ r, (β = true → r = p) → (β = false → r = q) → OpDoes P o a.eval w (Leaves P B ρ R.st (.pure (.dat .bool r))) := by
      intro r h1 h2
      refine does_plain hS (v := .bool r) ?_ (rv_bool r) trivial
      rw [hrun]
      cases β with
      | true => simp [hx rfl, h1 rfl]
      | false => simp [hy rfl, h2 rfl]
    split at h
    · simp at h; subst h
      refine fin _ (fun e => by simp [e]) (fun e => ?_)
      have := hy e
      simp [Act.eval] at this
      simp [e, this]
    · split at h
      · simp at h; subst h
        refine fin _ (fun e => ?_) (fun e => by simp [e])
        have := hx e
        simp [Act.eval] at this
        simp [e, this]
      · simp at h; subst h
        exact fin _ (fun e => by simp [e]) (fun e => by simp [e])
  · rename_i p q hp hq
    rw [hp] at hx; rw [hq] at hy
    have hx : β = true → a.eval x = .int .i64 p := fun e => int_of_rv (by simpa [SV.den] using hx e)
    have hy : β = false → a.eval y = .int .i64 q := fun e => int_of_rv (by simpa [SV.den] using hy e)
    simp at h; subst h
    refine does_plain hS (v := .int .i64 (cond β p q)) ?_ (rv_int _) trivial
    rw [hrun]
    cases β with
    | true => simp [hx rfl]
    | false => simp [hy rfl]
  · cases h

end
end Go.X
/-
  One operation of a region, at whatever it is known to look at: sound.
-/
namespace Go.X
open Go.RowKit (Below)

section
variable {P : Program} {B : Base} {C : Ctx} {w : World} {ops : Array Oper} {a : Act} {o : Oper}

def Inv (P : Program) (B : Base) (n : Nat) (ops : Array Oper) (rs : RS) (a : Act) (w : World) : Prop :=
  a.defers = [] ∧ a.tmps.size = n ∧ ∃ ρ, Sat P B ρ rs.st.obj w ∧ Slots P ρ rs.st.sl a ∧ GL P ops ρ rs.gl a ∧ Pin B ρ

def AllG (g : Option Bool) (l : List Prop) : Prop := match g with
  | none => AllP l
  | some γ => γ = true → AllP l

/-- the values that an operation leaves -/
def effVals (e : Eff) (v : SV) : Prop := (∃ s, (s, v) ∈ e.sl) ∨ ∃ s g, (s, g, v) ∈ e.gl

/-- what is known of 'R' is known of 'rs', and a step at 'R' is one at 'rs' -/
structure Fit (P : Program) (B : Base) (rs R : RS) (e : Eff) : Prop where
  sl : ∀ s v, look R.st.sl s = some v → look rs.st.sl s = some v
  gl : ∀ x, x ∈ R.gl → x ∈ rs.gl
  obj : ∀ o x, R.st.obj o = some x → rs.st.obj o = some x
  go : ∀ ρ w, Sat P B ρ rs.st.obj w → (∀ d, d ∈ e.nw → rs.st.obj d = none ∧ NoRef rs.st.obj d) → ∃ B' ρR, ρ.le ρR [] ∧ Sat P B' ρR R.st.obj w ∧
    ∀ ρ' w', Sat P B' ρ' ({ R.st with ob := e.ob ++ R.st.ob } : St).obj w' → ρR.le ρ' e.nw →
      ∃ ρ'', Sat P B ρ'' (addEff e rs).st.obj w' ∧ ρ.le ρ'' e.nw ∧ ∀ v x, effVals e v → SV.den P ρ' v x → SV.den P ρ'' v x

theorem Fit.refl (P : Program) (B : Base) (rs : RS) (e : Eff) : Fit P B rs rs e :=
  ⟨fun _ _ h => h, fun _ h => h, fun _ _ h => h, fun ρ _ hS _ => ⟨B, ρ, Env.le.refl _ _, hS, fun ρ' _ hS' hle => ⟨ρ', hS', hle, fun _ _ _ h => h⟩⟩⟩

/-- nothing names this object -/
structure NewP (rs : RS) (d : Nat) : Prop where
  obj : rs.st.obj d = none
  sl : ∀ s v, (s, v) ∈ rs.st.sl → v.refs d = false
  gl : ∀ s g v, (s, g, v) ∈ rs.gl → v.refs d = false
  ob : ∀ o T fz cs, (o, some (.box T fz cs)) ∈ rs.st.ob → SV.refs.refsL d cs = false
  lt : d < 1000000

theorem NewP.noRef {rs : RS} {d : Nat} (h : NewP rs d) : NoRef rs.st.obj d := by
  intro o T fz cs ho
  simp only [St.obj] at ho
  split at ho
  · rename_i x hx; subst ho; exact h.ob o T fz cs (look_mem _ _ _ hx)
  · cases ho

theorem freshSl_mem : ∀ (sl : List (Nat × SV)) (d s : Nat) (v : SV), freshSl d sl = true → (s, v) ∈ sl → v.refs d = false
  | [], _, _, _, _, h => by simp at h
  | (j, x) :: r, d, s, v, hf, h => by
    simp only [freshSl] at hf
    cases hx : x.refs d with
    | true => rw [hx] at hf; cases hf
    | false =>
      rw [hx] at hf
      rcases List.mem_cons.1 h with e | h
      · simp at e; obtain ⟨_, rfl⟩ := e; exact hx
      · exact freshSl_mem r d s v hf h

theorem freshGl_mem : ∀ (gl : List (Nat × (Nat × Bool) × SV)) (d s : Nat) g v, freshGl d gl = true → (s, g, v) ∈ gl → v.refs d = false
  | [], _, _, _, _, _, h => by simp at h
  | (j, g', x) :: r, d, s, g, v, hf, h => by
    simp only [freshGl] at hf
    cases hx : x.refs d with
    | true => rw [hx] at hf; cases hf
    | false =>
      rw [hx] at hf
      rcases List.mem_cons.1 h with e | h
      · simp at e; obtain ⟨_, _, rfl⟩ := e; exact hx
      · exact freshGl_mem r d s g v hf h

theorem freshOb_mem : ∀ (ob : List (Nat × Option Ob)) (d o T : Nat) fz cs, freshOb d ob = true → (o, some (.box T fz cs)) ∈ ob → SV.refs.refsL d cs = false
  | [], _, _, _, _, _, _, h => by simp at h
  | (j, y) :: r, d, o, T, fz, cs, hf, h => by
    have hr : freshOb d r = true ∧ ∀ T fz cs, y = some (.box T fz cs) → SV.refs.refsL d cs = false := by
      unfold freshOb at hf
      split at hf
      · rename_i e; cases e
      · rename_i e
        cases e
        split at hf
        · cases hf
        · rename_i hx
          exact ⟨hf, fun T fz cs e => by simp at e; obtain ⟨rfl, rfl, rfl⟩ := e; exact hx⟩
      · rename_i e
        cases e
        rename_i hne
        exact ⟨hf, fun T fz cs e => by subst e; exact (hne _ _ _ _ rfl).elim⟩
    rcases List.mem_cons.1 h with e | h
    · simp at e; obtain ⟨_, e⟩ := e; exact hr.2 T fz cs e.symm
    · exact freshOb_mem r d o T fz cs hr.1 h

theorem isNew_facts {rs : RS} {d : Nat} (h : isNew rs d = true) : NewP rs d := by
  unfold isNew at h
  split at h
  · rename_i h1 h2 h3 h4
    exact ⟨h1, fun s v hv => freshSl_mem _ _ s v h2 hv, fun s g v hv => freshGl_mem _ _ s g v h3 hv, fun o T fz cs ho => freshOb_mem _ _ o T fz cs h4 ho, Nat.le_of_ble_eq_true h⟩
  · cases h

theorem encode_refs (d : Nat) : ∀ (t : Ty) (x : t.Data), SV.refs.refsL d (encode t x) = false
  | .int, _ => rfl
  | .bool, _ => rfl
  | .uint _, _ => rfl
  | .slice _, _ => rfl
  | .map _ _, _ => rfl
  | .unit, _ => rfl
  | .pair a b, x => by
    have app : ∀ (l r : List SV), SV.refs.refsL d l = false → SV.refs.refsL d r = false → SV.refs.refsL d (l ++ r) = false := by
      intro l r h1 h2
      induction l with
      | nil => simpa using h2
      | cons v l ih =>
        simp only [List.cons_append, SV.refs.refsL] at h1 ⊢
        cases hv : v.refs d with
        | true => rw [hv] at h1; cases h1
        | false => rw [hv] at h1; exact ih h1
    exact app _ _ (encode_refs d a x.1) (encode_refs d b x.2)

theorem cells_refs {σ : St} {sv : SV} {cs : List SV} {d : Nat} (h : cells σ sv = some cs) (hr : sv.refs d = false) : SV.refs.refsL d cs = false := by
  have one : ∀ v : SV, v.refs d = false → SV.refs.refsL d [v] = false := fun v hv => by simp [SV.refs.refsL, hv]
  unfold cells at h
  split at h <;> first
    | (cases h; done)
    | (simp at h; subst h; simpa [SV.refs] using hr)
    | (simp at h; subst h; exact encode_refs d _ _)
    | (split at h
       · simp at h; subst h; exact one _ hr
       · cases h)
    | (simp at h; subst h; exact one _ hr)

theorem seen_obj (R : RS) (ch : List (Nat × Bool)) : (seenBy R ch).obj = R.st.obj := rfl

theorem opnd_refs {rs R : RS} {e : Eff} (hF : Fit P B rs R e) {d : Nat} (hsl : ∀ s v, look rs.st.sl s = some v → v.refs d = false) (hgl : ∀ s g v, (s, g, v) ∈ rs.gl → v.refs d = false) (ch : List (Nat × Bool)) (x : Operand) :
    (opnd (seenBy R ch) x).refs d = false := by
  cases x with
  | tmp t =>
    simp only [opnd, St.get, seenBy]
    rw [look_append]
    cases hv : look (visible R.gl ch) t with
    | some v =>
      obtain ⟨g, h1, _⟩ := visible_mem _ _ _ _ (look_mem _ _ _ hv)
      exact hgl t g v (hF.gl _ h1)
    | none =>
      simp only
      cases hv : look R.st.sl t with
      | some v => exact hsl t v (hF.sl t v hv)
      | none => rfl
  | const v => cases v <;> simp only [opnd, ofVal] <;> first | rfl | (split <;> rfl)
  | global g => rfl
  | func f => rfl

/-- what the operation does, at what is known -/
theorem out_sound {rs R : RS} {e : Eff} {ρ : Env} {B' : Base} {ch : List (Nat × Bool)} {out : Out} (hC : C.ok P) (hF : Fit P B rs R e) (h : outOf C ops.toList o R ch = some out) (hS : Sat P B' ρ R.st.obj w) (hSl : Slots P ρ R.st.sl a) (hG : GL P ops ρ R.gl a)
    (hch : ∀ g, g ∈ ch → Hold ops a g) (hvc : AllP out.vc) (hnew : (out.nw ≠ [] ∨ isCallV o.op = true) → NewP rs (dstOf o)) : OpDoes P o a.eval w (Leaves P B' ρ R.st out) := by
  unfold outOf at h
  split at h
  · rename_i c x y hop
    exact does_pick hop h hS hSl hG hch
  case h_2 U n parts g hop hgd =>
    have hle : ∀ {v w'}, Leaves P B' ρ (seenBy R ch) out v w' → Leaves P B' ρ R.st out v w' := fun h => by
      obtain ⟨ρ', h1, h2, h3, h4⟩ := h
      refine ⟨ρ', ?_, h2, h3, h4⟩
      have e : ({ (seenBy R ch) with ob := out.wr ++ (doFz (seenBy R ch) out.fz ++ (seenBy R ch).ob) } : St).obj = ({ R.st with ob := out.wr ++ (doFz R.st out.fz ++ R.st.ob) } : St).obj := by
        have : ∀ l, doFz (seenBy R ch) l = doFz R.st l := by
          intro l
          induction l with
          | nil => rfl
          | cons k r ih => simp only [doFz, seen_obj, ih]
        funext k
        simp only [St.obj, this]
        rfl
      rw [e] at h1
      exact h1
    exact OpDoes.mono (does_buildD (σ := seenBy R ch) hC hop h hS (fun x => den_opnd (a := a) (seen_slots hSl hG hch) x)) fun v w' => hle
  · rename_i hnp _
    have hle : ∀ {v w'}, Leaves P B' ρ (seenBy R ch) out v w' → Leaves P B' ρ R.st out v w' := fun h => by
      obtain ⟨ρ', h1, h2, h3, h4⟩ := h
      refine ⟨ρ', ?_, h2, h3, h4⟩
      have e : ({ (seenBy R ch) with ob := out.wr ++ (doFz (seenBy R ch) out.fz ++ (seenBy R ch).ob) } : St).obj = ({ R.st with ob := out.wr ++ (doFz R.st out.fz ++ R.st.ob) } : St).obj := by
        have : ∀ l, doFz (seenBy R ch) l = doFz R.st l := by
          intro l
          induction l with
          | nil => rfl
          | cons k r ih => simp only [doFz, seen_obj, ih]
        funext k
        simp only [St.obj, this]
        rfl
      rw [e] at h1
      exact h1
    have noref : NewP rs (dstOf o) → R.st.obj (dstOf o) = none ∧ NoRef R.st.obj (dstOf o) ∧ ∀ x cs, cells (seenBy R ch) (opnd (seenBy R ch) x) = some cs → SV.refs.refsL (dstOf o) cs = false := by
      intro hn
      have h1 := hn.obj
      refine ⟨?_, fun k T fz cs hk => hn.noRef k T fz cs (hF.obj _ _ hk), fun x cs hcs => cells_refs hcs (opnd_refs hF (fun s v h => hn.sl s v (look_mem _ _ _ h)) hn.gl ch x)⟩
      cases hx : R.st.obj (dstOf o) with
      | none => rfl
      | some x => rw [hF.obj _ _ hx] at h1; cases h1
    refine OpDoes.mono (evalOp_sound (σ := seenBy R ch) hC h hS (fun x => den_opnd (a := a) (seen_slots hSl hG hch) x) hvc (fun hne => ?_) (fun c hc hne => ?_)) fun v w' => hle
    · exact noref (hnew (.inl hne))
    · have := noref (hnew (.inr (by
        rw [hc]
        unfold isCallV
        split
        · rename_i h; cases h; split
          · rename_i h; exact absurd h hne
          · rfl
        · rename_i h; exact absurd rfl (h c))))
      exact ⟨this.1, this.2.1⟩

theorem freeG_mem : ∀ (l : List Oper) (d : Nat) (gl : List (Nat × (Nat × Bool) × SV)), freeG l d gl = true → ∀ s j b v, (s, (j, b), v) ∈ gl → s ≠ d ∧ ∃ dj, dstAt l j = some dj ∧ dj ≠ d
  | _, _, [], _, s, j, b, v, hm => by simp at hm
  | l, d, (s', (j', b'), v') :: r, h, s, j, b, v, hm => by
    simp only [freeG] at h
    split at h
    · rename_i dj hb hd
      split at h
      · cases h
      · rename_i hb2
        rcases List.mem_cons.1 hm with e | hm
        · simp at e; obtain ⟨rfl, ⟨rfl, rfl⟩, rfl⟩ := e
          exact ⟨beq_of_refs hb, dj, hd, beq_of_refs hb2⟩
        · exact freeG_mem l d r h s j b v hm
    · cases h

theorem put_getD (a : Act) (d s : Nat) (v : Value) : (a.put (some d) v).tmps.getD s undef = if s = d ∧ d < a.tmps.size then v else a.tmps.getD s undef := by
  simp only [Act.put, Array.getD_eq_getD_getElem?, Array.getElem?_setIfInBounds]
  by_cases e : s = d
  · subst e
    by_cases hlt : s < a.tmps.size
    · simp [hlt]
    · simp [hlt]
  · rw [if_neg (fun h => e h.symm), if_neg (fun h => e h.1)]

theorem put_hold {d j : Nat} {b : Bool} {v : Value} {dj : Nat} (hj : dstAt ops.toList j = some dj) (hne : dj ≠ d) : Hold ops (a.put (some d) v) (j, b) ↔ Hold ops a (j, b) := by
  rw [hold_iff hj, hold_iff hj]
  simp only [Act.put, Array.getElem?_setIfInBounds]
  rw [if_neg (fun h => hne h.symm)]


/-- an operation fits a region as it stands -/
structure FitsP (C : Ctx) (ops : Array Oper) (o : Oper) (rs : RS) (e : Eff) : Prop where
  frame : ∀ d, o.dst = some d → d < C.n
  gl : ∀ d, o.dst = some d → ∀ s j b v, (s, (j, b), v) ∈ rs.gl → s ≠ d ∧ ∃ dj, dstAt ops.toList j = some dj ∧ dj ≠ d
  guard : ∀ d, o.dst = some d → ∀ j b, o.guard = some (j, b) → ∃ dj, dstAt ops.toList j = some dj ∧ dj ≠ d
  nw : ∀ d, d ∈ e.nw → NewP rs d
  dst : (e.nw ≠ [] ∨ isCallV o.op = true) → NewP rs (dstOf o)

theorem okDst_facts {rs : RS} (h : okDst ops.toList o rs = true) {d : Nat} (hd : o.dst = some d) : (∀ s j b v, (s, (j, b), v) ∈ rs.gl → s ≠ d ∧ ∃ dj, dstAt ops.toList j = some dj ∧ dj ≠ d) ∧
    ∀ j b, o.guard = some (j, b) → ∃ dj, dstAt ops.toList j = some dj ∧ dj ≠ d := by
  unfold okDst at h
  rw [hd] at h
  simp only at h
  split at h
  · rename_i hg
    refine ⟨freeG_mem _ _ _ h, fun j b hgd => ?_⟩
    rw [hgd] at hg
    simp only [okGuard] at hg
    split at hg
    · rename_i dj hdj
      split at hg
      · cases hg
      · rename_i hb; exact ⟨dj, hdj, beq_of_refs hb⟩
    · cases hg
  · cases h

theorem inv_put {rs : RS} {e : Eff} {ρ ρ'' : Env} {w' : World} {n : Nat} {v : Value} (hd : a.defers = []) (hn : a.tmps.size = n) (hSl : Slots P ρ rs.st.sl a) (hG : GL P ops ρ rs.gl a) (hPin : Pin B ρ)
    (hS : Sat P B ρ'' (addEff e rs).st.obj w') (hle : ρ.le ρ'' e.nw) (hfit : FitsP C ops o rs e) (hfr : ∀ d, o.dst = some d → d < n)
    {sv gv : SV} (hsl : e.sl = slOf o sv) (hden : ∀ d, o.dst = some d → SV.den P ρ'' sv v) (hgl : ∀ x, x ∈ e.gl → ∃ d g, o.dst = some d ∧ o.guard = some g ∧ x = (d, g, gv))
    (hg : ∀ d g, o.dst = some d → o.guard = some g → (Hold ops a g → SV.den P ρ'' gv v) ∧ (¬ Hold ops a g → v = undef)) :
    Inv P B n ops (addEff e rs) (a.put o.dst v) w' := by
  have hold1 : ∀ s sv', look rs.st.sl s = some sv' → SV.den P ρ'' sv' (a.tmps.getD s undef) := fun s sv' h =>
    SV.den_mono hle _ _ (fun r hr => (hfit.nw r hr).sl s sv' (look_mem _ _ _ h)) (hSl s sv' h)
  have hold2 : ∀ s g v', (s, g, v') ∈ rs.gl → SV.den P ρ v' (a.tmps.getD s undef) → SV.den P ρ'' v' (a.tmps.getD s undef) := fun s g v' h hdn =>
    SV.den_mono hle _ _ (fun r hr => (hfit.nw r hr).gl s g v' h) hdn
  have hPin' : Pin B ρ'' := hPin.mono hle (fun d hd => (hfit.nw d hd).lt)
  cases hdst : o.dst with
  | none =>
    refine ⟨hd, hn, ρ'', hS, ?_, ?_, hPin'⟩
    · intro s sv' h
      simp only [addEff, hsl, slOf, hdst, List.nil_append] at h
      exact hold1 s sv' h
    · intro s g v' hm
      simp only [addEff] at hm
      rcases List.mem_append.1 hm with hm | hm
      · obtain ⟨d, _, h1, _⟩ := hgl _ hm; rw [hdst] at h1; cases h1
      · obtain ⟨h1, h2⟩ := hG s g v' hm
        exact ⟨fun hh => hold2 s g v' hm (h1 hh), h2⟩
  | some d =>
    have hlt : d < a.tmps.size := by rw [hn]; exact hfr d hdst
    have k1 := hfit.gl d hdst
    have k2 := hfit.guard d hdst
    refine ⟨by simpa [Act.put] using hd, by simpa [Act.put] using hn, ρ'', hS, ?_, ?_, hPin'⟩
    · intro s sv' h
      simp only [addEff, hsl, slOf, hdst, List.singleton_append] at h
      rw [put_getD]
      by_cases e : s = d
      · subst e
        rw [look_cons_eq] at h
        simp at h; subst h
        rw [if_pos ⟨rfl, hlt⟩]
        exact hden s hdst
      · rw [look_cons_ne (fun h => e h.symm)] at h
        rw [if_neg (fun h => e h.1)]
        exact hold1 s sv' h
    · intro s g v' hm
      simp only [addEff] at hm
      rcases List.mem_append.1 hm with hm | hm
      · obtain ⟨d', g', h1, h2, h3⟩ := hgl _ hm
        rw [hdst] at h1
        simp at h1 h3
        obtain ⟨rfl, rfl, rfl⟩ := h3
        subst h1
        obtain ⟨j, b⟩ := g
        obtain ⟨dj, h4, h5⟩ := k2 j b h2
        rw [put_hold h4 h5, put_getD, if_pos ⟨rfl, hlt⟩]
        exact hg d (j, b) hdst h2
      · obtain ⟨j, b⟩ := g
        obtain ⟨h1, h2⟩ := hG s (j, b) v' hm
        obtain ⟨k3, dj, k4, k5⟩ := k1 s j b v' hm
        rw [put_hold k4 k5, put_getD, if_neg (fun h => k3 h.1)]
        exact ⟨fun hh => hold2 s (j, b) v' hm (h1 hh), h2⟩

theorem newAll_mem {rs : RS} : ∀ (l : List Nat), newAll rs l = true → ∀ d, d ∈ l → isNew rs d = true
  | [], _, d, h => by simp at h
  | x :: r, h, d, hm => by
    simp only [newAll] at h
    split at h
    · rename_i hx
      rcases List.mem_cons.1 hm with rfl | hm
      · exact hx
      · exact newAll_mem r h d hm
    · cases h

theorem fits_facts {rs : RS} {e : Eff} (h : fits C ops.toList o rs e = true) : FitsP C ops o rs e := by
  unfold fits at h
  split at h
  · rename_i h1 h2 h3 h4
    refine ⟨fun d hd => ?_, fun d hd => (okDst_facts h2 hd).1, fun d hd => (okDst_facts h2 hd).2, fun d hd => isNew_facts (newAll_mem _ h3 d hd), fun hor => isNew_facts ?_⟩
    · rw [hd] at h1; simp only [inFrame] at h1
      exact Nat.le_of_ble_eq_true h1
    · split at h4
      · rename_i e1 e2
        rcases hor with h | h
        · exact absurd e1 h
        · rw [e2] at h; cases h
      · exact h4
  · cases h

theorem step_sound (hC : C.ok P) {rs R : RS} {e : Eff} (he : effOf C ops.toList o R = some e) (hfit : FitsP C ops o rs e) (hF : Fit P B rs R e) (hI : Inv P B C.n ops rs a w) (hvc : AllG e.guard e.vc)
    {K : Act → World → Prop} {Q : Exit → Act → World → Prop} (hK : ∀ a' w', Inv P B C.n ops (addEff e rs) a' w' → AllG e.guard e.fact → K a' w') :
    if Region.wanted o (yielded ops a.tmps) then o.wp P a w K Q else K (a.put o.dst undef) w := by
  obtain ⟨hd, hn, ρ, hS, hSl, hG, hPin⟩ := hI
  have f1 := hfit.frame
  have f4 := hfit.dst
  obtain ⟨B', ρR, hleR, hSR, hgo⟩ := hF.go ρ w hS (fun d hd => ⟨(hfit.nw d hd).obj, (hfit.nw d hd).noRef⟩)
  have hSlR : Slots P ρR R.st.sl a := fun s sv h => SV.den_mono hleR _ _ (fun r hr => by simp at hr) (hSl s sv (hF.sl s sv h))
  have hGR : GL P ops ρR R.gl a := fun s g v h => ⟨fun hh => SV.den_mono hleR _ _ (fun r hr => by simp at hr) ((hG s g v (hF.gl _ h)).1 hh), (hG s g v (hF.gl _ h)).2⟩
  have hle2 : ∀ {ρ'' : Env}, ρ.le ρ'' e.nw → ρ.le ρ'' e.nw := fun h => h
  unfold effOf at he
  split at he
  · -- no guard
    rename_i hgd
    split at he
    · cases he
    rename_i out hout
    simp at he; subst he
    have hw : Region.wanted o (yielded ops a.tmps) = true := by simp [Region.wanted, hgd]
    rw [if_pos hw]
    have hdo := out_sound (w := w) (a := a) hC hF hout hSR hSlR hGR (fun g hg => by simp at hg) hvc f4
    refine hdo.wp fun v w' hL => ?_
    obtain ⟨ρ', g1, g2, g3, g4⟩ := hL
    obtain ⟨ρ'', q1, q2, q3⟩ := hgo ρ' w' (by simpa only [List.append_assoc] using g1) g2
    refine hK _ _ (inv_put (gv := .any) hd hn hSl hG hPin q1 q2 hfit f1 rfl (fun d hdd => q3 _ _ (.inl ⟨d, by simp [slOf, hdd]⟩) g3) (fun x hx => by simp at hx) (fun d g _ hg => by rw [hgd] at hg; cases hg)) g4
  · rename_i g hgd
    split at he
    · cases he
    rename_i γ hγ
    split at he
    · cases he
    rename_i out hout
    split at he
    case h_2 => cases he
    rename_i hwr hnw
    simp at he; subst he
    have hiff := guardB_sound hSlR hGR _ _ _ hγ
    have hwant : (Region.wanted o (yielded ops a.tmps) = true) ↔ Hold ops a g := by
      obtain ⟨j, b⟩ := g
      simp [Region.wanted, hgd, Hold]
    have hglm : ∀ x, x ∈ (match o.dst with | some d => [(d, g, out.sv)] | none => []) → ∃ d g', o.dst = some d ∧ o.guard = some g' ∧ x = (d, g', out.sv) := by
      intro x hx
      split at hx
      · rename_i d hdd
        simp at hx
        exact ⟨d, g, hdd, hgd, hx⟩
      · simp at hx
    by_cases hH : Hold ops a g
    · rw [if_pos (hwant.2 hH)]
      have hγ1 := hiff.1 hH
      have hdo := out_sound (w := w) (a := a) hC hF hout hSR hSlR hGR (chain_sound hGR _ _ hH) (hvc hγ1) (fun hor => f4 (hor.imp (fun h => absurd hnw h) id))
      refine hdo.wp fun v w' hL => ?_
      obtain ⟨ρ', g1, g2, g3, g4⟩ := hL
      rw [hwr] at g1
      rw [hnw] at g2
      obtain ⟨ρ'', q1, q2, q3⟩ := hgo ρ' w' (by simpa only [List.nil_append] using g1) g2
      refine hK _ _ (inv_put (sv := .any) hd hn hSl hG hPin q1 q2 hfit f1 rfl (fun d hdd => den_any _) hglm (fun d g' hdd hg' => ⟨fun _ => ?_, fun hn => ?_⟩)) (fun _ => g4)
      · exact q3 _ _ (.inr ⟨d, g, by simp [hdd]⟩) g3
      · rw [hgd] at hg'; simp at hg'; subst hg'; exact absurd hH hn
    · rw [if_neg (fun h => hH (hwant.1 h))]
      obtain ⟨ρ', g1, g2, _, _⟩ := freeze_sat out.fz hSR
      obtain ⟨ρ'', q1, q2, q3⟩ := hgo ρ' w g1 g2
      refine hK _ _ (inv_put (sv := .any) hd hn hSl hG hPin q1 q2 hfit f1 rfl (fun d hdd => den_any _) hglm (fun d g' hdd hg' => ⟨fun hh => ?_, fun _ => rfl⟩)) (fun hγ1 => absurd (hiff.2 hγ1) hH)
      rw [hgd] at hg'; simp at hg'; subst hg'; exact absurd hh hH

end
end Go.X
/-
  A region in its one order: sound; what is done to the state's names behind a region.
-/
namespace Go.X
open Go.RowKit (Below)

theorem asks_all : ∀ (l : List Prop) (k : Prop), asks l k → AllP l ∧ k
  | [], _, h => ⟨trivial, h⟩
  | _ :: r, k, h => ⟨⟨h.1, (asks_all r k h.2).1⟩, (asks_all r k h.2).2⟩
theorem asksG_all (γ : Bool) : ∀ (l : List Prop) (k : Prop), asksG γ l k → (γ = true → AllP l) ∧ k
  | [], _, h => ⟨fun _ => trivial, h⟩
  | _ :: r, k, h => ⟨fun e => ⟨h.1 e, (asksG_all γ r k h.2).1 e⟩, (asksG_all γ r k h.2).2⟩
theorem gives_all : ∀ (l : List Prop) (k : Prop), gives l k → AllP l → k
  | [], _, h, _ => h
  | _ :: r, k, h, a => gives_all r k (h a.1) a.2
theorem givesG_all (γ : Bool) : ∀ (l : List Prop) (k : Prop), givesG γ l k → (γ = true → AllP l) → k
  | [], _, h, _ => h
  | _ :: r, k, h, a => givesG_all γ r k (h fun e => (a e).1) fun e => (a e).2

theorem vcSteps_one {e : Eff} {es : List Eff} {k : Prop} (h : vcSteps false (e :: es) k) : AllG e.guard e.vc ∧ (AllG e.guard e.fact → vcSteps false es k) := by
  simp only [vcSteps] at h
  cases hg : e.guard with
  | none => rw [hg] at h; have := asks_all _ _ h; exact ⟨this.1, fun hf => gives_all _ _ this.2 hf⟩
  | some γ => rw [hg] at h; have := asksG_all γ _ _ h; exact ⟨this.1, fun hf => givesG_all γ _ _ this.2 hf⟩

theorem vcSteps_any {k : Prop} : ∀ (es : List Eff), vcSteps true es k → (∀ e, e ∈ es → AllG e.guard e.vc) ∧ k
  | [], h => ⟨fun e he => by simp at he, h⟩
  | e :: es, h => by
    simp only [vcSteps] at h
    have : AllG e.guard e.vc ∧ vcSteps true es k := by
      cases hg : e.guard with
      | none => rw [hg] at h; exact asks_all _ _ h
      | some γ => rw [hg] at h; exact asksG_all γ _ _ h
    obtain ⟨h1, h2⟩ := vcSteps_any es this.2
    refine ⟨fun x hx => ?_, h2⟩
    rcases List.mem_cons.1 hx with rfl | hx
    · exact this.1
    · exact h1 x hx

section
variable {P : Program} {B : Base} {C : Ctx} {ops : Array Oper} {Q : Exit → Act → World → Prop}

theorem runOps_sound (hC : C.ok P) {k : Prop} : ∀ (l : List Oper) (rs rs' : RS) (es : List Eff) (a : Act) (w : World), runOps C ops.toList l rs = some (es, rs') → vcSteps false es k → Inv P B C.n ops rs a w →
    (k → ∀ a' w', Inv P B C.n ops rs' a' w' → Q .normal a' w') → wpList P ops Q l a w
  | [], rs, rs', es, a, w, h, hk, hI, hQ => by
    simp [runOps] at h
    obtain ⟨rfl, rfl⟩ := h
    exact hQ hk a w hI
  | o :: r, rs, rs', es, a, w, h, hk, hI, hQ => by
    simp only [runOps] at h
    split at h
    · cases h
    rename_i e he
    split at h
    · cases h
    rename_i hf
    split at h
    · cases h
    rename_i es' rs2 hr
    simp at h
    obtain ⟨rfl, rfl⟩ := h
    obtain ⟨h1, h2⟩ := vcSteps_one hk
    have := step_sound (K := wpList P ops Q r) (Q := Q) hC he (fits_facts hf) (Fit.refl P B rs e) hI h1 (fun a' w' hI' hfact => runOps_sound hC r _ _ _ a' w' hr (h2 hfact) hI' hQ)
    unfold wpList
    split
    · rename_i hw; rw [if_pos hw] at this; exact .inl this
    · rename_i hw; rw [if_neg hw] at this; exact this

/-! ### Names -/

theorem look_scrub (σ : St) (p : SV → Bool) : ∀ (l : List (Nat × SV)) (s : Nat) (v : SV), look (scrub σ p l) s = some v → v = .any
  | [], s, v, h => by simp [scrub, look] at h
  | (j, x) :: r, s, v, h => by
    simp only [scrub] at h
    split at h
    · simp only [look] at h
      cases hb : Nat.beq j s with
      | true => rw [hb] at h; simp at h; exact h.symm
      | false => rw [hb] at h; exact look_scrub σ p r s v h
    · exact look_scrub σ p r s v h

theorem look_scrub_none (σ : St) (p : SV → Bool) : ∀ (l : List (Nat × SV)) (s : Nat), look (scrub σ p l) s = none → look l s ≠ none → p (σ.get s) = false
  | [], s, _, h => by simp [look] at h
  | (j, x) :: r, s, h, hl => by
    simp only [scrub] at h
    simp only [look] at hl
    cases hb : Nat.beq j s with
    | true =>
      have := Nat.eq_of_beq_eq_true hb
      subst this
      split at h
      · simp [look] at h
      · rename_i hp; exact hp
    | false =>
      rw [hb] at hl
      split at h
      · simp only [look, hb] at h; exact look_scrub_none σ p r s h hl
      · exact look_scrub_none σ p r s h hl

theorem rel_gc {n m : Nat} {σ : St} {a : Act} {w : World} (h : Rel P B n σ a w) : Rel P B n (gc m σ) a w := by
  unfold gc
  split
  · exact h
  · obtain ⟨h1, h2, ρ, h3, h4, h5⟩ := h
    refine ⟨h1, h2, ρ, h3, fun s v hv => ?_, h5⟩
    simp only at hv
    rw [look_append] at hv
    split at hv
    · rename_i x hx
      simp at hv; subst hv
      rw [look_scrub _ _ _ _ _ hx]
      exact den_any _
    · exact h4 s v hv

theorem refsAny_false {os : List Nat} {v : SV} (h : refsAny os v = false) : ∀ o, o ∈ os → v.refs o = false := by
  induction os with
  | nil => intro o ho; simp at ho
  | cons x r ih =>
    intro o ho
    simp only [refsAny] at h
    split at h
    · cases h
    · rename_i hx
      rcases List.mem_cons.1 ho with rfl | ho
      · exact hx
      · exact ih h o ho

theorem rel_rename {n s : Nat} {σ : St} {a : Act} {w : World} (h : Rel P B n σ a w) : Rel P B n (rename s σ) a w := by
  unfold rename
  split
  case h_2 => exact h
  rename_i o t hget
  split
  · exact h
  rename_i hne
  have hne : o ≠ s := beq_of_refs hne
  split
  case h_2 => exact h
  rename_i x hobj hfr
  simp only [Bool.and_eq_true] at hfr
  obtain ⟨hfr, hlt⟩ := hfr
  have hlt := Nat.le_of_ble_eq_true hlt
  obtain ⟨h1, h2, ρ, hS, hSl, hPin⟩ := h
  let ρ' : Env := { H := ρ.H, blk := fun k => if k = s then ρ.blk o else if k = o then none else ρ.blk k, len := fun k => if k = s then ρ.len o else ρ.len k }
  have hle : ρ.le ρ' [s] := ⟨fun _ _ h => h, fun k p hk hp => by
    have hk : k ≠ s := by simpa using hk
    simp only [ρ', hk, if_false] at hp
    split at hp
    · cases hp
    · exact hp, fun k hk => by simp [ρ', show k ≠ s by simpa using hk]⟩
  have hobj' : ∀ k, ({ σ with ob := (s, some x) :: (o, none) :: σ.ob } : St).obj k = if k = s then some x else if k = o then none else σ.obj k := by
    intro k
    rw [obj_cons, obj_cons]
  have hbox : ∀ k T fz cs, σ.obj k = some (.box T fz cs) → SV.refs.refsL s cs = false := by
    intro k T fz cs hk
    simp only [St.obj] at hk
    split at hk
    · rename_i y hy; subst hk; exact freshOb_mem _ _ k T fz cs hfr (look_mem _ _ _ hy)
    · cases hk
  have obs1 : ∀ k (y : Ob) p, σ.obj k = some y → ObSat P ρ w k p y → k ≠ s → ObSat P ρ' w k p y := by
    intro k y p hk hs hks
    exact obSat_mono hle (by simpa using hks) (fun T fz cs e r hr => by simp at hr; subst hr; subst e; exact hbox k T fz cs hk) (fun _ _ _ => ⟨rfl, rfl⟩) hs
  refine ⟨h1, h2, ρ', ⟨hS.os, hS.tape, hS.output, hS.drawn, hS.size, hS.good, hS.oldH, hS.old, ?_, ?_, ?_, ?_⟩, ?_, ?_⟩
  rotate_right
  · refine ⟨fun k p hk hb => ?_, hPin.2⟩
    have hks : k ≠ s := fun e => by omega
    simp only [ρ', if_neg hks] at hb ⊢
    split at hb
    · cases hb
    · exact hPin.1 k p hk hb
  · intro k y hk
    have hk' := hobj' k
    simp only [St.obj] at hk hk'
    rw [hk'] at hk
    by_cases e : k = s
    · subst e
      rw [if_pos rfl] at hk
      simp at hk; subst hk
      obtain ⟨p, hp, hs⟩ := hS.obs o x hobj
      refine ⟨p, by simp [ρ', hp], ?_⟩
      have hs' := obs1 o x p hobj hs hne
      cases x with
      | box T fz cs => exact hs'
      | row E u fz nl l =>
        simp only [ObSat] at hs' ⊢
        obtain ⟨q1, q2⟩ := hs'
        refine ⟨?_, q2⟩
        have e1 : ρ'.len k = ρ.len o := by simp [ρ']
        have e2 : ρ'.len o = ρ.len o := by simp [ρ', hne]
        rw [e1, ← e2]; exact q1
      | map fz kt vt l => exact hs'
      | iter kt vt left cur => exact hs'
      | mape kt vt l key st => exact hs'
    · rw [if_neg e] at hk
      by_cases e' : k = o
      · rw [if_pos e'] at hk; cases hk
      · rw [if_neg e'] at hk
        obtain ⟨p, hp, hs⟩ := hS.obs k y hk
        exact ⟨p, by simp [ρ', e, e', hp], obs1 k y p hk hs e⟩
  · intro k hk
    have hk' := hobj' k
    simp only [St.obj] at hk hk'
    rw [hk'] at hk
    by_cases e : k = s
    · rw [if_pos e] at hk; cases hk
    · rw [if_neg e] at hk
      by_cases e' : k = o
      · simp only [ρ']; rw [if_neg e, if_pos e']
      · rw [if_neg e'] at hk; simp only [ρ']; rw [if_neg e, if_neg e']; exact hS.dead k hk
  · intro k k' b C1 C2 hk hk'
    simp only [ρ'] at hk hk'
    by_cases e : k = s <;> by_cases e' : k' = s
    · rw [e, e']
    · rw [if_pos e] at hk; rw [if_neg e'] at hk'
      split at hk'
      · cases hk'
      · rename_i e2; exact absurd (hS.inj _ _ _ _ _ hk hk').symm e2
    · rw [if_neg e] at hk; rw [if_pos e'] at hk'
      split at hk
      · cases hk
      · rename_i e2; exact absurd (hS.inj _ _ _ _ _ hk hk') e2
    · rw [if_neg e] at hk; rw [if_neg e'] at hk'
      split at hk
      · cases hk
      · split at hk'
        · cases hk'
        · exact hS.inj _ _ _ _ _ hk hk'
  · intro k b C1 hk
    simp only [ρ'] at hk
    split at hk
    · exact hS.own _ _ _ hk
    · split at hk
      · cases hk
      · exact hS.own _ _ _ hk
  · intro k v hv
    simp only at hv
    by_cases e : k = s
    · subst e
      rw [look_cons_eq] at hv
      simp at hv; subst hv
      have hd := den_opnd (a := a) hSl (.tmp k)
      simp only [opnd] at hd
      rw [hget] at hd
      simp only [SV.den] at hd ⊢
      intro p hp
      have hp' : ρ.blk o = some p := by simpa [ρ'] using hp
      have e1 : ρ'.len k = ρ.len o := by simp [ρ']
      rw [e1]
      exact hd p hp'
    · rw [look_cons_ne (fun h => e h.symm), look_append] at hv
      split at hv
      · rename_i y hy
        simp at hv; subst hv
        rw [look_scrub _ _ _ _ _ hy]
        exact den_any _
      · rename_i hnone
        have hp := look_scrub_none _ _ _ k hnone (by rw [hv]; simp)
        have hg : σ.get k = v := by unfold St.get; rw [hv]
        rw [hg] at hp
        exact SV.den_mono hle v _ (fun r hr => by simp at hr; subst hr; exact refsAny_false hp r (by simp)) (hSl k v hv)

theorem denL_at {ρ : Env} : ∀ (cs : List SV) (vs : List Value) (j : Nat) (sv : SV), SV.denL P ρ cs vs → cs[j]? = some sv → ∃ v, vs[j]? = some v ∧ SV.den P ρ sv v
  | [], _, _, _, _, h => by simp at h
  | c :: cs, vs, j, sv, k, h => by
    simp only [SV.denL] at k
    obtain ⟨v, r, rfl, k1, k2⟩ := k
    cases j with
    | zero => simp at h; subst h; exact ⟨v, rfl, k1⟩
    | succ j => exact denL_at cs r j sv k2 (by simpa using h)

theorem denL_put {ρ : Env} : ∀ (cs : List SV) (vs : List Value) (j : Nat) (sv : SV), SV.denL P ρ cs vs → (∀ v, vs[j]? = some v → SV.den P ρ sv v) → SV.denL P ρ (cs.set j sv) vs
  | [], _, _, _, k, _ => by simpa using k
  | c :: cs, vs, j, sv, k, h => by
    simp only [SV.denL] at k
    obtain ⟨v, r, rfl, k1, k2⟩ := k
    cases j with
    | zero => simp only [List.set, SV.denL]; exact ⟨v, r, rfl, h v rfl, k2⟩
    | succ j => simp only [List.set, SV.denL]; exact ⟨v, r, rfl, k1, denL_put cs r j sv k2 (fun u hu => h u (by simpa using hu))⟩

theorem freshNow_at {σ : St} {s : Nat} : ∀ (l : List Nat), freshNow σ s l = true → ∀ (k T : Nat) fz cs, k ∈ l → σ.obj k = some (.box T fz cs) → SV.refs.refsL s cs = false
  | [], _, _, _, _, _, hm, _ => by simp at hm
  | j :: r, h, k, T, fz, cs, hm, hk => by
    unfold freshNow at h
    rcases List.mem_cons.1 hm with e | hm
    · subst e
      rw [hk] at h
      simp only at h
      split at h
      · cases h
      · assumption
    · split at h
      · split at h
        · cases h
        · exact freshNow_at r h k T fz cs hm hk
      · exact freshNow_at r h k T fz cs hm hk

theorem rel_renameN {n b j : Nat} {σ : St} {a : Act} {w : World} (h : Rel P B n σ a w) : Rel P B n (renameN b j σ) a w := by
  unfold renameN
  split
  case h_2 => exact h
  rename_i T fz cs hbx
  split
  case h_2 => exact h
  rename_i o hcell
  split
  case h_2 => exact h
  rename_i hne hbo hbs
  generalize nestName b j = s at *
  have hne : o ≠ s := beq_of_refs hne
  have hbo : b ≠ o := beq_of_refs hbo
  have hbs : b ≠ s := beq_of_refs hbs
  split
  case h_2 => exact h
  rename_i fm kt vt l hobj hfr
  simp only [Bool.and_eq_true] at hfr
  obtain ⟨hfr, hlt⟩ := hfr
  have hlt := Nat.le_of_ble_eq_true hlt
  obtain ⟨h1, h2, ρ, hS, hSl, hPin⟩ := h
  let ρ' : Env := { H := ρ.H, blk := fun k => if k = s then ρ.blk o else if k = o then none else ρ.blk k, len := fun k => if k = s then ρ.len o else ρ.len k }
  have hle : ρ.le ρ' [s] := ⟨fun _ _ h => h, fun k p hk hp => by
    have hk : k ≠ s := by simpa using hk
    simp only [ρ', hk, if_false] at hp
    split at hp
    · cases hp
    · exact hp, fun k hk => by simp [ρ', show k ≠ s by simpa using hk]⟩
  have hobj' : ∀ k, ({ σ with ob := (b, some (.box T fz (cs.set j (.mp s)))) :: (s, some (.map fm kt vt l)) :: (o, none) :: σ.ob } : St).obj k = if k = b then some (.box T fz (cs.set j (.mp s))) else if k = s then some (.map fm kt vt l) else if k = o then none else σ.obj k := by
    intro k
    rw [obj_cons, obj_cons, obj_cons]
  have hbox : ∀ k T fz cs, σ.obj k = some (.box T fz cs) → SV.refs.refsL s cs = false := by
    intro k T fz cs hk
    simp only [St.obj] at hk
    split at hk
    · rename_i y hy
      subst hk
      exact freshNow_at _ hfr k T fz cs (List.mem_map.2 ⟨_, look_mem _ _ _ hy, rfl⟩) (by simp only [St.obj, hy])
    · cases hk
  have obs1 : ∀ k (y : Ob) p, σ.obj k = some y → ObSat P ρ w k p y → k ≠ s → ObSat P ρ' w k p y := by
    intro k y p hk hs hks
    exact obSat_mono hle (by simpa using hks) (fun T fz cs e r hr => by simp at hr; subst hr; subst e; exact hbox k T fz cs hk) (fun _ _ _ => ⟨rfl, rfl⟩) hs
  refine ⟨h1, h2, ρ', ⟨hS.os, hS.tape, hS.output, hS.drawn, hS.size, hS.good, hS.oldH, hS.old, ?_, ?_, ?_, ?_⟩, ?_, ?_⟩
  rotate_right
  · refine ⟨fun k p hk hb => ?_, hPin.2⟩
    have hks : k ≠ s := fun e => by omega
    simp only [ρ', if_neg hks] at hb ⊢
    split at hb
    · cases hb
    · exact hPin.1 k p hk hb
  · intro k y hk
    have hk' := hobj' k
    simp only [St.obj] at hk hk'
    rw [hk'] at hk
    by_cases e0 : k = b
    · subst e0
      rw [if_pos rfl] at hk
      simp at hk; subst hk
      obtain ⟨p, hp, hs⟩ := hS.obs k _ hbx
      refine ⟨p, by simp [ρ', hbs, hbo, hp], ?_⟩
      have hs' := obs1 k _ p hbx hs hbs
      simp only [ObSat] at hs hs' ⊢
      obtain ⟨b1, C1, vs, e1, e2, e3, e4, e5⟩ := hs'
      refine ⟨b1, C1, vs, e1, e2, denL_put _ _ _ _ e3 (fun v hv => ?_), e4, e5⟩
      obtain ⟨b2, C2, vs2, f1, f2, f3, _⟩ := hs
      have : vs2 = vs := by
        rw [e1] at f1; simp at f1; obtain ⟨rfl, rfl⟩ := f1
        rw [e2] at f2; simp at f2; exact f2.symm
      subst this
      obtain ⟨v', g1, g2⟩ := denL_at _ _ _ _ f3 hcell
      rw [hv] at g1; simp at g1; subst g1
      simp only [SV.den] at g2 ⊢
      intro q hq
      exact g2 q (by simpa [ρ'] using hq)
    · rw [if_neg e0] at hk
      by_cases e : k = s
      · subst e
        rw [if_pos rfl] at hk
        simp at hk; subst hk
        obtain ⟨p, hp, hs⟩ := hS.obs o _ hobj
        exact ⟨p, by simp [ρ', hp], obs1 o _ p hobj hs hne⟩
      · rw [if_neg e] at hk
        by_cases e' : k = o
        · rw [if_pos e'] at hk; cases hk
        · rw [if_neg e'] at hk
          obtain ⟨p, hp, hs⟩ := hS.obs k y hk
          exact ⟨p, by simp [ρ', e, e', hp], obs1 k y p hk hs e⟩
  · intro k hk
    have hk' := hobj' k
    simp only [St.obj] at hk hk'
    rw [hk'] at hk
    by_cases e0 : k = b
    · rw [if_pos e0] at hk; cases hk
    rw [if_neg e0] at hk
    by_cases e : k = s
    · rw [if_pos e] at hk; cases hk
    · rw [if_neg e] at hk
      by_cases e' : k = o
      · simp only [ρ']; rw [if_neg e, if_pos e']
      · rw [if_neg e'] at hk; simp only [ρ']; rw [if_neg e, if_neg e']; exact hS.dead k hk
  · intro k k' b C1 C2 hk hk'
    simp only [ρ'] at hk hk'
    by_cases e : k = s <;> by_cases e' : k' = s
    · rw [e, e']
    · rw [if_pos e] at hk; rw [if_neg e'] at hk'
      split at hk'
      · cases hk'
      · rename_i e2; exact absurd (hS.inj _ _ _ _ _ hk hk').symm e2
    · rw [if_neg e] at hk; rw [if_pos e'] at hk'
      split at hk
      · cases hk
      · rename_i e2; exact absurd (hS.inj _ _ _ _ _ hk hk') e2
    · rw [if_neg e] at hk; rw [if_neg e'] at hk'
      split at hk
      · cases hk
      · split at hk'
        · cases hk'
        · exact hS.inj _ _ _ _ _ hk hk'
  · intro k b C1 hk
    simp only [ρ'] at hk
    split at hk
    · exact hS.own _ _ _ hk
    · split at hk
      · cases hk
      · exact hS.own _ _ _ hk
  · intro k v hv
    simp only at hv
    rw [look_append] at hv
    split at hv
    · rename_i y hy
      simp at hv; subst hv
      rw [look_scrub _ _ _ _ _ hy]
      exact den_any _
    · rename_i hnone
      have hp := look_scrub_none _ _ _ k hnone (by rw [hv]; simp)
      have hg : σ.get k = v := by unfold St.get; rw [hv]
      rw [hg] at hp
      exact SV.den_mono hle v _ (fun r hr => by simp at hr; subst hr; exact refsAny_false hp r (by simp)) (hSl k v hv)

theorem rel_renameR {n b j : Nat} {σ : St} {a : Act} {w : World} (h : Rel P B n σ a w) : Rel P B n (renameR b j σ) a w := by
  unfold renameR
  split
  case h_2 => exact h
  rename_i T fz cs hbx
  split
  case h_2 => exact h
  rename_i o u hcell
  split
  case h_2 => exact h
  rename_i hne hbo hbs
  generalize nestR b j = s at *
  have hne : o ≠ s := beq_of_refs hne
  have hbo : b ≠ o := beq_of_refs hbo
  have hbs : b ≠ s := beq_of_refs hbs
  split
  case h_2 => exact h
  rename_i E t0 fr nl l hobj hfr
  simp only [Bool.and_eq_true] at hfr
  obtain ⟨hfr, hlt⟩ := hfr
  have hlt := Nat.le_of_ble_eq_true hlt
  obtain ⟨h1, h2, ρ, hS, hSl, hPin⟩ := h
  let ρ' : Env := { H := ρ.H, blk := fun k => if k = s then ρ.blk o else if k = o then none else ρ.blk k, len := fun k => if k = s then ρ.len o else ρ.len k }
  have hle : ρ.le ρ' [s] := ⟨fun _ _ h => h, fun k p hk hp => by
    have hk : k ≠ s := by simpa using hk
    simp only [ρ', hk, if_false] at hp
    split at hp
    · cases hp
    · exact hp, fun k hk => by simp [ρ', show k ≠ s by simpa using hk]⟩
  have hobj' : ∀ k, ({ σ with ob := (b, some (.box T fz (cs.set j (.own s u)))) :: (s, some (.row E t0 fr nl l)) :: (o, none) :: σ.ob } : St).obj k = if k = b then some (.box T fz (cs.set j (.own s u))) else if k = s then some (.row E t0 fr nl l) else if k = o then none else σ.obj k := by
    intro k
    rw [obj_cons, obj_cons, obj_cons]
  have hbox : ∀ k T fz cs, σ.obj k = some (.box T fz cs) → SV.refs.refsL s cs = false := by
    intro k T fz cs hk
    simp only [St.obj] at hk
    split at hk
    · rename_i y hy
      subst hk
      exact freshNow_at _ hfr k T fz cs (List.mem_map.2 ⟨_, look_mem _ _ _ hy, rfl⟩) (by simp only [St.obj, hy])
    · cases hk
  have obs1 : ∀ k (y : Ob) p, σ.obj k = some y → ObSat P ρ w k p y → k ≠ s → ObSat P ρ' w k p y := by
    intro k y p hk hs hks
    exact obSat_mono hle (by simpa using hks) (fun T fz cs e r hr => by simp at hr; subst hr; subst e; exact hbox k T fz cs hk) (fun _ _ _ => ⟨rfl, rfl⟩) hs
  refine ⟨h1, h2, ρ', ⟨hS.os, hS.tape, hS.output, hS.drawn, hS.size, hS.good, hS.oldH, hS.old, ?_, ?_, ?_, ?_⟩, ?_, ?_⟩
  rotate_right
  · refine ⟨fun k p hk hb => ?_, hPin.2⟩
    have hks : k ≠ s := fun e => by omega
    simp only [ρ', if_neg hks] at hb ⊢
    split at hb
    · cases hb
    · exact hPin.1 k p hk hb
  · intro k y hk
    have hk' := hobj' k
    simp only [St.obj] at hk hk'
    rw [hk'] at hk
    by_cases e0 : k = b
    · subst e0
      rw [if_pos rfl] at hk
      simp at hk; subst hk
      obtain ⟨p, hp, hs⟩ := hS.obs k _ hbx
      refine ⟨p, by simp [ρ', hbs, hbo, hp], ?_⟩
      have hs' := obs1 k _ p hbx hs hbs
      simp only [ObSat] at hs hs' ⊢
      obtain ⟨b1, C1, vs, e1, e2, e3, e4, e5⟩ := hs'
      refine ⟨b1, C1, vs, e1, e2, denL_put _ _ _ _ e3 (fun v hv => ?_), e4, e5⟩
      obtain ⟨b2, C2, vs2, f1, f2, f3, _⟩ := hs
      have : vs2 = vs := by
        rw [e1] at f1; simp at f1; obtain ⟨rfl, rfl⟩ := f1
        rw [e2] at f2; simp at f2; exact f2.symm
      subst this
      obtain ⟨v', g1, g2⟩ := denL_at _ _ _ _ f3 hcell
      rw [hv] at g1; simp at g1; subst g1
      simp only [SV.den] at g2 ⊢
      intro q hq
      have := g2 q (by simpa [ρ'] using hq)
      simpa [ρ'] using this
    · rw [if_neg e0] at hk
      by_cases e : k = s
      · subst e
        rw [if_pos rfl] at hk
        simp at hk; subst hk
        obtain ⟨p, hp, hs⟩ := hS.obs o _ hobj
        have h3 := obs1 o _ p hobj hs hne
        refine ⟨p, by simp [ρ', hp], ?_⟩
        simp only [ObSat] at h3 ⊢
        exact ⟨by have := h3.1; simpa [ρ', hne] using this, h3.2⟩
      · rw [if_neg e] at hk
        by_cases e' : k = o
        · rw [if_pos e'] at hk; cases hk
        · rw [if_neg e'] at hk
          obtain ⟨p, hp, hs⟩ := hS.obs k y hk
          exact ⟨p, by simp [ρ', e, e', hp], obs1 k y p hk hs e⟩
  · intro k hk
    have hk' := hobj' k
    simp only [St.obj] at hk hk'
    rw [hk'] at hk
    by_cases e0 : k = b
    · rw [if_pos e0] at hk; cases hk
    rw [if_neg e0] at hk
    by_cases e : k = s
    · rw [if_pos e] at hk; cases hk
    · rw [if_neg e] at hk
      by_cases e' : k = o
      · simp only [ρ']; rw [if_neg e, if_pos e']
      · rw [if_neg e'] at hk; simp only [ρ']; rw [if_neg e, if_neg e']; exact hS.dead k hk
  · intro k k' b C1 C2 hk hk'
    simp only [ρ'] at hk hk'
    by_cases e : k = s <;> by_cases e' : k' = s
    · rw [e, e']
    · rw [if_pos e] at hk; rw [if_neg e'] at hk'
      split at hk'
      · cases hk'
      · rename_i e2; exact absurd (hS.inj _ _ _ _ _ hk hk').symm e2
    · rw [if_neg e] at hk; rw [if_pos e'] at hk'
      split at hk
      · cases hk
      · rename_i e2; exact absurd (hS.inj _ _ _ _ _ hk hk') e2
    · rw [if_neg e] at hk; rw [if_neg e'] at hk'
      split at hk
      · cases hk
      · split at hk'
        · cases hk'
        · exact hS.inj _ _ _ _ _ hk hk'
  · intro k b C1 hk
    simp only [ρ'] at hk
    split at hk
    · exact hS.own _ _ _ hk
    · split at hk
      · cases hk
      · exact hS.own _ _ _ hk
  · intro k v hv
    simp only at hv
    rw [look_append] at hv
    split at hv
    · rename_i y hy
      simp at hv; subst hv
      rw [look_scrub _ _ _ _ _ hy]
      exact den_any _
    · rename_i hnone
      have hp := look_scrub_none _ _ _ k hnone (by rw [hv]; simp)
      have hg : σ.get k = v := by unfold St.get; rw [hv]
      rw [hg] at hp
      exact SV.den_mono hle v _ (fun r hr => by simp at hr; subst hr; exact refsAny_false hp r (by simp)) (hSl k v hv)

theorem rel_renameS {n : Nat} {σ : St} {a : Act} {w : World} (t : Nat) (h : Rel P B n σ a w) : Rel P B n (renameS σ t) a w := by
  unfold renameS
  split
  · exact rel_renameR h
  · exact h

theorem rel_renameA {n : Nat} {σ : St} {a : Act} {w : World} (t : Nat) (h : Rel P B n σ a w) : Rel P B n (renameA σ t) a w := by
  unfold renameA
  split
  · exact rel_renameN h
  · exact h

theorem rel_renameC {n : Nat} {σ : St} {a : Act} {w : World} (l : List Operand) (h : Rel P B n σ a w) : Rel P B n (renameC σ l) a w := by
  unfold renameC
  split
  · exact rel_renameA _ h
  · exact h

theorem rel_renames {n : Nat} {a : Act} {w : World} : ∀ (l : List Oper) {σ : St}, Rel P B n σ a w → Rel P B n (renames l σ) a w
  | [], _, h => h
  | o :: r, σ, h => by
    simp only [renames]
    split
    · exact rel_renames r (rel_renameA _ (rel_rename h))
    · exact rel_renames r (rel_renameC _ h)
    · exact rel_renames r (rel_renameS _ h)
    · exact rel_renames r h

end
end Go.X
/-
  A region in any order: what the operations leave, whatever has been done; agreement of what an operation looks at.
-/
namespace Go.X
open Go.RowKit (Below)

/-! ### What some of the operations have left -/

def eL {α : Type} (f : Act1 → List α) (D : Nat → Bool) : List Act1 → Nat → List α
  | [], _ => []
  | x :: r, i => eL f D r (i + 1) ++ (match D i with | true => f x | false => [])

theorem eL_shift {α : Type} (f : Act1 → List α) (D : Nat → Bool) : ∀ (as : List Act1) (i : Nat), eL f D as (i + 1) = eL f (fun k => D (k + 1)) as i
  | [], _ => rfl
  | _ :: r, i => by simp only [eL]; rw [eL_shift f D r (i + 1)]

theorem eL_congr {α : Type} (f : Act1 → List α) {D D' : Nat → Bool} : ∀ (as : List Act1) (i : Nat), (∀ k, i ≤ k → k < i + as.length → D k = D' k) → eL f D as i = eL f D' as i
  | [], _, _ => rfl
  | _ :: r, i, h => by
    simp only [eL]
    rw [eL_congr f r (i + 1) (fun k h1 h2 => h k (by omega) (by simp only [List.length_cons]; omega)), h i (Nat.le_refl _) (by simp only [List.length_cons]; omega)]

theorem mem_eL {α : Type} (f : Act1 → List α) (D : Nat → Bool) (y : α) : ∀ (as : List Act1) (i : Nat), y ∈ eL f D as i ↔ ∃ k x, as[k]? = some x ∧ D (i + k) = true ∧ y ∈ f x
  | [], i => by simp [eL]
  | x :: r, i => by
    simp only [eL, List.mem_append]
    rw [mem_eL f D y r (i + 1)]
    constructor
    · rintro (⟨k, x', h1, h2, h3⟩ | h)
      · exact ⟨k + 1, x', by simpa using h1, by rw [← h2]; congr 1; omega, h3⟩
      · cases hD : D i with
        | true => rw [hD] at h; exact ⟨0, x, by simp, by simpa using hD, h⟩
        | false => rw [hD] at h; simp at h
    · rintro ⟨k, x', h1, h2, h3⟩
      cases k with
      | zero => simp at h1 h2; subst h1; right; rw [h2]; exact h3
      | succ k => left; exact ⟨k, x', by simpa using h1, by rw [← h2]; congr 1; omega, h3⟩

theorem keep_append {α : Type} (ks : List Nat) : ∀ (l r : List (Nat × α)), keep ks (l ++ r) = keep ks l ++ keep ks r
  | [], r => rfl
  | (k, x) :: l, r => by
    simp only [List.cons_append, keep]
    cases memb ks k <;> simp [keep_append ks l r]

theorem keep_eL {α : Type} {f : Act1 → List (Nat × α)} {D D' : Nat → Bool} {ks : List Nat} : ∀ (as : List Act1) (i : Nat), (∀ k x, as[k]? = some x → D (i + k) ≠ D' (i + k) → keep ks (f x) = []) → keep ks (eL f D as i) = keep ks (eL f D' as i)
  | [], _, _ => rfl
  | x :: r, i, h => by
    simp only [eL, keep_append]
    rw [keep_eL r (i + 1) (fun k y h1 h2 => h (k + 1) y (by simpa using h1) (by rw [show i + (k + 1) = i + 1 + k by omega]; exact h2))]
    congr 1
    by_cases e : D i = D' i
    · rw [e]
    · have := h 0 x (by simp) (by simpa using e)
      cases h1 : D i <;> cases h2 : D' i <;> simp_all [keep]

theorem look_eL {α : Type} {f : Act1 → List (Nat × α)} {D D' : Nat → Bool} {s : Nat} : ∀ (as : List Act1) (i : Nat), (∀ k x, as[k]? = some x → D (i + k) ≠ D' (i + k) → look (f x) s = none) → look (eL f D as i) s = look (eL f D' as i) s
  | [], _, _ => rfl
  | x :: r, i, h => by
    simp only [eL]
    rw [look_append, look_append, look_eL r (i + 1) (fun k y h1 h2 => h (k + 1) y (by simpa using h1) (by rw [show i + (k + 1) = i + 1 + k by omega]; exact h2))]
    by_cases e : D i = D' i
    · rw [e]
    · have := h 0 x (by simp) (by simpa using e)
      cases h1 : D i <;> cases h2 : D' i <;> simp_all [look]

theorem look_insert {α : Type} {f : Act1 → List (Nat × α)} {D D' : Nat → Bool} {s i : Nat} {x : Act1} (hi : D i = false) (hi' : D' i = true) (hD : ∀ k, k ≠ i → D' k = D k) :
    ∀ (as : List Act1) (j m : Nat), j + m = i → as[m]? = some x → (∀ k y, m < k → as[k]? = some y → D (j + k) = true → look (f x) s ≠ none → look (f y) s = none) →
      look (eL f D' as j) s = look (f x ++ eL f D as j) s
  | [], _, m, _, h, _ => by simp at h
  | y :: r, j, 0, hj, h, hk => by
    simp at h hj
    subst h hj
    have e : eL f D' r (j + 1) = eL f D r (j + 1) := eL_congr f r (j + 1) (fun k h1 _ => hD k (by omega))
    simp only [eL, hi, hi', e]
    rw [look_append, look_append, look_append]
    by_cases hx : look (f y) s = none
    · rw [hx]; simp [look]
    · have : look (eL f D r (j + 1)) s = none := by
        have h0 := look_eL (f := f) (D := D) (D' := fun _ => false) (s := s) r (j + 1) (fun k z h1 h2 => by
          have h3 : D (j + 1 + k) = true := by cases hh : D (j + 1 + k) <;> simp_all
          exact hk (k + 1) z (by omega) (by simpa using h1) (by rw [show j + (k + 1) = j + 1 + k by omega]; exact h3) hx)
        rw [h0]
        have : ∀ (l : List Act1) (n : Nat), eL f (fun _ => false) l n = [] := by
          intro l
          induction l with
          | nil => intro n; rfl
          | cons z l ih => intro n; simp [eL, ih]
        rw [this]; rfl
      rw [this]
      cases hy : look (f y) s with
      | none => exact absurd hy hx
      | some v => simp []
  | y :: r, j, m + 1, hj, h, hk => by
    have ih := look_insert hi hi' hD r (j + 1) m (by omega) (by simpa using h) (fun k z h1 h2 h3 h4 => hk (k + 1) z (by omega) (by simpa using h2) (by rw [show j + (k + 1) = j + 1 + k by omega]; exact h3) h4)
    simp only [eL, hD j (by omega)]
    rw [look_append, ih, look_append, look_append, look_append]
    cases look (f x) s <;> rfl

def bld (D : Nat → Bool) (as : List Act1) (rs : RS) : RS := ⟨⟨eL (·.e.sl) D as 0 ++ rs.st.sl, eL (·.e.ob) D as 0 ++ rs.st.ob⟩, eL (·.e.gl) D as 0 ++ rs.gl⟩

theorem bld_cons (D : Nat → Bool) (x : Act1) (as : List Act1) (rs : RS) (h : D 0 = true) : bld D (x :: as) rs = bld (fun k => D (k + 1)) as (addEff x.e rs) := by
  unfold bld addEff
  simp only [eL, h, eL_shift, List.append_assoc]

theorem bld_none (as : List Act1) (rs : RS) {D : Nat → Bool} (h : ∀ k, D k = false) : bld D as rs = rs := by
  have : ∀ {α : Type} (f : Act1 → List α) (l : List Act1) (n : Nat), eL f D l n = [] := by
    intro α f l
    induction l with
    | nil => intro n; rfl
    | cons z l ih => intro n; simp [eL, ih, h]
  simp [bld, this]

theorem bld_obj (D : Nat → Bool) (as : List Act1) (rs : RS) (o : Nat) : (bld D as rs).st.obj o = (match look (eL (·.e.ob) D as 0) o with | some x => x | none => rs.st.obj o) := by
  simp only [St.obj, bld]
  rw [look_append]
  cases look (eL (fun x => x.e.ob) D as 0) o <;> rfl

/-! ### What does not touch -/

theorem meets_false : ∀ (l r : List Nat), meets l r = false → ∀ k, k ∈ l → k ∉ r
  | [], r, _, k, hk => by simp at hk
  | o :: l, r, h, k, hk => by
    simp only [meets] at h
    split at h
    · cases h
    · rename_i hm
      rcases List.mem_cons.1 hk with rfl | hk
      · intro hr; rw [(memb_iff r k).2 hr] at hm; cases hm
      · exact meets_false l r h k hk

/-- 'y' only moves a value, 'x' makes nothing, and no box is near -/
structure Soft (σ : St) (nb : Bool) (x y : Act1) : Prop where
  nb : nb = true
  rwo : x.rwo = true
  mv : y.mv = true
  bf : boxFree σ y.os = true

theorem soft_spec {σ : St} {nb : Bool} {x y : Act1} (h : soft σ nb x y = true) : Soft σ nb x y := by
  unfold soft at h
  cases nb with
  | false => cases h
  | true =>
    cases h2 : x.rwo with
    | false => rw [h2] at h; cases h
    | true =>
      cases h3 : y.mv with
      | false => rw [h2, h3] at h; cases h
      | true =>
        cases h4 : boxFree σ y.os with
        | false => rw [h2, h3, h4] at h; cases h
        | true => exact ⟨rfl, h2, h3, h4⟩

theorem meetsN_false {l r : List Nat} {s : Bool} (h : meetsN l r s = false) : ∀ k, k ∈ l → k ∈ r → s = true := by
  intro k hk hr
  unfold meetsN at h
  cases hm : meets l r with
  | true =>
    rw [hm] at h
    cases s with
    | true => rfl
    | false => cases h
  | false => exact absurd hr (meets_false _ _ hm k hk)

structure NT (σ : St) (nb : Bool) (x y : Act1) : Prop where
  sl : ∀ s, s ∈ keys x.e.sl → s ∉ keys y.e.sl
  s1 : ∀ s, s ∈ keys x.e.sl → s ∉ y.slots
  s2 : ∀ s, s ∈ keys y.e.sl → s ∉ x.slots
  ws : ∀ o, o ∈ x.ws → o ∉ y.ws
  o1 : ∀ o, o ∈ x.ws → o ∈ y.names → Soft σ nb x y
  o2 : ∀ o, o ∈ y.ws → o ∈ x.names → Soft σ nb y x

theorem NT.symm {σ : St} {nb : Bool} {x y : Act1} (h : NT σ nb x y) : NT σ nb y x := ⟨fun s a b => h.sl s b a, h.s2, h.s1, fun o a b => h.ws o b a, h.o2, h.o1⟩

theorem touch_nt {σ : St} {nb : Bool} {x y : Act1} (h : touch σ nb x y = false) : NT σ nb x y := by
  unfold touch at h
  split at h
  · rename_i h1 h2 h3 h4 h5
    have h1 := meets_false _ _ h1
    exact ⟨fun s hs hm => h1 s hs (List.mem_append_left _ hm), fun s hs hm => h1 s hs (List.mem_append_right _ hm), meets_false _ _ h2, meets_false _ _ h3,
      fun o ho hm => soft_spec (meetsN_false h4 o ho hm), fun o ho hm => soft_spec (meetsN_false h5 o ho hm)⟩
  · cases h

theorem ordered1_spec {σ : St} {nb : Bool} (x : Act1) (before : List Nat) : ∀ (l : List Act1) (j : Nat), ordered1 σ nb x before l j = true → ∀ k y, l[k]? = some y → touch σ nb y x = false ∨ j + k ∈ before
  | [], _, _, k, y, h => by simp at h
  | z :: r, j, h, k, y, hk => by
    simp only [ordered1] at h
    have tail : ordered1 σ nb x before r (j + 1) = true := by
      split at h
      · split at h
        · exact h
        · cases h
      · exact h
    cases k with
    | zero =>
      simp at hk; subst hk
      split at h
      · split at h
        · rename_i hm; exact .inr (by simpa using (memb_iff _ _).1 hm)
        · cases h
      · rename_i ht; exact .inl ht
    | succ k =>
      rcases ordered1_spec x before r (j + 1) tail k y (by simpa using hk) with h' | h'
      · exact .inl h'
      · exact .inr (by rw [show j + (k + 1) = j + 1 + k by omega]; exact h')

theorem ordered_spec {σ : St} {nb : Bool} (all : List Act1) : ∀ (l : List Act1) (ps : List (List Nat)) (k : Nat), ordered σ nb all l ps k = true → ∀ m y, l[m]? = some y → ∃ p, ps[m]? = some p ∧ ∀ j x, j < k + m → all[j]? = some x → NT σ nb x y ∨ j ∈ p
  | [], _, _, _, m, y, h => by simp at h
  | _ :: _, [], _, h, _, _, _ => by simp [ordered] at h
  | z :: r, p :: ps, k, h, m, y, hm => by
    simp only [ordered] at h
    split at h
    · rename_i h1
      cases m with
      | zero =>
        simp at hm; subst hm
        refine ⟨p, by simp, fun j x hj hx => ?_⟩
        have := ordered1_spec _ _ _ _ h1 j x (by rw [List.getElem?_take_of_lt (by omega)]; exact hx)
        rcases this with h' | h'
        · exact .inl (touch_nt h')
        · exact .inr (by simpa using h')
      | succ m =>
        obtain ⟨p', e1, e2⟩ := ordered_spec all r ps (k + 1) h m y (by simpa using hm)
        exact ⟨p', by simpa using e1, fun j x hj hx => e2 j x (by omega) hx⟩
    · cases h

theorem predsOf_spec (done : List (List Nat)) : ∀ (es : List Edge) (l : List Nat), predsOf done es = some l →
    (∀ e, e ∈ es → Region.binds .any e = true → e.on < done.length) ∧ ∀ j, j ∈ l → ∃ e, e ∈ es ∧ Region.binds .any e = true ∧ (j = e.on ∨ ∃ p, done[e.on]? = some p ∧ j ∈ p)
  | [], l, h => by
    simp [predsOf] at h; subst h
    exact ⟨fun e he => by simp at he, fun j hj => by simp at hj⟩
  | e :: r, l, h => by
    simp only [predsOf] at h
    split at h
    · cases h
    rename_i l' hl'
    obtain ⟨i1, i2⟩ := predsOf_spec done r l' hl'
    split at h
    · rename_i hb
      simp at h; subst h
      refine ⟨fun e' he' hb' => ?_, fun j hj => ?_⟩
      · rcases List.mem_cons.1 he' with rfl | he'
        · rw [hb] at hb'; cases hb'
        · exact i1 e' he' hb'
      · obtain ⟨e', h1, h2, h3⟩ := i2 j hj
        exact ⟨e', List.mem_cons_of_mem _ h1, h2, h3⟩
    · rename_i hb
      split at h
      · rename_i p hp
        simp at h; subst h
        refine ⟨fun e' he' hb' => ?_, fun j hj => ?_⟩
        · rcases List.mem_cons.1 he' with rfl | he'
          · exact (List.getElem?_eq_some_iff.1 hp).1
          · exact i1 e' he' hb'
        · rcases (mem_union _ _ _).1 hj with hj | hj
          · exact ⟨e, List.mem_cons_self, hb, .inr ⟨p, hp, hj⟩⟩
          · have : j = e.on ∨ j ∈ l' := by
              split at hj
              · exact .inr hj
              · rcases List.mem_cons.1 hj with h | h
                · exact .inl h
                · exact .inr h
            rcases this with rfl | hj
            · exact ⟨e, List.mem_cons_self, hb, .inl rfl⟩
            · obtain ⟨e', h1, h2, h3⟩ := i2 j hj
              exact ⟨e', List.mem_cons_of_mem _ h1, h2, h3⟩
      · cases h

theorem allPreds_spec : ∀ (l : List Oper) (done ps : List (List Nat)), allPreds l done = some ps →
    (∃ t, ps = done ++ t) ∧ ∀ m o, l[m]? = some o → ∃ p, ps[done.length + m]? = some p ∧ predsOf (ps.take (done.length + m)) o.after.toList = some p
  | [], done, ps, h => by
    simp [allPreds] at h; subst h
    exact ⟨⟨[], by simp⟩, fun m o hm => by simp at hm⟩
  | x :: r, done, ps, h => by
    simp only [allPreds] at h
    split at h
    · rename_i p hp
      obtain ⟨⟨t, rfl⟩, i2⟩ := allPreds_spec r (done ++ [p]) ps h
      refine ⟨⟨p :: t, by simp⟩, fun m o hm => ?_⟩
      cases m with
      | zero =>
        simp at hm; subst hm
        refine ⟨p, by simp, ?_⟩
        have : (done ++ [p] ++ t).take (done.length + 0) = done := by simp
        rw [this]; exact hp
      | succ m =>
        have := i2 m o (by simpa using hm)
        simp only [List.length_append, List.length_cons, List.length_nil] at this
        rw [show done.length + (m + 1) = done.length + (0 + 1) + m by omega]
        exact this
    · cases h

end Go.X
/-
  A region in any order: sound.
-/
namespace Go.X
open Go.RowKit (Below)

/-! ### What an operation looks at -/

theorem look_keep {α : Type} (ks : List Nat) : ∀ (l : List (Nat × α)) (s : Nat) (v : α), look (keep ks l) s = some v → look l s = some v
  | [], s, v, h => by simp [keep, look] at h
  | (j, x) :: r, s, v, h => by
    simp only [keep] at h
    cases hm : memb ks j with
    | true =>
      rw [hm] at h
      simp only [look] at h ⊢
      cases hb : Nat.beq j s with
      | true => rw [hb] at h; exact h
      | false => rw [hb] at h; exact look_keep ks r s v h
    | false =>
      rw [hm] at h
      have h := look_keep ks r s v h
      simp only [look]
      cases hb : Nat.beq j s with
      | true =>
        have := Nat.eq_of_beq_eq_true hb
        subst this
        have hk : ∀ (l : List (Nat × α)), look (keep ks l) j = none := by
          intro l
          induction l with
          | nil => rfl
          | cons y l ih =>
            obtain ⟨k, z⟩ := y
            simp only [keep]
            cases hk : memb ks k with
            | false => exact ih
            | true =>
              simp only [look]
              cases hb2 : Nat.beq k j with
              | true => have := Nat.eq_of_beq_eq_true hb2; subst this; rw [hm] at hk; cases hk
              | false => exact ih
        rename_i h0
        rw [hk r] at h0; cases h0
      | false => exact h

theorem mem_keep {α : Type} (ks : List Nat) : ∀ (l : List (Nat × α)) (y : Nat × α), y ∈ keep ks l → y ∈ l ∧ y.1 ∈ ks
  | [], y, h => by simp [keep] at h
  | (j, x) :: r, y, h => by
    simp only [keep] at h
    cases hm : memb ks j with
    | true =>
      rw [hm] at h
      rcases List.mem_cons.1 h with rfl | h
      · exact ⟨List.mem_cons_self, (memb_iff _ _).1 hm⟩
      · have := mem_keep ks r y h; exact ⟨List.mem_cons_of_mem _ this.1, this.2⟩
    | false =>
      rw [hm] at h
      have := mem_keep ks r y h; exact ⟨List.mem_cons_of_mem _ this.1, this.2⟩

theorem keep_nil {α : Type} {ks : List Nat} : ∀ (l : List (Nat × α)), (∀ y, y ∈ l → y.1 ∉ ks) → keep ks l = []
  | [], _ => rfl
  | (j, x) :: r, h => by
    simp only [keep]
    cases hm : memb ks j with
    | true => exact absurd ((memb_iff _ _).1 hm) (h (j, x) List.mem_cons_self)
    | false => exact keep_nil r (fun y hy => h y (List.mem_cons_of_mem _ hy))

theorem mem_keys {α : Type} : ∀ (l : List (Nat × α)) (k : Nat), k ∈ keys l ↔ ∃ x, (k, x) ∈ l
  | [], k => by simp [keys]
  | (j, y) :: r, k => by
    simp only [keys, List.mem_cons, mem_keys r k]
    constructor
    · rintro (rfl | ⟨x, hx⟩)
      · exact ⟨y, .inl rfl⟩
      · exact ⟨x, .inr hx⟩
    · rintro ⟨x, h | h⟩
      · simp at h; exact .inl h.1
      · exact .inr ⟨x, h⟩

theorem look_none_keys {α : Type} : ∀ (l : List (Nat × α)) (k : Nat), k ∉ keys l → look l k = none
  | [], k, _ => rfl
  | (j, y) :: r, k, h => by
    simp only [keys, List.mem_cons, not_or] at h
    rw [look_cons_ne (fun e => h.1 e.symm)]
    exact look_none_keys r k h.2

theorem look_keys {α : Type} {l : List (Nat × α)} {k : Nat} (h : look l k ≠ none) : k ∈ keys l := by
  by_cases hm : k ∈ keys l
  · exact hm
  · exact absurd (look_none_keys l k hm) h

theorem mem_rlSl : ∀ (l : List (Nat × SV)) (s : Nat) (v : SV) (r : Nat), (s, v) ∈ l → r ∈ v.rl → r ∈ rlSl l
  | [], _, _, _, h, _ => by simp at h
  | (j, x) :: l, s, v, r, h, hr => by
    simp only [rlSl]
    rw [mem_union]
    rcases List.mem_cons.1 h with e | h
    · simp at e; obtain ⟨_, rfl⟩ := e; exact .inl hr
    · exact .inr (mem_rlSl l s v r h hr)
theorem mem_rlGl : ∀ (l : List (Nat × (Nat × Bool) × SV)) (s : Nat) g (v : SV) (r : Nat), (s, g, v) ∈ l → r ∈ v.rl → r ∈ rlGl l
  | [], _, _, _, _, h, _ => by simp at h
  | (j, g', x) :: l, s, g, v, r, h, hr => by
    simp only [rlGl]
    rw [mem_union]
    rcases List.mem_cons.1 h with e | h
    · simp at e; obtain ⟨_, _, rfl⟩ := e; exact .inl hr
    · exact .inr (mem_rlGl l s g v r h hr)
theorem mem_rlObs : ∀ (l : List (Nat × Option Ob)) (o T : Nat) fz cs (r : Nat), (o, some (.box T fz cs)) ∈ l → r ∈ SV.rl.rlL cs → r ∈ rlObs l
  | [], _, _, _, _, _, h, _ => by simp at h
  | (j, y) :: l, o, T, fz, cs, r, h, hr => by
    rcases List.mem_cons.1 h with e | h
    · simp at e
      obtain ⟨_, rfl⟩ := e
      simp only [rlObs, List.mem_append]
      exact .inl hr
    · have := mem_rlObs l o T fz cs r h hr
      unfold rlObs
      split
      · rename_i e; cases e
      · rename_i e; cases e; exact List.mem_append_right _ this
      · rename_i e; cases e; exact this
theorem mem_rlOb (σ : St) : ∀ (os : List Nat) (o T : Nat) fz cs (r : Nat), o ∈ os → σ.obj o = some (.box T fz cs) → r ∈ SV.rl.rlL cs → r ∈ rlOb σ os
  | [], _, _, _, _, _, h, _, _ => by simp at h
  | k :: os, o, T, fz, cs, r, h, ho, hr => by
    rcases List.mem_cons.1 h with rfl | h
    · simp only [rlOb, ho]
      rw [mem_union]; exact .inl hr
    · have := mem_rlOb σ os o T fz cs r h ho hr
      simp only [rlOb]
      split
      · rw [mem_union]; exact .inr this
      · exact this

theorem rlOb_congr {σ τ : St} : ∀ (os : List Nat), (∀ o, o ∈ os → σ.obj o = τ.obj o) → rlOb σ os = rlOb τ os
  | [], _ => rfl
  | k :: os, h => by
    simp only [rlOb, h k List.mem_cons_self, rlOb_congr os (fun o ho => h o (List.mem_cons_of_mem _ ho))]

theorem near_mem {σ : St} : ∀ (n : Nat) (os : List Nat) (o : Nat), o ∈ os → o ∈ near σ n os
  | 0, _, _, h => h
  | n + 1, _, o, h => near_mem n _ o ((mem_union _ _ _).2 (.inr h))

theorem near_congr {σ τ : St} : ∀ (n : Nat) (os : List Nat), (∀ o, o ∈ near τ n os → σ.obj o = τ.obj o) → near σ n os = near τ n os
  | 0, _, _ => rfl
  | n + 1, os, h => by
    simp only [near] at h ⊢
    have e : rlOb σ os = rlOb τ os := rlOb_congr os (fun o ho => h o (near_mem n _ o ((mem_union _ _ _).2 (.inr ho))))
    rw [e]
    exact near_congr n _ h

theorem share_congr {slots : List Nat} {r s : RS} (h1 : keep slots r.st.sl = keep slots s.st.sl) (h2 : keep slots r.gl = keep slots s.gl) (h3 : ∀ o, o ∈ (share slots s).1 → r.st.obj o = s.st.obj o) : share slots r = share slots s := by
  unfold share at h3 ⊢
  simp only at h3 ⊢
  rw [h1, h2]
  have e := near_congr (σ := r.st) (τ := s.st) 3 _ h3
  rw [e]
  congr 3
  exact List.map_congr_left fun o ho => by rw [h3 o ho]

theorem look_map (f : Nat → Option Ob) : ∀ (os : List Nat) (o : Nat), look (os.map fun k => (k, f k)) o = if o ∈ os then some (f o) else none
  | [], o => by simp [look]
  | k :: os, o => by
    simp only [List.map_cons, look]
    cases hb : Nat.beq k o with
    | true => have := Nat.eq_of_beq_eq_true hb; subst this; simp
    | false =>
      have hne : k ≠ o := beq_of_refs hb
      simp only [look_map f os o, List.mem_cons]
      by_cases hm : o ∈ os
      · simp [hm]
      · have : ¬ (o = k ∨ o ∈ os) := by rintro (h | h); exact hne h.symm; exact hm h
        rw [if_neg hm, if_neg this]

section
variable {P : Program} {B : Base} {C : Ctx} {ops : Array Oper} {Q : Exit → Act → World → Prop}

theorem share_obj (slots : List Nat) (rs : RS) (o : Nat) : (share slots rs).2.st.obj o = if o ∈ (share slots rs).1 then rs.st.obj o else none := by
  unfold share
  simp only [St.obj]
  rw [look_map]
  split <;> rename_i h <;> split at h <;> simp_all

theorem share_fit {slots : List Nat} {rs : RS} {e : Eff} (hc : closed (share slots rs).1 (share slots rs).2 e = true) : Fit P B rs (share slots rs).2 e := by
  unfold closed at hc
  split at hc
  case h_2 => cases hc
  rename_i c1 c2 c3 c4 c5
  have c1 := subsetN_iff _ _ c1
  have c2 := subsetN_iff _ _ c2
  have c3 := subsetN_iff _ _ c3
  have c4 := subsetN_iff _ _ c4
  have c5 := subsetN_iff _ _ c5
  have hobj := share_obj slots rs
  refine ⟨fun s v h => look_keep slots _ s v h, fun x hx => (mem_keep slots _ x hx).1, fun o x h => ?_, fun ρ w hS hnw => ?_⟩
  · rw [hobj] at h
    split at h
    · exact h
    · cases h
  · have eo : (share slots rs).2.st.obj = onlyO (share slots rs).1 rs.st.obj := funext fun o => by rw [hobj]; rfl
    refine ⟨⟨w, ρ.H, borOf ρ (share slots rs).1, fun _ => none, fun _ => 0⟩, onlyE (share slots rs).1 ρ, onlyE_le _ _, by rw [eo]; exact frame_in hS _, fun ρ' w' hS' hle => ?_⟩
    have hpost : ∀ o, ({ (share slots rs).2.st with ob := e.ob ++ (share slots rs).2.st.ob } : St).obj o = (match look e.ob o with | some x => x | none => (share slots rs).2.st.obj o) := by
      intro o
      simp only [St.obj]
      rw [look_append]
      cases look e.ob o <;> rfl
    obtain ⟨ρ'', q1, q2, q3⟩ := frame_out (σ := rs.st) hS (share slots rs).1 e.nw (fun d hd => (hnw d hd).2) hS' hle (fun o T fz cs ho r hr => by
      rw [hpost] at ho
      have hrl := refsL_rlL cs r hr
      split at ho
      · rename_i x hx
        subst ho
        exact List.mem_append.1 (c4 r (mem_rlObs _ o T fz cs r (look_mem _ _ _ hx) hrl))
      · have hm : o ∈ (share slots rs).1 := by
          rw [hobj] at ho
          split at ho
          · assumption
          · cases ho
        exact .inr (c1 r (mem_rlOb _ _ o T fz cs r hm ho hrl)))
    refine ⟨ρ'', ?_, q2, fun v x hv => q3 v x (fun r hr => ?_)⟩
    · have : (addEff e rs).st.obj = (fun o => if o ∈ e.nw ∨ o ∈ (share slots rs).1 then ({ (share slots rs).2.st with ob := e.ob ++ (share slots rs).2.st.ob } : St).obj o else rs.st.obj o) := funext fun o => by
        have e1 : (addEff e rs).st.obj o = (match look e.ob o with | some x => x | none => rs.st.obj o) := by
          simp only [St.obj, addEff]
          rw [look_append]
          cases look e.ob o <;> rfl
        rw [e1, hpost]
        cases hl : look e.ob o with
        | some x =>
          have hk := c5 o (look_keys (by rw [hl]; simp))
          rw [if_pos (List.mem_append.1 hk)]
        | none =>
          simp only
          rw [hobj]
          by_cases hm : o ∈ (share slots rs).1
          · rw [if_pos (.inr hm), if_pos hm]
          · rw [if_neg hm]
            by_cases hn : o ∈ e.nw
            · rw [if_pos (.inl hn)]; exact (hnw o hn).1
            · rw [if_neg (by rintro (h | h); exact hn h; exact hm h)]
      rw [this]; exact q1
    · have hrl := refs_rl v r hr
      rcases hv with ⟨s, hs⟩ | ⟨s, g, hs⟩
      · exact List.mem_append.1 (c2 r (mem_rlSl _ s v r hs hrl))
      · exact List.mem_append.1 (c3 r (mem_rlGl _ s g v r hs hrl))

end
end Go.X
