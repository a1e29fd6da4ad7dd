/-
  From a law's arguments, as the statement reads them, to typed data; from the law's result back to the statement.
-/
import Derived.Test.YtafidkjlgchbbaaGreatK5
import Derived.Test.YtafidkjlgchbbaaGreatRows
import Derived.WalkKit
import Derived.ProofKit
import Derived.OpenShut
import Derived.JoinedCond
import Derived.Carry
import Derived.ChangeArms
namespace Go.X
open Go.RowKit (Below)
open Go.Proofs.YtafidkjlgchbbaaGreat

def Hof (w : World) : Imm := fun b => match w.heap[b]? with | some (.cells c _ _) => some (.cells c) | _ => none

theorem good_Hof (w : World) : Good (Hof w) w := by
  intro b c h
  unfold Hof at h
  split at h
  · rename_i c' T fr e; simp at h; subst h; exact ⟨T, fr, e⟩
  · cases h

/-- how large data are: each integer fits its kind; no list is longer than 'N' -/
def Ty.fits (N : Nat) : (t : Ty) → t.Data → Prop
  | .int, x => In64 x
  | .bool, _ => True
  | .uint k, x => k.min ≤ x ∧ x ≤ k.max
  | .slice t, l => l.length ≤ N ∧ ∀ x ∈ l, t.fits N x
  | .unit, _ => True
  | .pair a b, d => a.fits N d.1 ∧ b.fits N d.2
  | .map k v, l => l.length ≤ N ∧ ∀ x ∈ l, k.fits N x.1 ∧ v.fits N x.2

theorem Ty.fits_mono {N M : Nat} (h : N ≤ M) : ∀ (t : Ty) (d : t.Data), t.fits N d → t.fits M d
  | .int, _, k => k
  | .bool, _, k => k
  | .uint _, _, k => k
  | .unit, _, k => k
  | .slice t, _, k => ⟨Nat.le_trans k.1 h, fun x hx => t.fits_mono h x (k.2 x hx)⟩
  | .pair a b, _, k => ⟨a.fits_mono h _ k.1, b.fits_mono h _ k.2⟩
  | .map k v, _, q => ⟨Nat.le_trans q.1 h, fun x hx => ⟨k.fits_mono h _ (q.2 x hx).1, v.fits_mono h _ (q.2 x hx).2⟩⟩

def rdFs (P : Program) (go : Nat → Ty → Bool) : List Field → Nat → Ty → Bool
  | [], _, .unit => true
  | f :: fs, off, .pair a b => Nat.beq f.offset off && Nat.beq (P.cellsOf f.type) a.size && go f.type a && rdFs P go fs (off + a.size) b
  | _, _, _ => false

def rdOk (P : Program) : Nat → Nat → Ty → Bool
  | 0, _, _ => false
  | d + 1, T, ty => match ty, P.underlying T with
    | .int, some (.int .i64) => true
    | .bool, some .bool => true
    | .uint k, some (.int k') => sameKind k k'
    | .slice t, some (.slice e) => Nat.beq (P.cellsOf e) t.size && Nat.ble 1 t.size && rdOk P d e t
    | .pair a b, some (.struct fs) => Nat.beq (P.cellsOf T) (Ty.pair a b).size && rdFs P (rdOk P d) fs.toList 0 (.pair a b)
    | _, _ => false

section
variable {P : Program} {K : Type} {enc : TypeId × Value → K} {w : World}

theorem one_le (d : DataW K) : 1 ≤ Rows.uptoBulk d := by
  cases d with
  | lit l => cases l <;> simp [Rows.uptoBulk]
  | _ => simp [Rows.uptoBulk]

theorem length_le (l : List (DataW K)) : l.length ≤ Rows.uptoBulkAll l := by
  induction l with
  | nil => simp [Rows.uptoBulkAll]
  | cons x r ih => have := one_le x; simp only [Rows.uptoBulkAll, List.length_cons]; omega

theorem part_le {d : DataW K} {l : List (DataW K)} (h : d ∈ l) : Rows.uptoBulk d ≤ Rows.uptoBulkAll l := by
  induction l with
  | nil => cases h
  | cons x r ih =>
    simp only [Rows.uptoBulkAll]
    cases List.mem_cons.1 h with
    | inl e => subst e; omega
    | inr e => have := ih e; omega

theorem list_of {α : Type} {Q : Nat → α → Prop} : ∀ (n : Nat), (∀ i, i < n → ∃ y, Q i y) → ∃ l : List α, l.length = n ∧ ∀ i y, l[i]? = some y → Q i y
  | 0, _ => ⟨[], rfl, fun i y h => by simp at h⟩
  | n + 1, h => by
    obtain ⟨l, h1, h2⟩ := list_of n (fun i hi => h i (by omega))
    obtain ⟨y, hy⟩ := h n (by omega)
    refine ⟨l ++ [y], by simp [h1], fun i z hz => ?_⟩
    by_cases hi : i < l.length
    · rw [List.getElem?_append_left hi] at hz; exact h2 i z hz
    · rw [List.getElem?_append_right (by omega)] at hz
      have : i = n := by
        by_cases e : i - l.length = 0
        · omega
        · obtain ⟨k, hk⟩ : ∃ k, i - l.length = k + 1 := ⟨i - l.length - 1, by omega⟩
          rw [hk] at hz; simp at hz
      subst this
      rw [← h1] at hz
      simp at hz; subst hz
      exact hy

def Reads (P : Program) (w : World) (enc : TypeId × Value → K) (T : Nat) (ty : Ty) : Prop :=
  ∀ (fuel : Nat) (cs : List Value) (x : DataW K × List MemPlace), DataW.trod enc P w 0 (fun _ => true) true fuel T cs = some x → Rows.uptoBulk x.1 ≤ 1048576 →
    ∃ d : ty.Data, ty.rd (Hof w) (fun i => cs[i]?) d ∧ cs.length = ty.size ∧ ty.fits (Rows.uptoBulk x.1) d

theorem wf_i64 {n : Int} (h : (Lit.int .i64 n).wf = true) : In64 n := by
  simp [Lit.wf, IntKind.min, IntKind.max, IntKind.signed, IntKind.bits] at h
  exact h

theorem reads_fields {go : Nat → Ty → Bool} (hgo : ∀ T ty, go T ty = true → Reads P w enc T ty) {n : Nat} {cs : List Value} :
    ∀ (fs : List Field) (off : Nat) (ty : Ty) (xs : List (DataW K × List MemPlace)), rdFs P go fs off ty = true → xs.length = fs.length →
      (∀ (i : Nat) (f : Field), fs[i]? = some f → DataW.trod enc P w 0 (fun _ => true) true n f.type ((cs.drop f.offset).take (P.cellsOf f.type)) = xs[i]?) → Rows.uptoBulkAll (xs.map (·.1)) ≤ 1048576 →
      ∃ d : ty.Data, ty.rd (Hof w) (fun i => cs[off + i]?) d ∧ ty.fits (Rows.uptoBulkAll (xs.map (·.1))) d
  | [], off, ty, xs, h, hl, hf, hb => by
    cases ty <;> simp [rdFs] at h
    exact ⟨(), trivial, trivial⟩
  | f :: fs, off, ty, [], h, hl, hf, hb => by simp at hl
  | f :: fs, off, ty, x :: xs, h, hl, hf, hb => by
    cases ty <;> simp [rdFs] at h
    rename_i a b
    obtain ⟨⟨⟨h1, h2⟩, h3⟩, h4⟩ := h
    simp only [List.map_cons, Rows.uptoBulkAll] at hb
    have h0 := hf 0 f (by simp)
    simp only [List.getElem?_cons_zero] at h0
    obtain ⟨d, k1, k2, k3⟩ := hgo _ _ h3 _ _ _ h0 (by omega)
    obtain ⟨d', g1, g2⟩ := reads_fields hgo fs (off + a.size) b xs h4 (by simpa using hl) (fun i f' hi => by simpa using hf (i + 1) f' (by simpa using hi)) (by omega)
    refine ⟨(d, d'), ⟨?_, ?_⟩, ?_, ?_⟩
    · refine Ty.rd_congr a _ _ _ (fun i hi => ?_) k1
      rw [List.getElem?_take_of_lt (by omega), List.getElem?_drop, h1]
    · refine Ty.rd_congr b _ _ _ (fun i hi => ?_) g1
      rw [Nat.add_assoc]
    · exact a.fits_mono (by simp [Rows.uptoBulkAll]) _ k3
    · exact b.fits_mono (by simp [Rows.uptoBulkAll]) _ g2

theorem reads_sound : ∀ (d T : Nat) (ty : Ty), rdOk P d T ty = true → Reads P w enc T ty
  | 0, _, _, h => by cases h
  | d + 1, T, ty, h => by
    intro fuel cs x hx hbulk
    unfold rdOk at h
    split at h
    · rename_i hu
      obtain ⟨n, rfl, rfl, hw⟩ := DataW.trod_int hu hx
      exact ⟨n, rfl, rfl, wf_i64 hw⟩
    · rename_i hu
      obtain ⟨b, rfl, rfl⟩ := DataW.trod_bool hu hx
      exact ⟨b, rfl, rfl, trivial⟩
    · rename_i k k' hu
      obtain ⟨n, rfl, rfl, hw⟩ := DataW.trod_int hu hx
      have : k = k' := by simpa [sameKind] using h
      subst this
      refine ⟨n, rfl, rfl, ?_⟩
      simp [Lit.wf] at hw
      exact hw
    · rename_i t e hu
      simp only [Bool.and_eq_true] at h
      obtain ⟨⟨h1, h2⟩, h3⟩ := h
      have e1 := Nat.eq_of_beq_eq_true h1
      have e2 := Nat.le_of_ble_eq_true h2
      rcases DataW.trod_slice hu hx with ⟨rfl, rfl⟩ | ⟨a, len, cap, elems, rest, n, _, rfl, rfl, hb, hl, hm, hlen, hel, _, _⟩
      · refine ⟨[], ⟨none, 0, 0, rfl, rfl, Nat.le_refl _, by simp, fun _ => rfl, fun h => absurd rfl h⟩, rfl, by simp, fun x hx => by simp at hx⟩
      · simp only [Rows.uptoBulk] at hbulk
        have key : ∀ i, i < len → ∃ y : t.Data, (∃ blk, Hof w a.block = some (.cells blk) ∧ a.spot = none ∧ t.rd (Hof w) (fun j => blk[a.off + i * t.size + j]?) y) ∧ t.fits (Rows.uptoBulkAll (elems.map (·.1))) y := by
          intro i hi
          have h0 := hel i hi
          have hxi : elems[i]? = some elems[i] := List.getElem?_eq_getElem (by omega)
          rw [hxi, Option.bind_eq_some_iff] at h0
          obtain ⟨cl, c1, c2⟩ := h0
          have hle : Rows.uptoBulk elems[i].1 ≤ Rows.uptoBulkAll (elems.map (·.1)) := part_le (List.mem_map.2 ⟨elems[i], List.getElem_mem _, rfl⟩)
          obtain ⟨y, y1, y2, y3⟩ := reads_sound d e t h3 _ _ _ c2 (by omega)
          unfold World.cells? at c1
          rw [if_pos (Nat.zero_le _), e1] at c1
          have hget : ∀ j, j < t.size → w.cell? ((a.add (i * t.size)).add j) = cl[j]? := fun j hj => by
            have := mapM_some_get c1 j j (by simp [hj])
            simpa using this
          have hclen : cl.length = t.size := by simpa using mapM_some_length c1
          have c00 := hget 0 (by omega)
          have hne : cl[0]? ≠ none := by rw [List.getElem?_eq_getElem (by omega)]; simp
          rw [← c00] at hne
          -- the block
          have hblk : ∃ blk T fr, w.heap[a.block]? = some (.cells blk T fr) := by
            unfold World.cell? at hne
            have hbk : ((a.add (i * t.size)).add 0).block = a.block := by unfold Addr.add; simp; split <;> rfl
            rw [hbk] at hne
            split at hne
            · rename_i c T fr e; exact ⟨c, T, fr, e⟩
            · exact absurd rfl hne
          obtain ⟨blk, T', fr, hblk⟩ := hblk
          have hspot0 : ((a.add (i * t.size)).add 0).spot = none := by
            unfold World.cell? at hne
            have hbk : ((a.add (i * t.size)).add 0).block = a.block := by unfold Addr.add; simp; split <;> rfl
            rw [hbk, hblk] at hne
            simp only at hne
            cases hs : ((a.add (i * t.size)).add 0).spot with
            | none => rfl
            | some s => rw [hs] at hne; simp at hne
          have hH : Hof w a.block = some (.cells blk) := by unfold Hof; rw [hblk]
          refine ⟨y, ⟨blk, hH, ?_, ?_⟩, t.fits_mono hle _ y3⟩
          · -- the first element shows that the address is plain
            have h00 := hel 0 (by omega)
            have hx0 : elems[0]? = some elems[0] := List.getElem?_eq_getElem (by omega)
            rw [hx0, Option.bind_eq_some_iff] at h00
            obtain ⟨cl0, d1, _⟩ := h00
            unfold World.cells? at d1
            rw [if_pos (Nat.zero_le _), e1] at d1
            have g0 := mapM_some_get d1 0 0 (by rw [List.getElem?_range (by omega)])
            have hl0 : cl0.length = t.size := by simpa using mapM_some_length d1
            rw [List.getElem?_eq_getElem (by omega)] at g0
            simp only [Nat.zero_mul] at g0
            have ea : (a.add 0).add 0 = a := by unfold Addr.add; simp
            rw [ea] at g0
            unfold World.cell? at g0
            rw [hblk] at g0
            simp only at g0
            cases hs : a.spot with
            | none => rfl
            | some s => rw [hs] at g0; simp at g0
          · refine Ty.rd_congr t _ _ _ (fun j hj => ?_) y1
            rw [← hget j hj]
            unfold World.cell?
            have hbk : ((a.add (i * t.size)).add j).block = a.block := by unfold Addr.add; split <;> split <;> rfl
            have hoff : ((a.add (i * t.size)).add j).off = a.off + i * t.size + j := by
              unfold Addr.add; split <;> split <;> simp_all
            have hsp : ((a.add (i * t.size)).add j).spot = none := by
              have hs0 : (a.add (i * t.size)).spot = none := by
                have : (a.add (i * t.size)).add 0 = a.add (i * t.size) := by simp [Addr.add]
                rw [this] at hspot0; exact hspot0
              unfold Addr.add at hs0 ⊢
              split <;> split <;> simp_all
            rw [hbk, hblk, hoff, hsp]
            simp
        obtain ⟨l, l1, l2⟩ := list_of len key
        refine ⟨l, ⟨some a, len, cap, rfl, l1.symm, hl, ?_, (fun h => by cases h), fun hne => ?_⟩, rfl, ?_, ?_⟩
        · have := length_le (elems.map (·.1)); simp at this; omega
        · have hz : 0 < l.length := List.length_pos_iff.2 hne
          obtain ⟨blk, q1, q2, _⟩ := (l2 0 l[0] (List.getElem?_eq_getElem hz)).1
          refine ⟨a.block, a.off, blk, ?_, q1, fun i y hy => ?_⟩
          · rcases a with ⟨b, o, s⟩; simp only at q2; subst q2; rfl
          · obtain ⟨blk', q3, _, q4⟩ := (l2 i y hy).1
            rw [q1] at q3
            simp at q3; subst q3
            exact q4
        · simp only [Rows.uptoBulk]
          have := length_le (elems.map (·.1))
          simp at this
          omega
        · intro y hy
          obtain ⟨i, hi⟩ := List.getElem?_of_mem hy
          exact t.fits_mono (by simp only [Rows.uptoBulk]; omega) _ (l2 i y hi).2
    · rename_i a b fs hu
      simp only [Bool.and_eq_true] at h
      obtain ⟨h1, h2⟩ := h
      obtain ⟨xs, n, _, rfl, hlen, hxl, hf⟩ := DataW.trod_struct hu hx
      simp only [Rows.uptoBulk] at hbulk
      obtain ⟨y, y1, y2⟩ := reads_fields (fun T ty h => reads_sound d T ty h) (n := n) (cs := cs) fs.toList 0 (.pair a b) xs h2 (by simpa using hxl) (fun i f hi => hf i f (by simpa using hi)) (by omega)
      refine ⟨y, by simpa using y1, by rw [hlen]; exact Nat.eq_of_beq_eq_true h1, ?_⟩
      exact Ty.fits_mono (by simp only [Rows.uptoBulk]; omega) (.pair a b) _ y2
    · cases h

end
end Go.X
/-
  A law's contract, as its statement wants it, from what is known of its calls.
-/
namespace Go.X
open Go.RowKit (Below)
open Go.ChangeShapes Go.WideShapes Go.ChangeAt Go.RowKit
open Go.Proofs.YtafidkjlgchbbaaGreat

def fitsAll (N : Nat) : (ts : List Ty) → PD (ts.map Par.val) → Prop
  | [], _ => True
  | t :: ts, d => t.fits N d.1 ∧ fitsAll N ts d.2

/-- a law: it returns true -/
def lawSpec (ts : List Ty) : Spec := ⟨ts.map Par.val, [.bool], false, fun d => [fitsAll 1048576 ts d], fun _ => (true, ())⟩

def parsOk (P : Program) : List Nat → List Ty → Bool
  | [], [] => true
  | T :: Ts, t :: ts => rdOk P 20 T t && (P.readableRec T && decide (T < P.types.size)) && parsOk P Ts ts
  | _, _ => false

section
variable {P : Program} {K : Type} {enc : TypeId × Value → K} {W W' : World}

theorem trodAll_below (hl : laidOutB P = true) (hb : Below W.heap.size W W') : ∀ (Ts : List Nat) (ts : List Ty) (vs : List Value) (ds : List (DataW K)) (ps : List MemPlace), parsOk P Ts ts = true →
    DataW.TrodAll enc P W 0 (fun _ => true) true Ts vs ds ps → (∀ x ∈ ps, x.block < W.heap.size) → DataW.TrodAll enc P W' 0 (fun b => decide (b < W.heap.size)) true Ts vs ds ps
  | [], ts, vs, ds, ps, _, h, _ => by
    obtain ⟨rfl, rfl, rfl⟩ := trodAll_nil h
    exact trodAll_mk0
  | T :: Ts, [], vs, ds, ps, hp, _, _ => by cases hp
  | T :: Ts, t :: ts, vs, ds, ps, hp, h, hlt => by
    obtain ⟨v, vs', d, ds', p, q, rfl, rfl, rfl, h1, h2⟩ := trodAll_cons h
    simp only [parsOk, Bool.and_eq_true] at hp
    obtain ⟨⟨_, g1, g2⟩, g3⟩ := hp
    exact trodAll_cons_mk (Below.trod hl g1 (of_decide_eq_true g2) h1 hb (fun x hx => hlt x (List.mem_append_left _ hx)))
      (trodAll_below hl hb Ts ts vs' ds' q g3 h2 (fun x hx => hlt x (List.mem_append_right _ hx)))

theorem aggV_of {T : Nat} {t : Ty} {r : Reach} {b0 : Nat} {v : Value} (h : rdOk P 20 T t = true) (hv : Value.okWide P W r b0 T v) : isAggV v = t.agg := by
  unfold rdOk at h
  split at h
  · rename_i hu; obtain ⟨n, rfl⟩ := okWide_int hu hv; rfl
  · rename_i hu; obtain ⟨n, rfl⟩ := okWide_bool hu hv; rfl
  · rename_i hu; obtain ⟨n, rfl⟩ := okWide_int hu hv; rfl
  · rename_i hu
    unfold Value.okWide at hv
    rw [hu] at hv
    simp only [Cell.okWide, hu] at hv
    cases v with
    | agg vs => simp [Cell.ok, hu] at hv
    | _ => rfl
  · rename_i hu
    unfold Value.okWide at hv
    rw [hu] at hv
    obtain ⟨cs, rfl, _⟩ := hv
    rfl
  · cases h

theorem pvs_of {r : Reach} {b0 : Nat} : ∀ (Ts : List Nat) (ts : List Ty) (vs : List Value) (ds : List (DataW K)) (ps : List MemPlace), parsOk P Ts ts = true →
    DataW.TrodAll enc P W 0 (fun _ => true) true Ts vs ds ps → (∀ (j : Nat) t v, Ts[j]? = some t → vs[j]? = some v → Value.okWide P W r b0 t v) → Rows.uptoBulkAll ds ≤ 1048576 →
    ∃ d : PD (ts.map Par.val), pvs P (Hof W) (ts.map Par.val) vs d ∧ fitsAll 1048576 ts d
  | [], ts, vs, ds, ps, hp, h, _, _ => by
    obtain ⟨rfl, rfl, rfl⟩ := trodAll_nil h
    cases ts with
    | nil => exact ⟨(), rfl, trivial⟩
    | cons t ts => cases hp
  | T :: Ts, [], vs, ds, ps, hp, _, _, _ => by cases hp
  | T :: Ts, t :: ts, vs, ds, ps, hp, h, hv, hb => by
    obtain ⟨v, vs', d, ds', p, q, rfl, rfl, rfl, h1, h2⟩ := trodAll_cons h
    simp only [parsOk, Bool.and_eq_true] at hp
    obtain ⟨⟨g0, _⟩, g3⟩ := hp
    simp only [Rows.uptoBulkAll] at hb
    obtain ⟨fuel, hf⟩ := h1
    obtain ⟨x, x1, x2, x3⟩ := reads_sound 20 T t g0 fuel _ _ hf (by simp only; omega)
    obtain ⟨y, y1, y2⟩ := pvs_of Ts ts vs' ds' q g3 h2 (fun j t v hj hvj => hv (j + 1) t v (by simpa using hj) (by simpa using hvj)) (by omega)
    refine ⟨(x, y), ⟨⟨aggV_of g0 (hv 0 T v rfl rfl), by simpa using x2, ?_⟩, y1⟩, Ty.fits_mono (by simp only; omega) t x x3, y2⟩
    refine Ty.rd_congr t _ _ _ (fun i _ => ?_) x1
    simp

theorem trodAll_len : ∀ (Ts : List Nat) (ts : List Ty) (vs : List Value) (ds : List (DataW K)) (ps : List MemPlace), parsOk P Ts ts = true → DataW.TrodAll enc P W 0 (fun _ => true) true Ts vs ds ps → ds.length = ts.length := by
  intro Ts
  induction Ts with
  | nil => intro ts vs ds ps hp h; obtain ⟨rfl, rfl, rfl⟩ := trodAll_nil h; cases ts with | nil => rfl | cons => cases hp
  | cons T Ts ih => intro ts vs ds ps hp h; cases ts with
    | nil => cases hp
    | cons t ts =>
      obtain ⟨v, vs', d, ds', p, q, rfl, rfl, rfl, h1, h2⟩ := trodAll_cons h
      simp only [parsOk, Bool.and_eq_true] at hp
      simp [ih ts vs' ds' q hp.2 h2]

theorem law_contract {f : Nat} {fn : Func} {s : ChangeSpec} {ts : List Ty} (hl : laidOutB P = true) (hp : parsOk P fn.params.toList ts = true) (hr : fn.resultTypes = #[4]) (hB : P.underlying 4 = some .bool)
    (hvars : s.vars = []) (hs : ∀ (ds : List (DataW K)), ds.length = ts.length → s.fn K (ds ++ []) = { results := [.lit (.bool true)], args := ds })
    (hf : FnOK P f (lawSpec ts)) (base : Nat) (args : Array Value) (ds gs : List (DataW K)) (before : List MemPlace)
    (hval : ∀ (j : Nat) t v, fn.params[j]? = some t → args[j]? = some v → Value.okWide P W .any base t v)
    (hW : DataW.Whole enc P fn.params.toList s.vars false W args.toList ds gs before) (hk : Rows.uptoSmall K (ds ++ gs) = true) :
    Calls P f args W fun e W' => ∃ v, e = .returned v ∧ s.post enc P fn false true false false W args v W' := by
  have hW' := hW
  obtain ⟨p, q, hA, hV, rfl, hfz, hnd⟩ := hW
  rw [hvars] at hV
  obtain ⟨rfl, rfl⟩ := trodVars_none hV
  simp only [List.append_nil] at hW' hk
  have hbulk : Rows.uptoBulkAll ds ≤ 1048576 := of_decide_eq_true hk
  have hval' : ∀ (j : Nat) t v, fn.params.toList[j]? = some t → args.toList[j]? = some v → Value.okWide P W .any base t v := fun j t v h1 h2 => hval j t v (by simpa using h1) (by simpa using h2)
  obtain ⟨d, d1, d2⟩ := pvs_of fn.params.toList ts args.toList ds p hp hA hval' hbulk
  have hc := hf.calls (Hof W) W args.toList d (good_Hof W) d1 ⟨d2, trivial⟩
  simp only [Array.toArray_toList] at hc
  refine hc.mono fun e W' he => ?_
  obtain ⟨v, H', rfl, hE, hv⟩ := he
  have hvb : v = .bool true := bool_of_rv hv
  subst hvb
  refine ⟨_, rfl, ds, [], p, [], p, [], hW', ?_, ?_, ?_, hE.below.frame _, fun h => by cases h⟩
  · rw [hs ds ?_, hr]
    · exact trodAll_cons_mk (shut_bool hB _) trodAll_mk0
    · exact trodAll_len _ _ _ _ _ hp hA
  · rw [hs ds ?_]
    · exact trodAll_below hl hE.below _ ts _ _ _ hp hA (fun x hx => by simpa using hW'.lt x hx)
    · exact trodAll_len _ _ _ _ _ hp hA
  · rw [hvars, hs ds ?_]
    · rfl
    · exact trodAll_len _ _ _ _ _ hp hA

end
end Go.X
