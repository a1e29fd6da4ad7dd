/-
  'GlossesHeld' holds: for every input of bulk at most 1048576 the call returns true, and the input reads as it did.
-/
import Derived.Test.YtoijahccalbjiaaG13
namespace Go.Proofs.Ytoijahccalbjiaa.glossesHeld
open Go.ChangeShapes Go.WideShapes Go.ChangeAt Go.RowKit

theorem own : ownKnob Try.prog.godebug = none := by kernel_rfl
theorem laid : laidOutB Try.prog = true := by kernel_rfl
theorem pars : Go.X.parsOk Try.prog Try.f11.params.toList [Go.X.tF, .slice Go.X.tG, .slice Go.X.tG] = true := by kernel_rfl

set_option maxRecDepth 100000 in
theorem contract (H : Type) (enc : TypeId × Value → H) (W : World) (base : Nat) (args : Array Value) (ds gs : List (DataW H)) (before : List MemPlace)
    (hval : ∀ (j : Nat) t v, Try.f11.params[j]? = some t → args[j]? = some v → Value.okWide Try.prog W .any base t v)
    (hW : DataW.Whole enc Try.prog Try.f11.params.toList Rows.glossesHeldSpec.vars false W args.toList ds gs before) (hk : Rows.uptoSmall H (ds ++ gs) = true) :
    Calls Try.prog 11 args W fun e W' => ∃ v, e = .returned v ∧ Rows.glossesHeldSpec.post enc Try.prog Try.f11 false true false false W args v W' := by
  refine Go.X.law_contract (P := Try.prog) (K := H) (enc := enc) (W := W) (f := 11) (fn := Try.f11) (s := Rows.glossesHeldSpec) (ts := [Go.X.tF, .slice Go.X.tG, .slice Go.X.tG]) laid pars (by kernel_rfl) (by kernel_rfl) rfl (fun ds hl => ?_) Go.X.ok11 base args ds gs before hval hW hk
  match ds, hl with
  | [_, _, _], _ => rfl

set_option maxRecDepth 100000 in
theorem lifted (os : Os) (started : os.Started) (H : Type) (enc : TypeId × Value → H) (F : Stop.Interp) :
    ReturnsInHanded {} Try.checked os 11 .any ((Rows.OpenSpec.upto Rows.glossesHeldSpec).pre6 enc Try.prog Try.f11 Rows.glossesHeldUptoRow.domain false) (((Rows.OpenSpec.upto Rows.glossesHeldSpec).at F).post enc Try.prog Try.f11 false true false false) := by
  refine returnsInHanded_of_cond (C := Try.checked) (s := Rows.OpenSpec.upto Rows.glossesHeldSpec) (k := Rows.uptoSmall) rfl own started (by kernel_rfl) Try.func11
    (OpenSpec.witness (enc := enc) (C := Try.checked) (s := Rows.OpenSpec.upto Rows.glossesHeldSpec) (k := Rows.uptoSmall) rfl false
      ⟨#[], #[.agg #[.slice none 0 0, .int .i64 0], .slice none 0 0, .slice none 0 0], []⟩ 8 (by kernel_rfl) (by kernel_rfl) (by kernel_rfl)
      (x := ([.agg [.nil, .lit (.int .i64 0)], .nil, .nil], [], [])) (by kernel_rfl) rfl (by kernel_rfl)) ?_
  intro W base args ds gs before hval hW _ hk _
  exact contract H enc W base args ds gs before hval hW hk

theorem proved : Rows.GlossesHeldUptoSaid :=
  OpenClaim.holds_of_cond 11 Try.f11 rfl rfl rfl rfl rfl rfl rfl ⟨rfl, rfl, rfl, rfl, rfl⟩ rfl rfl rfl rfl rfl (by kernel_rfl) Try.func11 (by kernel_rfl)
    (of_decide_eq_true (by kernel_rfl)) (by unfold Func.isWrapper; first | (rw [if_pos (by decide +kernel)]; kernel_rfl) | (rw [if_neg (by decide +kernel)]; exact ⟨rfl, rfl⟩))
    (fun os started H enc _ F => lifted os started H enc F)
end Go.Proofs.Ytoijahccalbjiaa.glossesHeld
