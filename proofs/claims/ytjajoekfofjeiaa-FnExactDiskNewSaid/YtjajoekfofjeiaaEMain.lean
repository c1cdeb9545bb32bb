/-
  FnExactDiskNew returns true for every input, and its arguments read as before. No conditions.
-/
import Derived.Test.YtjajoekfofjeiaaRows
import Derived.Test.YtjajoekfofjeiaaEP
import Derived.Test.YtjajoekfofjeiaaEF2
import Derived.Test.YtjajoekfofjeiaaLG
import Derived.KernelRfl
namespace Go.Proofs.Ytjajoekfofjeiaa
open Go.RowKit Go.WideShapes Go.ChangeShapes Go.ChangeAt Go.Proofs.Sx
set_option linter.unusedVariables false
set_option maxRecDepth 20000
set_option maxHeartbeats 1000000
theorem own_knob : ownKnob Try.prog.godebug = none := by kernel_rfl
theorem laid_out : laidOutB Try.prog = true := by kernel_rfl

theorem ulr4 : Try.prog.underlying 4 = some (.bool) := by kernel_rfl

set_option maxRecDepth 100000 in
theorem laws_FnExactDiskNew_lifted (os : Os) (started : os.Started) (H : Type) (enc : TypeId × Value → H) :
    ReturnsInHanded {} Try.checked os 5 .any (Rows.fnExactDiskNewSpec.pre6 enc Try.prog Try.f5 Rows.fnExactDiskNewRow.domain false) (Rows.fnExactDiskNewSpec.post enc Try.prog Try.f5 false true false false) := by
  refine returnsInHanded_of_change (C := Try.checked) own_knob started (by kernel_rfl) Try.func5
    (ChangeSpec.witness6 (enc := enc) (C := Try.checked) false ⟨#[], #[], []⟩ 8 (by kernel_rfl) (by kernel_rfl) (by kernel_rfl) (by kernel_rfl)) ?_
  intro W base args ds gs before hval0 hW _ _
  have hval : ∀ (j : Nat) t v, Try.f5.params[j]? = some t → args[j]? = some v → Value.okWide Try.prog W .any base t v := hval0
  have hW2 := hW
  obtain ⟨p, q, hA0, hV, _, _, _⟩ := hW
  have hA : DataW.TrodAll enc Try.prog W 0 (fun _ => true) true Try.f5.params.toList args.toList ds p := hA0
  obtain ⟨rfl, _⟩ := trodVars_none hV
  rw [Try.params5] at hA hval
  obtain ⟨hvn, rfl⟩ := Sx.trodAll_nil hA
  have ha : args = #[] := Array.ext' hvn
  subst ha
  obtain ⟨k, hk⟩ := laws_FnExactDiskNew_true 
  exact law_calls (s := Rows.fnExactDiskNewSpec) (fn := Try.f5) rfl hW2 laid_out (by kernel_rfl) rfl ulr4 rfl (laws_FnExactDiskNew_c  hk)

theorem laws_FnExactDiskNew_holds : Rows.FnExactDiskNewSaid :=
  OpenClaim.holds_of_wide 5 Try.f5 rfl rfl rfl rfl rfl rfl rfl ⟨rfl, rfl, rfl, rfl, rfl⟩ rfl rfl rfl rfl rfl (by kernel_rfl) Try.func5 (by kernel_rfl)
    (of_decide_eq_true (by kernel_rfl)) (by unfold Func.isWrapper; first | (rw [if_pos (by decide +kernel)]; kernel_rfl) | (rw [if_neg (by decide +kernel)]; exact ⟨rfl, rfl⟩))
    (fun os started H enc _ => laws_FnExactDiskNew_lifted os started H enc)
end Go.Proofs.Ytjajoekfofjeiaa
