/-
  FnLogsBent returns true for every input, and its arguments read as before. No conditions.
-/
import Derived.Test.YtkhommmhkeohbaaRows
import Derived.Test.YtkhommmhkeohbaaQfP
import Derived.Test.YtkhommmhkeohbaaQfF16
import Derived.Test.YtkhommmhkeohbaaLG
import Derived.KernelRfl
namespace Go.Proofs.Ytkhommmhkeohbaa
open Go.RowKit Go.WideShapes Go.ChangeShapes Go.ChangeAt Go.Proofs.Sx
set_option linter.unusedVariables false
set_option maxRecDepth 20000
set_option maxHeartbeats 1000000
theorem own_knob : ownKnob Try.prog.godebug = none := by kernel_rfl
theorem laid_out : laidOutB Try.prog = true := by kernel_rfl
theorem cz5 : Try.prog.cellsOf 5 = 1 := by kernel_rfl
theorem ulr22 : Try.prog.underlying 22 = some (.slice 5) := by kernel_rfl
theorem ulr5 : Try.prog.underlying 5 = some (.int .u8) := by kernel_rfl
theorem ulr4 : Try.prog.underlying 4 = some (.bool) := by kernel_rfl

set_option maxRecDepth 100000 in
theorem laws_FnLogsBent_lifted (os : Os) (started : os.Started) (H : Type) (enc : TypeId × Value → H) :
    ReturnsInHanded {} Try.checked os 8 .any (Rows.fnLogsBentSpec.pre6 enc Try.prog Try.f8 Rows.fnLogsBentRow.domain false) (Rows.fnLogsBentSpec.post enc Try.prog Try.f8 false true false false) := by
  refine returnsInHanded_of_change (C := Try.checked) own_knob started (by kernel_rfl) Try.func8
    (ChangeSpec.witness6 (enc := enc) (C := Try.checked) false ⟨#[], #[.slice none 0 0], []⟩ 8 (by kernel_rfl) (by kernel_rfl) (by kernel_rfl) (by kernel_rfl)) ?_
  intro W base args ds gs before hval0 hW _ _
  have hval : ∀ (j : Nat) t v, Try.f8.params[j]? = some t → args[j]? = some v → Value.okWide Try.prog W .any base t v := hval0
  have hW2 := hW
  obtain ⟨p, q, hA0, hV, _, _, _⟩ := hW
  have hA : DataW.TrodAll enc Try.prog W 0 (fun _ => true) true Try.f8.params.toList args.toList ds p := hA0
  obtain ⟨rfl, _⟩ := trodVars_none hV
  rw [Try.params8] at hA hval
  obtain ⟨v0, vs0, d0, ds0, p0, q0, hv0, rfl, h0, hB0⟩ := Sx.trodAll_cons hA
  obtain ⟨hvn, rfl⟩ := Sx.trodAll_nil hB0
  subst hvn
  have ha : args = #[v0] := Array.ext' hv0
  subst ha
  obtain ⟨fu0, hf0⟩ := h0
  have hc0 := okWide_cell (.inr (.inr ⟨_, ulr22⟩)) (hval 0 22 v0 rfl rfl)
  rw [hc0] at hf0
  obtain ⟨y0, a0, c0, e0, b0, w0⟩ : ∃ (y0 : (List Int)) (a0 : Option Addr) (c0 : Nat), [v0] = [.slice a0 y0.length c0] ∧ BorS kU8 a0 c0 y0 W.heap (Lt W Nil) ∧ (wfL wfU8) y0 := (opn_slice (K := kU8) ulr22 cz5 (by decide) (opnK_U8 ulr5)) _ _ _ hf0
  obtain rfl : v0 = _ := List.cons.inj e0 |>.1
  obtain ⟨k, hk⟩ := laws_FnLogsBent_true w0
  exact law_calls (s := Rows.fnLogsBentSpec) (fn := Try.f8) rfl hW2 laid_out (by kernel_rfl) rfl ulr4 rfl (laws_FnLogsBent_c b0 hk)

theorem laws_FnLogsBent_holds : Rows.FnLogsBentSaid :=
  OpenClaim.holds_of_wide 8 Try.f8 rfl rfl rfl rfl rfl rfl rfl ⟨rfl, rfl, rfl, rfl, rfl⟩ rfl rfl rfl rfl rfl (by kernel_rfl) Try.func8 (by kernel_rfl)
    (of_decide_eq_true (by kernel_rfl)) (by unfold Func.isWrapper; first | (rw [if_pos (by decide +kernel)]; kernel_rfl) | (rw [if_neg (by decide +kernel)]; exact ⟨rfl, rfl⟩))
    (fun os started H enc _ => laws_FnLogsBent_lifted os started H enc)
end Go.Proofs.Ytkhommmhkeohbaa
