/-
  FnExactGetPut returns true for every input, and its arguments read as before. No conditions.
-/
import Derived.Test.YtgfhnepkpbmbcaaRows
import Derived.Test.YtgfhnepkpbmbcaaGP
import Derived.Test.YtgfhnepkpbmbcaaGF8
import Derived.Test.YtgfhnepkpbmbcaaLG
import Derived.KernelRfl
namespace Go.Proofs.Ytgfhnepkpbmbcaa
open Go.RowKit Go.WideShapes Go.ChangeShapes Go.ChangeAt Go.Proofs.Sx
set_option linter.unusedVariables false
set_option maxRecDepth 20000
set_option maxHeartbeats 1000000
theorem own_knob : ownKnob Try.prog.godebug = none := by kernel_rfl
theorem laid_out : laidOutB Try.prog = true := by kernel_rfl
theorem cz5 : Try.prog.cellsOf 5 = 1 := by kernel_rfl
theorem ulr3 : Try.prog.underlying 3 = some (.int .i64) := by kernel_rfl
theorem ulr37 : Try.prog.underlying 37 = some (.slice 5) := by kernel_rfl
theorem ulr5 : Try.prog.underlying 5 = some (.int .u8) := by kernel_rfl
theorem ulr4 : Try.prog.underlying 4 = some (.bool) := by kernel_rfl

set_option maxRecDepth 100000 in
theorem laws_FnExactGetPut_lifted (os : Os) (started : os.Started) (H : Type) (enc : TypeId × Value → H) :
    ReturnsInHanded {} Try.checked os 10 .any (Rows.fnExactGetPutSpec.pre6 enc Try.prog Try.f10 Rows.fnExactGetPutRow.domain false) (Rows.fnExactGetPutSpec.post enc Try.prog Try.f10 false true false false) := by
  refine returnsInHanded_of_change (C := Try.checked) own_knob started (by kernel_rfl) Try.func10
    (ChangeSpec.witness6 (enc := enc) (C := Try.checked) false ⟨#[], #[.int .i64 0, .slice none 0 0], []⟩ 8 (by kernel_rfl) (by kernel_rfl) (by kernel_rfl) (by kernel_rfl)) ?_
  intro W base args ds gs before hval0 hW _ _
  have hval : ∀ (j : Nat) t v, Try.f10.params[j]? = some t → args[j]? = some v → Value.okWide Try.prog W .any base t v := hval0
  have hW2 := hW
  obtain ⟨p, q, hA0, hV, _, _, _⟩ := hW
  have hA : DataW.TrodAll enc Try.prog W 0 (fun _ => true) true Try.f10.params.toList args.toList ds p := hA0
  obtain ⟨rfl, _⟩ := trodVars_none hV
  rw [Try.params10] at hA hval
  obtain ⟨v0, vs0, d0, ds0, p0, q0, hv0, rfl, h0, hB0⟩ := Sx.trodAll_cons hA
  obtain ⟨v1, vs1, d1, ds1, p1, q1, hv1, rfl, h1, hB1⟩ := Sx.trodAll_cons hB0
  subst hv1
  obtain ⟨hvn, rfl⟩ := Sx.trodAll_nil hB1
  subst hvn
  have ha : args = #[v0, v1] := Array.ext' hv0
  subst ha
  obtain ⟨fu0, hf0⟩ := h0
  have hc0 := okWide_cell (.inl ⟨_, ulr3⟩) (hval 0 3 v0 rfl rfl)
  rw [hc0] at hf0
  obtain ⟨y0, e0, w0⟩ : ∃ y0, [v0] = [.int .i64 y0] ∧ wfI y0 := (opn_i64 ulr3) _ _ _ hf0
  obtain rfl : v0 = _ := List.cons.inj e0 |>.1
  obtain ⟨fu1, hf1⟩ := h1
  have hc1 := okWide_cell (.inr (.inr ⟨_, ulr37⟩)) (hval 1 37 v1 rfl rfl)
  rw [hc1] at hf1
  obtain ⟨y1, a1, c1, e1, b1, w1⟩ : ∃ (y1 : (List Int)) (a1 : Option Addr) (c1 : Nat), [v1] = [.slice a1 y1.length c1] ∧ BorS kU8 a1 c1 y1 W.heap (Lt W Nil) ∧ (wfL wfU8) y1 := (opn_slice (K := kU8) ulr37 cz5 (by decide) (opnK_U8 ulr5)) _ _ _ hf1
  obtain rfl : v1 = _ := List.cons.inj e1 |>.1
  obtain ⟨k, hk⟩ := laws_FnExactGetPut_true w0 w1
  exact law_calls (s := Rows.fnExactGetPutSpec) (fn := Try.f10) rfl hW2 laid_out (by kernel_rfl) rfl ulr4 rfl (laws_FnExactGetPut_c b1 hk)

theorem laws_FnExactGetPut_holds : Rows.FnExactGetPutSaid :=
  OpenClaim.holds_of_wide 10 Try.f10 rfl rfl rfl rfl rfl rfl rfl ⟨rfl, rfl, rfl, rfl, rfl⟩ rfl rfl rfl rfl rfl (by kernel_rfl) Try.func10 (by kernel_rfl)
    (of_decide_eq_true (by kernel_rfl)) (by unfold Func.isWrapper; first | (rw [if_pos (by decide +kernel)]; kernel_rfl) | (rw [if_neg (by decide +kernel)]; exact ⟨rfl, rfl⟩))
    (fun os started H enc _ => laws_FnExactGetPut_lifted os started H enc)
end Go.Proofs.Ytgfhnepkpbmbcaa
