/-
  FnExactCut returns true for every input, and its arguments read as before. No conditions.
-/
import Derived.Test.YteeiibdkpdaniaaRows
import Derived.Test.YteeiibdkpdaniaaUP
import Derived.Test.YteeiibdkpdaniaaUF5
import Derived.Test.YteeiibdkpdaniaaLG
import Derived.KernelRfl
namespace Go.Proofs.Yteeiibdkpdaniaa
open Go.RowKit Go.WideShapes Go.ChangeShapes Go.ChangeAt Go.Proofs.Sx
set_option linter.unusedVariables false
set_option maxRecDepth 20000
set_option maxHeartbeats 1000000
theorem own_knob : ownKnob Try.prog.godebug = none := by kernel_rfl
theorem laid_out : laidOutB Try.prog = true := by kernel_rfl
theorem cz146 : Try.prog.cellsOf 146 = 3 := by kernel_rfl
theorem cz141 : Try.prog.cellsOf 141 = 5 := by kernel_rfl
theorem cz139 : Try.prog.cellsOf 139 = 4 := by kernel_rfl
theorem cz3 : Try.prog.cellsOf 3 = 1 := by kernel_rfl
theorem cz53 : Try.prog.cellsOf 53 = 2 := by kernel_rfl
theorem cz4 : Try.prog.cellsOf 4 = 1 := by kernel_rfl
theorem cz51 : Try.prog.cellsOf 51 = 1 := by kernel_rfl
theorem cz80 : Try.prog.cellsOf 80 = 2 := by kernel_rfl
theorem cz78 : Try.prog.cellsOf 78 = 1 := by kernel_rfl
theorem ulr3 : Try.prog.underlying 3 = some (.int .i64) := by kernel_rfl
theorem ulr78 : Try.prog.underlying 78 = some (.slice 146) := by kernel_rfl
theorem ulr4 : Try.prog.underlying 4 = some (.bool) := by kernel_rfl
theorem ulr51 : Try.prog.underlying 51 = some (.slice 141) := by kernel_rfl
theorem opK139 {H : Type} {enc : TypeId × Value → H} {W : World} : OpnK enc Try.prog W 139 kTBox wfTBox := by
  intro fuel cs x h
  have hl := opn_len Try.underlying139 h cz139
  obtain ⟨y0, e0, w0⟩ : ∃ y0, (cs.drop 0).take 1 = [.int .i64 y0] ∧ wfI y0 := opn_field Try.underlying139 h 0 rfl cz3 (opn_i64 ulr3)
  obtain ⟨y1, e1, w1⟩ : ∃ y1, (cs.drop 1).take 1 = [.int .i64 y1] ∧ wfI y1 := opn_field Try.underlying139 h 1 rfl cz3 (opn_i64 ulr3)
  obtain ⟨y2, e2, w2⟩ : ∃ y2, (cs.drop 2).take 1 = [.int .i64 y2] ∧ wfI y2 := opn_field Try.underlying139 h 2 rfl cz3 (opn_i64 ulr3)
  obtain ⟨y3, e3, w3⟩ : ∃ y3, (cs.drop 3).take 1 = [.int .i64 y3] ∧ wfI y3 := opn_field Try.underlying139 h 3 rfl cz3 (opn_i64 ulr3)
  have k0 := chunk cs 0 1
  have k1 := chunk cs 1 1
  have k2 := chunk cs 2 1
  have k3 := chunk cs 3 1
  have k4 : cs.drop 4 = [] := List.drop_of_length_le (by omega)
  rw [show 0 + 1 = 1 from rfl] at k0
  rw [show 1 + 1 = 2 from rfl] at k1
  rw [show 2 + 1 = 3 from rfl] at k2
  rw [show 3 + 1 = 4 from rfl] at k3
  exact ⟨⟨y0, y1, y2, y3⟩, (by show cs.drop 0 = _; rw [k0, e0, k1, e1, k2, e2, k3, e3, k4]; rfl), ⟨w0, w1, w2, w3⟩⟩
theorem opK141 {H : Type} {enc : TypeId × Value → H} {W : World} : OpnK enc Try.prog W 141 kTEntry wfTEntry := by
  intro fuel cs x h
  have hl := opn_len Try.underlying141 h cz141
  obtain ⟨y0, e0, w0⟩ : ∃ y0, (cs.drop 0).take 1 = [.int .i64 y0] ∧ wfI y0 := opn_field Try.underlying141 h 0 rfl cz3 (opn_i64 ulr3)
  obtain ⟨y1, e1, w1⟩ : ∃ y1 : TBox, (cs.drop 1).take 4 = encTBox y1 ∧ wfTBox y1 := opn_field Try.underlying141 h 1 rfl cz139 opK139
  have k0 := chunk cs 0 1
  have k1 := chunk cs 1 4
  have k2 : cs.drop 5 = [] := List.drop_of_length_le (by omega)
  rw [show 0 + 1 = 1 from rfl] at k0
  rw [show 1 + 4 = 5 from rfl] at k1
  exact ⟨⟨y0, y1⟩, (by show cs.drop 0 = _; rw [k0, e0, k1, e1, k2]; rfl), ⟨w0, w1⟩⟩
theorem opK53 {H : Type} {enc : TypeId × Value → H} {W : World} : OpnK enc Try.prog W 53 kTNode wfTNode := by
  intro fuel cs x h
  have hl := opn_len Try.underlying53 h cz53
  obtain ⟨y0, e0, w0⟩ : ∃ y0, (cs.drop 0).take 1 = [.bool y0] ∧ wfB y0 := opn_field Try.underlying53 h 0 rfl cz4 (opn_bool ulr4)
  obtain ⟨y1, a1, c1, e1, b1, w1⟩ : ∃ (y1 : (List TEntry)) (a1 : Option Addr) (c1 : Nat), (cs.drop 1).take 1 = [.slice a1 y1.length c1] ∧ BorS kTEntry a1 c1 y1 W.heap (Lt W Nil) ∧ (wfL wfTEntry) y1 := opn_field Try.underlying53 h 1 rfl cz51 (opn_slice (K := kTEntry) ulr51 cz141 (by decide) opK141)
  have k0 := chunk cs 0 1
  have k1 := chunk cs 1 1
  have k2 : cs.drop 2 = [] := List.drop_of_length_le (by omega)
  rw [show 0 + 1 = 1 from rfl] at k0
  rw [show 1 + 1 = 2 from rfl] at k1
  exact ⟨⟨y0, y1⟩, ⟨a1, c1, (by show cs.drop 0 = _; rw [k0, e0, k1, e1, k2]; rfl), b1⟩, ⟨w0, w1⟩⟩
theorem opK146 {H : Type} {enc : TypeId × Value → H} {W : World} : OpnK enc Try.prog W 146 kTPage wfTPage := by
  intro fuel cs x h
  have hl := opn_len Try.underlying146 h cz146
  obtain ⟨y0, e0, w0⟩ : ∃ y0, (cs.drop 0).take 1 = [.bool y0] ∧ wfB y0 := opn_field Try.underlying146 h 0 rfl cz4 (opn_bool ulr4)
  obtain ⟨y1, ⟨a1, c1, e1, b1⟩, w1⟩ : ∃ y1 : TNode, (∃ a1 c1, (cs.drop 1).take 2 = encTNode y1 (.slice a1 (List.length y1.L) c1) ∧ BorS kTEntry a1 c1 y1.L W.heap (Lt W Nil)) ∧ wfTNode y1 := opn_field Try.underlying146 h 1 rfl cz53 opK53
  have k0 := chunk cs 0 1
  have k1 := chunk cs 1 2
  have k2 : cs.drop 3 = [] := List.drop_of_length_le (by omega)
  rw [show 0 + 1 = 1 from rfl] at k0
  rw [show 1 + 2 = 3 from rfl] at k1
  exact ⟨⟨y0, y1⟩, ⟨a1, c1, (by show cs.drop 0 = _; rw [k0, e0, k1, e1, k2]; rfl), b1⟩, ⟨w0, w1⟩⟩
theorem opK80 {H : Type} {enc : TypeId × Value → H} {W : World} : OpnK enc Try.prog W 80 kTBook wfTBook := by
  intro fuel cs x h
  have hl := opn_len Try.underlying80 h cz80
  obtain ⟨y0, e0, w0⟩ : ∃ y0, (cs.drop 0).take 1 = [.int .i64 y0] ∧ wfI y0 := opn_field Try.underlying80 h 0 rfl cz3 (opn_i64 ulr3)
  obtain ⟨y1, a1, c1, e1, b1, w1⟩ : ∃ (y1 : (List TPage)) (a1 : Option Addr) (c1 : Nat), (cs.drop 1).take 1 = [.slice a1 y1.length c1] ∧ BorS kTPage a1 c1 y1 W.heap (Lt W Nil) ∧ (wfL wfTPage) y1 := opn_field Try.underlying80 h 1 rfl cz78 (opn_slice (K := kTPage) ulr78 cz146 (by decide) opK146)
  have k0 := chunk cs 0 1
  have k1 := chunk cs 1 1
  have k2 : cs.drop 2 = [] := List.drop_of_length_le (by omega)
  rw [show 0 + 1 = 1 from rfl] at k0
  rw [show 1 + 1 = 2 from rfl] at k1
  exact ⟨⟨y0, y1⟩, ⟨a1, c1, (by show cs.drop 0 = _; rw [k0, e0, k1, e1, k2]; rfl), b1⟩, ⟨w0, w1⟩⟩
set_option maxRecDepth 100000 in
theorem laws_FnExactCut_lifted (os : Os) (started : os.Started) (H : Type) (enc : TypeId × Value → H) :
    ReturnsInHanded {} Try.checked os 8 .any (Rows.fnExactCutSpec.pre6 enc Try.prog Try.f8 Rows.fnExactCutRow.domain false) (Rows.fnExactCutSpec.post enc Try.prog Try.f8 false true false false) := by
  refine returnsInHanded_of_change (C := Try.checked) own_knob started (by kernel_rfl) Try.func8
    (ChangeSpec.witness6 (enc := enc) (C := Try.checked) false ⟨#[], #[.agg #[.int .i64 0, .slice none 0 0]], []⟩ 8 (by kernel_rfl) (by kernel_rfl) (by kernel_rfl) (by kernel_rfl)) ?_
  intro W base args ds gs before hval0 hW _ _
  have hval : ∀ (j : Nat) t v, Try.f8.params[j]? = some t → args[j]? = some v → Value.okWide Try.prog W .any base t v := hval0
  have hW2 := hW
  obtain ⟨p, q, hA0, hV, _, _, _⟩ := hW
  have hA : DataW.TrodAll enc Try.prog W 0 (fun _ => true) true Try.f8.params.toList args.toList ds p := hA0
  obtain ⟨rfl, _⟩ := trodVars_none hV
  rw [Try.params8] at hA hval
  obtain ⟨v0, vs0, d0, ds0, p0, q0, hv0, rfl, h0, hB0⟩ := Sx.trodAll_cons hA
  obtain ⟨hvn, rfl⟩ := Sx.trodAll_nil hB0
  subst hvn
  have ha : args = #[v0] := Array.ext' hv0
  subst ha
  obtain ⟨fu0, hf0⟩ := h0
  obtain ⟨cs0, rfl⟩ := okWide_agg Try.underlying80 (hval 0 80 v0 rfl rfl)
  obtain ⟨y0, ⟨a0, c0, e0, b0⟩, w0⟩ : ∃ y0 : TBook, (∃ a0 c0, cs0.toList = encTBook y0 (.slice a0 (List.length y0.L) c0) ∧ BorS kTPage a0 c0 y0.L W.heap (Lt W Nil)) ∧ wfTBook y0 := opK80 _ _ _ hf0
  obtain rfl : cs0 = List.toArray _ := Array.ext' e0
  obtain ⟨k, hk⟩ := laws_FnExactCut_true w0
  exact law_calls (s := Rows.fnExactCutSpec) (fn := Try.f8) rfl hW2 laid_out (by kernel_rfl) rfl ulr4 rfl (laws_FnExactCut_c b0 hk)

theorem laws_FnExactCut_holds : Rows.FnExactCutSaid :=
  OpenClaim.holds_of_wide 8 Try.f8 rfl rfl rfl rfl rfl rfl rfl ⟨rfl, rfl, rfl, rfl, rfl⟩ rfl rfl rfl rfl rfl (by kernel_rfl) Try.func8 (by kernel_rfl)
    (of_decide_eq_true (by kernel_rfl)) (by unfold Func.isWrapper; first | (rw [if_pos (by decide +kernel)]; kernel_rfl) | (rw [if_neg (by decide +kernel)]; exact ⟨rfl, rfl⟩))
    (fun os started H enc _ => laws_FnExactCut_lifted os started H enc)
end Go.Proofs.Yteeiibdkpdaniaa
