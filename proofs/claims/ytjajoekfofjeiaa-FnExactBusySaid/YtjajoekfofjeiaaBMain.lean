/-
  FnExactBusy returns true for every input, and its arguments read as before. No conditions.
-/
import Derived.Test.YtjajoekfofjeiaaRows
import Derived.Test.YtjajoekfofjeiaaBP
import Derived.Test.YtjajoekfofjeiaaBF3
import Derived.Test.YtjajoekfofjeiaaLG
import Derived.KernelRfl
namespace Go.Proofs.Ytjajoekfofjeiaa
open Go.RowKit Go.WideShapes Go.ChangeShapes Go.ChangeAt Go.Proofs.Sx
set_option linter.unusedVariables false
set_option maxRecDepth 20000
set_option maxHeartbeats 1000000
theorem own_knob : ownKnob Try.prog.godebug = none := by kernel_rfl
theorem laid_out : laidOutB Try.prog = true := by kernel_rfl
theorem cz3 : Try.prog.cellsOf 3 = 1 := by kernel_rfl
theorem cz90 : Try.prog.cellsOf 90 = 5 := by kernel_rfl
theorem cz88 : Try.prog.cellsOf 88 = 4 := by kernel_rfl
theorem cz95 : Try.prog.cellsOf 95 = 5 := by kernel_rfl
theorem cz49 : Try.prog.cellsOf 49 = 6 := by kernel_rfl
theorem cz45 : Try.prog.cellsOf 45 = 1 := by kernel_rfl
theorem cz46 : Try.prog.cellsOf 46 = 1 := by kernel_rfl
theorem cz47 : Try.prog.cellsOf 47 = 1 := by kernel_rfl
theorem ulr3 : Try.prog.underlying 3 = some (.int .i64) := by kernel_rfl
theorem ulr45 : Try.prog.underlying 45 = some (.slice 3) := by kernel_rfl
theorem ulr46 : Try.prog.underlying 46 = some (.slice 90) := by kernel_rfl
theorem ulr47 : Try.prog.underlying 47 = some (.slice 95) := by kernel_rfl
theorem ulr4 : Try.prog.underlying 4 = some (.bool) := by kernel_rfl
theorem opK88 {H : Type} {enc : TypeId × Value → H} {W : World} : OpnK enc Try.prog W 88 kTBox wfTBox := by
  intro fuel cs x h
  have hl := opn_len Try.underlying88 h cz88
  obtain ⟨y0, e0, w0⟩ : ∃ y0, (cs.drop 0).take 1 = [.int .i64 y0] ∧ wfI y0 := opn_field Try.underlying88 h 0 rfl cz3 (opn_i64 ulr3)
  obtain ⟨y1, e1, w1⟩ : ∃ y1, (cs.drop 1).take 1 = [.int .i64 y1] ∧ wfI y1 := opn_field Try.underlying88 h 1 rfl cz3 (opn_i64 ulr3)
  obtain ⟨y2, e2, w2⟩ : ∃ y2, (cs.drop 2).take 1 = [.int .i64 y2] ∧ wfI y2 := opn_field Try.underlying88 h 2 rfl cz3 (opn_i64 ulr3)
  obtain ⟨y3, e3, w3⟩ : ∃ y3, (cs.drop 3).take 1 = [.int .i64 y3] ∧ wfI y3 := opn_field Try.underlying88 h 3 rfl cz3 (opn_i64 ulr3)
  have k0 := chunk cs 0 1
  have k1 := chunk cs 1 1
  have k2 := chunk cs 2 1
  have k3 := chunk cs 3 1
  have k4 : cs.drop 4 = [] := List.drop_of_length_le (by omega)
  rw [show 0 + 1 = 1 from rfl] at k0
  rw [show 1 + 1 = 2 from rfl] at k1
  rw [show 2 + 1 = 3 from rfl] at k2
  rw [show 3 + 1 = 4 from rfl] at k3
  exact ⟨⟨y0, y1, y2, y3⟩, (by show cs.drop 0 = _; rw [k0, e0, k1, e1, k2, e2, k3, e3, k4]; rfl), ⟨w0, w1, w2, w3⟩⟩
theorem opK90 {H : Type} {enc : TypeId × Value → H} {W : World} : OpnK enc Try.prog W 90 kTItem wfTItem := by
  intro fuel cs x h
  have hl := opn_len Try.underlying90 h cz90
  obtain ⟨y0, e0, w0⟩ : ∃ y0, (cs.drop 0).take 1 = [.int .i64 y0] ∧ wfI y0 := opn_field Try.underlying90 h 0 rfl cz3 (opn_i64 ulr3)
  obtain ⟨y1, e1, w1⟩ : ∃ y1 : TBox, (cs.drop 1).take 4 = encTBox y1 ∧ wfTBox y1 := opn_field Try.underlying90 h 1 rfl cz88 opK88
  have k0 := chunk cs 0 1
  have k1 := chunk cs 1 4
  have k2 : cs.drop 5 = [] := List.drop_of_length_le (by omega)
  rw [show 0 + 1 = 1 from rfl] at k0
  rw [show 1 + 4 = 5 from rfl] at k1
  exact ⟨⟨y0, y1⟩, (by show cs.drop 0 = _; rw [k0, e0, k1, e1, k2]; rfl), ⟨w0, w1⟩⟩
theorem opK95 {H : Type} {enc : TypeId × Value → H} {W : World} : OpnK enc Try.prog W 95 kTEntry wfTEntry := by
  intro fuel cs x h
  have hl := opn_len Try.underlying95 h cz95
  obtain ⟨y0, e0, w0⟩ : ∃ y0, (cs.drop 0).take 1 = [.int .i64 y0] ∧ wfI y0 := opn_field Try.underlying95 h 0 rfl cz3 (opn_i64 ulr3)
  obtain ⟨y1, e1, w1⟩ : ∃ y1 : TBox, (cs.drop 1).take 4 = encTBox y1 ∧ wfTBox y1 := opn_field Try.underlying95 h 1 rfl cz88 opK88
  have k0 := chunk cs 0 1
  have k1 := chunk cs 1 4
  have k2 : cs.drop 5 = [] := List.drop_of_length_le (by omega)
  rw [show 0 + 1 = 1 from rfl] at k0
  rw [show 1 + 4 = 5 from rfl] at k1
  exact ⟨⟨y0, y1⟩, (by show cs.drop 0 = _; rw [k0, e0, k1, e1, k2]; rfl), ⟨w0, w1⟩⟩
theorem opM49 {H : Type} {enc : TypeId × Value → H} {W : World} : Opn enc Try.prog W 49 fun cs => ∃ (y9 : TVac) (a9_0 : Option Addr) (c9_0 : Nat) (a9_1 : Option Addr) (c9_1 : Nat) (a9_2 : Option Addr) (c9_2 : Nat) (a9_3 : Option Addr) (c9_3 : Nat) (a9_4 : Option Addr) (c9_4 : Nat), cs = [.int .i64 y9.Phase, .slice a9_0 (List.length y9.Todo) c9_0, .slice a9_1 (List.length y9.Run) c9_1, .slice a9_2 (List.length y9.Row) c9_2, .slice a9_3 (List.length y9.Next) c9_3, .slice a9_4 (List.length y9.Made) c9_4] ∧ BorS kI a9_0 c9_0 y9.Todo W.heap (Lt W Nil) ∧ BorS kTItem a9_1 c9_1 y9.Run W.heap (Lt W Nil) ∧ BorS kTEntry a9_2 c9_2 y9.Row W.heap (Lt W Nil) ∧ BorS kTEntry a9_3 c9_3 y9.Next W.heap (Lt W Nil) ∧ BorS kI a9_4 c9_4 y9.Made W.heap (Lt W Nil) ∧ wfTVac y9 := by
  intro fuel cs x h
  have hl := opn_len Try.underlying49 h cz49
  obtain ⟨y0, e0, w0⟩ : ∃ y0, (cs.drop 0).take 1 = [.int .i64 y0] ∧ wfI y0 := opn_field Try.underlying49 h 0 rfl cz3 (opn_i64 ulr3)
  obtain ⟨y1, a1, c1, e1, b1, w1⟩ : ∃ (y1 : (List Int)) (a1 : Option Addr) (c1 : Nat), (cs.drop 1).take 1 = [.slice a1 y1.length c1] ∧ BorS kI a1 c1 y1 W.heap (Lt W Nil) ∧ (wfL wfI) y1 := opn_field Try.underlying49 h 1 rfl cz45 (opn_slice (K := kI) ulr45 cz3 (by decide) (opnK_I ulr3))
  obtain ⟨y2, a2, c2, e2, b2, w2⟩ : ∃ (y2 : (List TItem)) (a2 : Option Addr) (c2 : Nat), (cs.drop 2).take 1 = [.slice a2 y2.length c2] ∧ BorS kTItem a2 c2 y2 W.heap (Lt W Nil) ∧ (wfL wfTItem) y2 := opn_field Try.underlying49 h 2 rfl cz46 (opn_slice (K := kTItem) ulr46 cz90 (by decide) opK90)
  obtain ⟨y3, a3, c3, e3, b3, w3⟩ : ∃ (y3 : (List TEntry)) (a3 : Option Addr) (c3 : Nat), (cs.drop 3).take 1 = [.slice a3 y3.length c3] ∧ BorS kTEntry a3 c3 y3 W.heap (Lt W Nil) ∧ (wfL wfTEntry) y3 := opn_field Try.underlying49 h 3 rfl cz47 (opn_slice (K := kTEntry) ulr47 cz95 (by decide) opK95)
  obtain ⟨y4, a4, c4, e4, b4, w4⟩ : ∃ (y4 : (List TEntry)) (a4 : Option Addr) (c4 : Nat), (cs.drop 4).take 1 = [.slice a4 y4.length c4] ∧ BorS kTEntry a4 c4 y4 W.heap (Lt W Nil) ∧ (wfL wfTEntry) y4 := opn_field Try.underlying49 h 4 rfl cz47 (opn_slice (K := kTEntry) ulr47 cz95 (by decide) opK95)
  obtain ⟨y5, a5, c5, e5, b5, w5⟩ : ∃ (y5 : (List Int)) (a5 : Option Addr) (c5 : Nat), (cs.drop 5).take 1 = [.slice a5 y5.length c5] ∧ BorS kI a5 c5 y5 W.heap (Lt W Nil) ∧ (wfL wfI) y5 := opn_field Try.underlying49 h 5 rfl cz45 (opn_slice (K := kI) ulr45 cz3 (by decide) (opnK_I ulr3))
  have k0 := chunk cs 0 1
  have k1 := chunk cs 1 1
  have k2 := chunk cs 2 1
  have k3 := chunk cs 3 1
  have k4 := chunk cs 4 1
  have k5 := chunk cs 5 1
  have k6 : cs.drop 6 = [] := List.drop_of_length_le (by omega)
  rw [show 0 + 1 = 1 from rfl] at k0
  rw [show 1 + 1 = 2 from rfl] at k1
  rw [show 2 + 1 = 3 from rfl] at k2
  rw [show 3 + 1 = 4 from rfl] at k3
  rw [show 4 + 1 = 5 from rfl] at k4
  rw [show 5 + 1 = 6 from rfl] at k5
  exact ⟨⟨y0, y1, y2, y3, y4, y5⟩, a1, c1, a2, c2, a3, c3, a4, c4, a5, c5, (by show cs.drop 0 = _; rw [k0, e0, k1, e1, k2, e2, k3, e3, k4, e4, k5, e5, k6]; rfl), b1, b2, b3, b4, b5, ⟨w0, w1, w2, w3, w4, w5⟩⟩
set_option maxRecDepth 100000 in
theorem laws_FnExactBusy_lifted (os : Os) (started : os.Started) (H : Type) (enc : TypeId × Value → H) :
    ReturnsInHanded {} Try.checked os 7 .any (Rows.fnExactBusySpec.pre6 enc Try.prog Try.f7 Rows.fnExactBusyRow.domain false) (Rows.fnExactBusySpec.post enc Try.prog Try.f7 false true false false) := by
  refine returnsInHanded_of_change (C := Try.checked) own_knob started (by kernel_rfl) Try.func7
    (ChangeSpec.witness6 (enc := enc) (C := Try.checked) false ⟨#[], #[.agg #[.int .i64 0, .slice none 0 0, .slice none 0 0, .slice none 0 0, .slice none 0 0, .slice none 0 0]], []⟩ 8 (by kernel_rfl) (by kernel_rfl) (by kernel_rfl) (by kernel_rfl)) ?_
  intro W base args ds gs before hval0 hW _ _
  have hval : ∀ (j : Nat) t v, Try.f7.params[j]? = some t → args[j]? = some v → Value.okWide Try.prog W .any base t v := hval0
  have hW2 := hW
  obtain ⟨p, q, hA0, hV, _, _, _⟩ := hW
  have hA : DataW.TrodAll enc Try.prog W 0 (fun _ => true) true Try.f7.params.toList args.toList ds p := hA0
  obtain ⟨rfl, _⟩ := trodVars_none hV
  rw [Try.params7] at hA hval
  obtain ⟨v0, vs0, d0, ds0, p0, q0, hv0, rfl, h0, hA⟩ := Sx.trodAll_cons hA
  obtain ⟨hvn, rfl⟩ := Sx.trodAll_nil hA
  subst hvn
  have ha : args = #[v0] := Array.ext' hv0
  subst ha
  obtain ⟨fu0, hf0⟩ := h0
  obtain ⟨cs0, rfl⟩ := okWide_agg Try.underlying49 (hval 0 49 v0 rfl rfl)
  obtain ⟨y0, a0_0, c0_0, a0_1, c0_1, a0_2, c0_2, a0_3, c0_3, a0_4, c0_4, e0, b0_0, b0_1, b0_2, b0_3, b0_4, w0⟩ : ∃ (y0 : TVac) (a0_0 : Option Addr) (c0_0 : Nat) (a0_1 : Option Addr) (c0_1 : Nat) (a0_2 : Option Addr) (c0_2 : Nat) (a0_3 : Option Addr) (c0_3 : Nat) (a0_4 : Option Addr) (c0_4 : Nat), cs0.toList = [.int .i64 y0.Phase, .slice a0_0 (List.length y0.Todo) c0_0, .slice a0_1 (List.length y0.Run) c0_1, .slice a0_2 (List.length y0.Row) c0_2, .slice a0_3 (List.length y0.Next) c0_3, .slice a0_4 (List.length y0.Made) c0_4] ∧ BorS kI a0_0 c0_0 y0.Todo W.heap (Lt W Nil) ∧ BorS kTItem a0_1 c0_1 y0.Run W.heap (Lt W Nil) ∧ BorS kTEntry a0_2 c0_2 y0.Row W.heap (Lt W Nil) ∧ BorS kTEntry a0_3 c0_3 y0.Next W.heap (Lt W Nil) ∧ BorS kI a0_4 c0_4 y0.Made W.heap (Lt W Nil) ∧ wfTVac y0 := opM49 _ _ _ hf0
  obtain rfl : cs0 = List.toArray _ := Array.ext' e0
  obtain ⟨k, hk⟩ := laws_FnExactBusy_true w0
  exact law_calls (s := Rows.fnExactBusySpec) (fn := Try.f7) rfl hW2 laid_out (by kernel_rfl) rfl ulr4 rfl (laws_FnExactBusy_c b0_0 b0_1 b0_2 b0_3 b0_4 hk)

theorem laws_FnExactBusy_holds : Rows.FnExactBusySaid :=
  OpenClaim.holds_of_wide 7 Try.f7 rfl rfl rfl rfl rfl rfl rfl ⟨rfl, rfl, rfl, rfl, rfl⟩ rfl rfl rfl rfl rfl (by kernel_rfl) Try.func7 (by kernel_rfl)
    (of_decide_eq_true (by kernel_rfl)) (by unfold Func.isWrapper; first | (rw [if_pos (by decide +kernel)]; kernel_rfl) | (rw [if_neg (by decide +kernel)]; exact ⟨rfl, rfl⟩))
    (fun os started H enc _ => laws_FnExactBusy_lifted os started H enc)
end Go.Proofs.Ytjajoekfofjeiaa
