/-
  FnExactVacDrop returns true for every input, and its arguments read as before. No conditions.
-/
import Derived.Test.YtgfhnepkpbmbcaaRows
import Derived.Test.YtgfhnepkpbmbcaaAP
import Derived.Test.YtgfhnepkpbmbcaaAF6
import Derived.Test.YtgfhnepkpbmbcaaLG
import Derived.KernelRfl
namespace Go.Proofs.Ytgfhnepkpbmbcaa
open Go.RowKit Go.WideShapes Go.ChangeShapes Go.ChangeAt Go.Proofs.Sx
set_option linter.unusedVariables false
set_option maxRecDepth 20000
set_option maxHeartbeats 1000000
theorem own_knob : ownKnob Try.prog.godebug = none := by kernel_rfl
theorem laid_out : laidOutB Try.prog = true := by kernel_rfl
theorem cz202 : Try.prog.cellsOf 202 = 3 := by kernel_rfl
theorem cz214 : Try.prog.cellsOf 214 = 5 := by kernel_rfl
theorem cz209 : Try.prog.cellsOf 209 = 4 := by kernel_rfl
theorem cz3 : Try.prog.cellsOf 3 = 1 := by kernel_rfl
theorem cz185 : Try.prog.cellsOf 185 = 2 := by kernel_rfl
theorem cz4 : Try.prog.cellsOf 4 = 1 := by kernel_rfl
theorem cz91 : Try.prog.cellsOf 91 = 1 := by kernel_rfl
theorem cz89 : Try.prog.cellsOf 89 = 2 := by kernel_rfl
theorem cz87 : Try.prog.cellsOf 87 = 1 := by kernel_rfl
theorem cz211 : Try.prog.cellsOf 211 = 5 := by kernel_rfl
theorem cz93 : Try.prog.cellsOf 93 = 6 := by kernel_rfl
theorem cz24 : Try.prog.cellsOf 24 = 1 := by kernel_rfl
theorem cz90 : Try.prog.cellsOf 90 = 1 := by kernel_rfl
theorem ulr3 : Try.prog.underlying 3 = some (.int .i64) := by kernel_rfl
theorem ulr87 : Try.prog.underlying 87 = some (.slice 202) := by kernel_rfl
theorem ulr4 : Try.prog.underlying 4 = some (.bool) := by kernel_rfl
theorem ulr91 : Try.prog.underlying 91 = some (.slice 214) := by kernel_rfl
theorem ulr24 : Try.prog.underlying 24 = some (.slice 3) := by kernel_rfl
theorem ulr90 : Try.prog.underlying 90 = some (.slice 211) := by kernel_rfl
theorem opK209 {H : Type} {enc : TypeId × Value → H} {W : World} : OpnK enc Try.prog W 209 kTBox wfTBox := by
  intro fuel cs x h
  have hl := opn_len Try.underlying209 h cz209
  obtain ⟨y0, e0, w0⟩ : ∃ y0, (cs.drop 0).take 1 = [.int .i64 y0] ∧ wfI y0 := opn_field Try.underlying209 h 0 rfl cz3 (opn_i64 ulr3)
  obtain ⟨y1, e1, w1⟩ : ∃ y1, (cs.drop 1).take 1 = [.int .i64 y1] ∧ wfI y1 := opn_field Try.underlying209 h 1 rfl cz3 (opn_i64 ulr3)
  obtain ⟨y2, e2, w2⟩ : ∃ y2, (cs.drop 2).take 1 = [.int .i64 y2] ∧ wfI y2 := opn_field Try.underlying209 h 2 rfl cz3 (opn_i64 ulr3)
  obtain ⟨y3, e3, w3⟩ : ∃ y3, (cs.drop 3).take 1 = [.int .i64 y3] ∧ wfI y3 := opn_field Try.underlying209 h 3 rfl cz3 (opn_i64 ulr3)
  have k0 := chunk cs 0 1
  have k1 := chunk cs 1 1
  have k2 := chunk cs 2 1
  have k3 := chunk cs 3 1
  have k4 : cs.drop 4 = [] := List.drop_of_length_le (by omega)
  rw [show 0 + 1 = 1 from rfl] at k0
  rw [show 1 + 1 = 2 from rfl] at k1
  rw [show 2 + 1 = 3 from rfl] at k2
  rw [show 3 + 1 = 4 from rfl] at k3
  exact ⟨⟨y0, y1, y2, y3⟩, (by show cs.drop 0 = _; rw [k0, e0, k1, e1, k2, e2, k3, e3, k4]; rfl), ⟨w0, w1, w2, w3⟩⟩
theorem opK214 {H : Type} {enc : TypeId × Value → H} {W : World} : OpnK enc Try.prog W 214 kTEntry wfTEntry := by
  intro fuel cs x h
  have hl := opn_len Try.underlying214 h cz214
  obtain ⟨y0, e0, w0⟩ : ∃ y0, (cs.drop 0).take 1 = [.int .i64 y0] ∧ wfI y0 := opn_field Try.underlying214 h 0 rfl cz3 (opn_i64 ulr3)
  obtain ⟨y1, e1, w1⟩ : ∃ y1 : TBox, (cs.drop 1).take 4 = encTBox y1 ∧ wfTBox y1 := opn_field Try.underlying214 h 1 rfl cz209 opK209
  have k0 := chunk cs 0 1
  have k1 := chunk cs 1 4
  have k2 : cs.drop 5 = [] := List.drop_of_length_le (by omega)
  rw [show 0 + 1 = 1 from rfl] at k0
  rw [show 1 + 4 = 5 from rfl] at k1
  exact ⟨⟨y0, y1⟩, (by show cs.drop 0 = _; rw [k0, e0, k1, e1, k2]; rfl), ⟨w0, w1⟩⟩
theorem opK185 {H : Type} {enc : TypeId × Value → H} {W : World} : OpnK enc Try.prog W 185 kTNode wfTNode := by
  intro fuel cs x h
  have hl := opn_len Try.underlying185 h cz185
  obtain ⟨y0, e0, w0⟩ : ∃ y0, (cs.drop 0).take 1 = [.bool y0] ∧ wfB y0 := opn_field Try.underlying185 h 0 rfl cz4 (opn_bool ulr4)
  obtain ⟨y1, a1, c1, e1, b1, w1⟩ : ∃ (y1 : (List TEntry)) (a1 : Option Addr) (c1 : Nat), (cs.drop 1).take 1 = [.slice a1 y1.length c1] ∧ BorS kTEntry a1 c1 y1 W.heap (Lt W Nil) ∧ (wfL wfTEntry) y1 := opn_field Try.underlying185 h 1 rfl cz91 (opn_slice (K := kTEntry) ulr91 cz214 (by decide) opK214)
  have k0 := chunk cs 0 1
  have k1 := chunk cs 1 1
  have k2 : cs.drop 2 = [] := List.drop_of_length_le (by omega)
  rw [show 0 + 1 = 1 from rfl] at k0
  rw [show 1 + 1 = 2 from rfl] at k1
  exact ⟨⟨y0, y1⟩, ⟨a1, c1, (by show cs.drop 0 = _; rw [k0, e0, k1, e1, k2]; rfl), b1⟩, ⟨w0, w1⟩⟩
theorem opK202 {H : Type} {enc : TypeId × Value → H} {W : World} : OpnK enc Try.prog W 202 kTPage wfTPage := by
  intro fuel cs x h
  have hl := opn_len Try.underlying202 h cz202
  obtain ⟨y0, e0, w0⟩ : ∃ y0, (cs.drop 0).take 1 = [.bool y0] ∧ wfB y0 := opn_field Try.underlying202 h 0 rfl cz4 (opn_bool ulr4)
  obtain ⟨y1, ⟨a1, c1, e1, b1⟩, w1⟩ : ∃ y1 : TNode, (∃ a1 c1, (cs.drop 1).take 2 = encTNode y1 (.slice a1 (List.length y1.L) c1) ∧ BorS kTEntry a1 c1 y1.L W.heap (Lt W Nil)) ∧ wfTNode y1 := opn_field Try.underlying202 h 1 rfl cz185 opK185
  have k0 := chunk cs 0 1
  have k1 := chunk cs 1 2
  have k2 : cs.drop 3 = [] := List.drop_of_length_le (by omega)
  rw [show 0 + 1 = 1 from rfl] at k0
  rw [show 1 + 2 = 3 from rfl] at k1
  exact ⟨⟨y0, y1⟩, ⟨a1, c1, (by show cs.drop 0 = _; rw [k0, e0, k1, e1, k2]; rfl), b1⟩, ⟨w0, w1⟩⟩
theorem opK89 {H : Type} {enc : TypeId × Value → H} {W : World} : OpnK enc Try.prog W 89 kTBook wfTBook := by
  intro fuel cs x h
  have hl := opn_len Try.underlying89 h cz89
  obtain ⟨y0, e0, w0⟩ : ∃ y0, (cs.drop 0).take 1 = [.int .i64 y0] ∧ wfI y0 := opn_field Try.underlying89 h 0 rfl cz3 (opn_i64 ulr3)
  obtain ⟨y1, a1, c1, e1, b1, w1⟩ : ∃ (y1 : (List TPage)) (a1 : Option Addr) (c1 : Nat), (cs.drop 1).take 1 = [.slice a1 y1.length c1] ∧ BorS kTPage a1 c1 y1 W.heap (Lt W Nil) ∧ (wfL wfTPage) y1 := opn_field Try.underlying89 h 1 rfl cz87 (opn_slice (K := kTPage) ulr87 cz202 (by decide) opK202)
  have k0 := chunk cs 0 1
  have k1 := chunk cs 1 1
  have k2 : cs.drop 2 = [] := List.drop_of_length_le (by omega)
  rw [show 0 + 1 = 1 from rfl] at k0
  rw [show 1 + 1 = 2 from rfl] at k1
  exact ⟨⟨y0, y1⟩, ⟨a1, c1, (by show cs.drop 0 = _; rw [k0, e0, k1, e1, k2]; rfl), b1⟩, ⟨w0, w1⟩⟩
theorem opK211 {H : Type} {enc : TypeId × Value → H} {W : World} : OpnK enc Try.prog W 211 kTItem wfTItem := by
  intro fuel cs x h
  have hl := opn_len Try.underlying211 h cz211
  obtain ⟨y0, e0, w0⟩ : ∃ y0, (cs.drop 0).take 1 = [.int .i64 y0] ∧ wfI y0 := opn_field Try.underlying211 h 0 rfl cz3 (opn_i64 ulr3)
  obtain ⟨y1, e1, w1⟩ : ∃ y1 : TBox, (cs.drop 1).take 4 = encTBox y1 ∧ wfTBox y1 := opn_field Try.underlying211 h 1 rfl cz209 opK209
  have k0 := chunk cs 0 1
  have k1 := chunk cs 1 4
  have k2 : cs.drop 5 = [] := List.drop_of_length_le (by omega)
  rw [show 0 + 1 = 1 from rfl] at k0
  rw [show 1 + 4 = 5 from rfl] at k1
  exact ⟨⟨y0, y1⟩, (by show cs.drop 0 = _; rw [k0, e0, k1, e1, k2]; rfl), ⟨w0, w1⟩⟩
theorem opM93 {H : Type} {enc : TypeId × Value → H} {W : World} : Opn enc Try.prog W 93 fun cs => ∃ (y9 : TVac) (a9_0 : Option Addr) (c9_0 : Nat) (a9_1 : Option Addr) (c9_1 : Nat) (a9_2 : Option Addr) (c9_2 : Nat) (a9_3 : Option Addr) (c9_3 : Nat) (a9_4 : Option Addr) (c9_4 : Nat), cs = [.int .i64 y9.Phase, .slice a9_0 (List.length y9.Todo) c9_0, .slice a9_1 (List.length y9.Run) c9_1, .slice a9_2 (List.length y9.Row) c9_2, .slice a9_3 (List.length y9.Next) c9_3, .slice a9_4 (List.length y9.Made) c9_4] ∧ BorS kI a9_0 c9_0 y9.Todo W.heap (Lt W Nil) ∧ BorS kTItem a9_1 c9_1 y9.Run W.heap (Lt W Nil) ∧ BorS kTEntry a9_2 c9_2 y9.Row W.heap (Lt W Nil) ∧ BorS kTEntry a9_3 c9_3 y9.Next W.heap (Lt W Nil) ∧ BorS kI a9_4 c9_4 y9.Made W.heap (Lt W Nil) ∧ wfTVac y9 := by
  intro fuel cs x h
  have hl := opn_len Try.underlying93 h cz93
  obtain ⟨y0, e0, w0⟩ : ∃ y0, (cs.drop 0).take 1 = [.int .i64 y0] ∧ wfI y0 := opn_field Try.underlying93 h 0 rfl cz3 (opn_i64 ulr3)
  obtain ⟨y1, a1, c1, e1, b1, w1⟩ : ∃ (y1 : (List Int)) (a1 : Option Addr) (c1 : Nat), (cs.drop 1).take 1 = [.slice a1 y1.length c1] ∧ BorS kI a1 c1 y1 W.heap (Lt W Nil) ∧ (wfL wfI) y1 := opn_field Try.underlying93 h 1 rfl cz24 (opn_slice (K := kI) ulr24 cz3 (by decide) (opnK_I ulr3))
  obtain ⟨y2, a2, c2, e2, b2, w2⟩ : ∃ (y2 : (List TItem)) (a2 : Option Addr) (c2 : Nat), (cs.drop 2).take 1 = [.slice a2 y2.length c2] ∧ BorS kTItem a2 c2 y2 W.heap (Lt W Nil) ∧ (wfL wfTItem) y2 := opn_field Try.underlying93 h 2 rfl cz90 (opn_slice (K := kTItem) ulr90 cz211 (by decide) opK211)
  obtain ⟨y3, a3, c3, e3, b3, w3⟩ : ∃ (y3 : (List TEntry)) (a3 : Option Addr) (c3 : Nat), (cs.drop 3).take 1 = [.slice a3 y3.length c3] ∧ BorS kTEntry a3 c3 y3 W.heap (Lt W Nil) ∧ (wfL wfTEntry) y3 := opn_field Try.underlying93 h 3 rfl cz91 (opn_slice (K := kTEntry) ulr91 cz214 (by decide) opK214)
  obtain ⟨y4, a4, c4, e4, b4, w4⟩ : ∃ (y4 : (List TEntry)) (a4 : Option Addr) (c4 : Nat), (cs.drop 4).take 1 = [.slice a4 y4.length c4] ∧ BorS kTEntry a4 c4 y4 W.heap (Lt W Nil) ∧ (wfL wfTEntry) y4 := opn_field Try.underlying93 h 4 rfl cz91 (opn_slice (K := kTEntry) ulr91 cz214 (by decide) opK214)
  obtain ⟨y5, a5, c5, e5, b5, w5⟩ : ∃ (y5 : (List Int)) (a5 : Option Addr) (c5 : Nat), (cs.drop 5).take 1 = [.slice a5 y5.length c5] ∧ BorS kI a5 c5 y5 W.heap (Lt W Nil) ∧ (wfL wfI) y5 := opn_field Try.underlying93 h 5 rfl cz24 (opn_slice (K := kI) ulr24 cz3 (by decide) (opnK_I ulr3))
  have k0 := chunk cs 0 1
  have k1 := chunk cs 1 1
  have k2 := chunk cs 2 1
  have k3 := chunk cs 3 1
  have k4 := chunk cs 4 1
  have k5 := chunk cs 5 1
  have k6 : cs.drop 6 = [] := List.drop_of_length_le (by omega)
  rw [show 0 + 1 = 1 from rfl] at k0
  rw [show 1 + 1 = 2 from rfl] at k1
  rw [show 2 + 1 = 3 from rfl] at k2
  rw [show 3 + 1 = 4 from rfl] at k3
  rw [show 4 + 1 = 5 from rfl] at k4
  rw [show 5 + 1 = 6 from rfl] at k5
  exact ⟨⟨y0, y1, y2, y3, y4, y5⟩, a1, c1, a2, c2, a3, c3, a4, c4, a5, c5, (by show cs.drop 0 = _; rw [k0, e0, k1, e1, k2, e2, k3, e3, k4, e4, k5, e5, k6]; rfl), b1, b2, b3, b4, b5, ⟨w0, w1, w2, w3, w4, w5⟩⟩
set_option maxRecDepth 100000 in
theorem laws_FnExactVacDrop_lifted (os : Os) (started : os.Started) (H : Type) (enc : TypeId × Value → H) :
    ReturnsInHanded {} Try.checked os 11 .any (Rows.fnExactVacDropSpec.pre6 enc Try.prog Try.f11 Rows.fnExactVacDropRow.domain false) (Rows.fnExactVacDropSpec.post enc Try.prog Try.f11 false true false false) := by
  refine returnsInHanded_of_change (C := Try.checked) own_knob started (by kernel_rfl) Try.func11
    (ChangeSpec.witness6 (enc := enc) (C := Try.checked) false ⟨#[], #[.agg #[.int .i64 0, .slice none 0 0], .agg #[.int .i64 0, .slice none 0 0, .slice none 0 0, .slice none 0 0, .slice none 0 0, .slice none 0 0]], []⟩ 8 (by kernel_rfl) (by kernel_rfl) (by kernel_rfl) (by kernel_rfl)) ?_
  intro W base args ds gs before hval0 hW _ _
  have hval : ∀ (j : Nat) t v, Try.f11.params[j]? = some t → args[j]? = some v → Value.okWide Try.prog W .any base t v := hval0
  have hW2 := hW
  obtain ⟨p, q, hA0, hV, _, _, _⟩ := hW
  have hA : DataW.TrodAll enc Try.prog W 0 (fun _ => true) true Try.f11.params.toList args.toList ds p := hA0
  obtain ⟨rfl, _⟩ := trodVars_none hV
  rw [Try.params11] at hA hval
  obtain ⟨v0, vs0, d0, ds0, p0, q0, hv0, rfl, h0, hB0⟩ := Sx.trodAll_cons hA
  obtain ⟨v1, vs1, d1, ds1, p1, q1, hv1, rfl, h1, hB1⟩ := Sx.trodAll_cons hB0
  subst hv1
  obtain ⟨hvn, rfl⟩ := Sx.trodAll_nil hB1
  subst hvn
  have ha : args = #[v0, v1] := Array.ext' hv0
  subst ha
  obtain ⟨fu0, hf0⟩ := h0
  obtain ⟨cs0, rfl⟩ := okWide_agg Try.underlying89 (hval 0 89 v0 rfl rfl)
  obtain ⟨y0, ⟨a0, c0, e0, b0⟩, w0⟩ : ∃ y0 : TBook, (∃ a0 c0, cs0.toList = encTBook y0 (.slice a0 (List.length y0.L) c0) ∧ BorS kTPage a0 c0 y0.L W.heap (Lt W Nil)) ∧ wfTBook y0 := opK89 _ _ _ hf0
  obtain rfl : cs0 = List.toArray _ := Array.ext' e0
  obtain ⟨fu1, hf1⟩ := h1
  obtain ⟨cs1, rfl⟩ := okWide_agg Try.underlying93 (hval 1 93 v1 rfl rfl)
  obtain ⟨y1, a1_0, c1_0, a1_1, c1_1, a1_2, c1_2, a1_3, c1_3, a1_4, c1_4, e1, b1_0, b1_1, b1_2, b1_3, b1_4, w1⟩ : ∃ (y1 : TVac) (a1_0 : Option Addr) (c1_0 : Nat) (a1_1 : Option Addr) (c1_1 : Nat) (a1_2 : Option Addr) (c1_2 : Nat) (a1_3 : Option Addr) (c1_3 : Nat) (a1_4 : Option Addr) (c1_4 : Nat), cs1.toList = [.int .i64 y1.Phase, .slice a1_0 (List.length y1.Todo) c1_0, .slice a1_1 (List.length y1.Run) c1_1, .slice a1_2 (List.length y1.Row) c1_2, .slice a1_3 (List.length y1.Next) c1_3, .slice a1_4 (List.length y1.Made) c1_4] ∧ BorS kI a1_0 c1_0 y1.Todo W.heap (Lt W Nil) ∧ BorS kTItem a1_1 c1_1 y1.Run W.heap (Lt W Nil) ∧ BorS kTEntry a1_2 c1_2 y1.Row W.heap (Lt W Nil) ∧ BorS kTEntry a1_3 c1_3 y1.Next W.heap (Lt W Nil) ∧ BorS kI a1_4 c1_4 y1.Made W.heap (Lt W Nil) ∧ wfTVac y1 := opM93 _ _ _ hf1
  obtain rfl : cs1 = List.toArray _ := Array.ext' e1
  obtain ⟨k, hk⟩ := laws_FnExactVacDrop_true w0 w1
  exact law_calls (s := Rows.fnExactVacDropSpec) (fn := Try.f11) rfl hW2 laid_out (by kernel_rfl) rfl ulr4 rfl (laws_FnExactVacDrop_c b0 b1_0 b1_1 b1_2 b1_3 b1_4 hk)

theorem laws_FnExactVacDrop_holds : Rows.FnExactVacDropSaid :=
  OpenClaim.holds_of_wide 11 Try.f11 rfl rfl rfl rfl rfl rfl rfl ⟨rfl, rfl, rfl, rfl, rfl⟩ rfl rfl rfl rfl rfl (by kernel_rfl) Try.func11 (by kernel_rfl)
    (of_decide_eq_true (by kernel_rfl)) (by unfold Func.isWrapper; first | (rw [if_pos (by decide +kernel)]; kernel_rfl) | (rw [if_neg (by decide +kernel)]; exact ⟨rfl, rfl⟩))
    (fun os started H enc _ => laws_FnExactVacDrop_lifted os started H enc)
end Go.Proofs.Ytgfhnepkpbmbcaa
