/-
  FnExactChangedBy returns true for every input, and its arguments read as before. No conditions.
-/
import Derived.Test.YtgfhnepkpbmbcaaRows
import Derived.Test.YtgfhnepkpbmbcaaDP
import Derived.Test.YtgfhnepkpbmbcaaDF4
import Derived.Test.YtgfhnepkpbmbcaaLG
import Derived.KernelRfl
namespace Go.Proofs.Ytgfhnepkpbmbcaa
open Go.RowKit Go.WideShapes Go.ChangeShapes Go.ChangeAt Go.Proofs.Sx
set_option linter.unusedVariables false
set_option maxRecDepth 20000
set_option maxHeartbeats 1000000
theorem own_knob : ownKnob Try.prog.godebug = none := by kernel_rfl
theorem laid_out : laidOutB Try.prog = true := by kernel_rfl
theorem cz55 : Try.prog.cellsOf 55 = 4 := by kernel_rfl
theorem cz187 : Try.prog.cellsOf 187 = 3 := by kernel_rfl
theorem cz214 : Try.prog.cellsOf 214 = 5 := by kernel_rfl
theorem cz209 : Try.prog.cellsOf 209 = 4 := by kernel_rfl
theorem cz3 : Try.prog.cellsOf 3 = 1 := by kernel_rfl
theorem cz185 : Try.prog.cellsOf 185 = 2 := by kernel_rfl
theorem cz4 : Try.prog.cellsOf 4 = 1 := by kernel_rfl
theorem cz91 : Try.prog.cellsOf 91 = 1 := by kernel_rfl
theorem cz53 : Try.prog.cellsOf 53 = 1 := by kernel_rfl
theorem ulr22 : Try.prog.underlying 22 = some (.slice 55) := by kernel_rfl
theorem ulr3 : Try.prog.underlying 3 = some (.int .i64) := by kernel_rfl
theorem ulr53 : Try.prog.underlying 53 = some (.slice 187) := by kernel_rfl
theorem ulr4 : Try.prog.underlying 4 = some (.bool) := by kernel_rfl
theorem ulr91 : Try.prog.underlying 91 = some (.slice 214) := by kernel_rfl
theorem opK209 {H : Type} {enc : TypeId × Value → H} {W : World} : OpnK enc Try.prog W 209 kTBox wfTBox := by
  intro fuel cs x h
  have hl := opn_len Try.underlying209 h cz209
  obtain ⟨y0, e0, w0⟩ : ∃ y0, (cs.drop 0).take 1 = [.int .i64 y0] ∧ wfI y0 := opn_field Try.underlying209 h 0 rfl cz3 (opn_i64 ulr3)
  obtain ⟨y1, e1, w1⟩ : ∃ y1, (cs.drop 1).take 1 = [.int .i64 y1] ∧ wfI y1 := opn_field Try.underlying209 h 1 rfl cz3 (opn_i64 ulr3)
  obtain ⟨y2, e2, w2⟩ : ∃ y2, (cs.drop 2).take 1 = [.int .i64 y2] ∧ wfI y2 := opn_field Try.underlying209 h 2 rfl cz3 (opn_i64 ulr3)
  obtain ⟨y3, e3, w3⟩ : ∃ y3, (cs.drop 3).take 1 = [.int .i64 y3] ∧ wfI y3 := opn_field Try.underlying209 h 3 rfl cz3 (opn_i64 ulr3)
  have k0 := chunk cs 0 1
  have k1 := chunk cs 1 1
  have k2 := chunk cs 2 1
  have k3 := chunk cs 3 1
  have k4 : cs.drop 4 = [] := List.drop_of_length_le (by omega)
  rw [show 0 + 1 = 1 from rfl] at k0
  rw [show 1 + 1 = 2 from rfl] at k1
  rw [show 2 + 1 = 3 from rfl] at k2
  rw [show 3 + 1 = 4 from rfl] at k3
  exact ⟨⟨y0, y1, y2, y3⟩, (by show cs.drop 0 = _; rw [k0, e0, k1, e1, k2, e2, k3, e3, k4]; rfl), ⟨w0, w1, w2, w3⟩⟩
theorem opK214 {H : Type} {enc : TypeId × Value → H} {W : World} : OpnK enc Try.prog W 214 kTEntry wfTEntry := by
  intro fuel cs x h
  have hl := opn_len Try.underlying214 h cz214
  obtain ⟨y0, e0, w0⟩ : ∃ y0, (cs.drop 0).take 1 = [.int .i64 y0] ∧ wfI y0 := opn_field Try.underlying214 h 0 rfl cz3 (opn_i64 ulr3)
  obtain ⟨y1, e1, w1⟩ : ∃ y1 : TBox, (cs.drop 1).take 4 = encTBox y1 ∧ wfTBox y1 := opn_field Try.underlying214 h 1 rfl cz209 opK209
  have k0 := chunk cs 0 1
  have k1 := chunk cs 1 4
  have k2 : cs.drop 5 = [] := List.drop_of_length_le (by omega)
  rw [show 0 + 1 = 1 from rfl] at k0
  rw [show 1 + 4 = 5 from rfl] at k1
  exact ⟨⟨y0, y1⟩, (by show cs.drop 0 = _; rw [k0, e0, k1, e1, k2]; rfl), ⟨w0, w1⟩⟩
theorem opK185 {H : Type} {enc : TypeId × Value → H} {W : World} : OpnK enc Try.prog W 185 kTNode wfTNode := by
  intro fuel cs x h
  have hl := opn_len Try.underlying185 h cz185
  obtain ⟨y0, e0, w0⟩ : ∃ y0, (cs.drop 0).take 1 = [.bool y0] ∧ wfB y0 := opn_field Try.underlying185 h 0 rfl cz4 (opn_bool ulr4)
  obtain ⟨y1, a1, c1, e1, b1, w1⟩ : ∃ (y1 : (List TEntry)) (a1 : Option Addr) (c1 : Nat), (cs.drop 1).take 1 = [.slice a1 y1.length c1] ∧ BorS kTEntry a1 c1 y1 W.heap (Lt W Nil) ∧ (wfL wfTEntry) y1 := opn_field Try.underlying185 h 1 rfl cz91 (opn_slice (K := kTEntry) ulr91 cz214 (by decide) opK214)
  have k0 := chunk cs 0 1
  have k1 := chunk cs 1 1
  have k2 : cs.drop 2 = [] := List.drop_of_length_le (by omega)
  rw [show 0 + 1 = 1 from rfl] at k0
  rw [show 1 + 1 = 2 from rfl] at k1
  exact ⟨⟨y0, y1⟩, ⟨a1, c1, (by show cs.drop 0 = _; rw [k0, e0, k1, e1, k2]; rfl), b1⟩, ⟨w0, w1⟩⟩
theorem opK187 {H : Type} {enc : TypeId × Value → H} {W : World} : OpnK enc Try.prog W 187 kTChange wfTChange := by
  intro fuel cs x h
  have hl := opn_len Try.underlying187 h cz187
  obtain ⟨y0, e0, w0⟩ : ∃ y0, (cs.drop 0).take 1 = [.int .i64 y0] ∧ wfI y0 := opn_field Try.underlying187 h 0 rfl cz3 (opn_i64 ulr3)
  obtain ⟨y1, ⟨a1, c1, e1, b1⟩, w1⟩ : ∃ y1 : TNode, (∃ a1 c1, (cs.drop 1).take 2 = encTNode y1 (.slice a1 (List.length y1.L) c1) ∧ BorS kTEntry a1 c1 y1.L W.heap (Lt W Nil)) ∧ wfTNode y1 := opn_field Try.underlying187 h 1 rfl cz185 opK185
  have k0 := chunk cs 0 1
  have k1 := chunk cs 1 2
  have k2 : cs.drop 3 = [] := List.drop_of_length_le (by omega)
  rw [show 0 + 1 = 1 from rfl] at k0
  rw [show 1 + 2 = 3 from rfl] at k1
  exact ⟨⟨y0, y1⟩, ⟨a1, c1, (by show cs.drop 0 = _; rw [k0, e0, k1, e1, k2]; rfl), b1⟩, ⟨w0, w1⟩⟩
theorem opK55 {H : Type} {enc : TypeId × Value → H} {W : World} : OpnK enc Try.prog W 55 kTTx wfTTx := by
  intro fuel cs x h
  have hl := opn_len Try.underlying55 h cz55
  obtain ⟨y0, e0, w0⟩ : ∃ y0, (cs.drop 0).take 1 = [.int .i64 y0] ∧ wfI y0 := opn_field Try.underlying55 h 0 rfl cz3 (opn_i64 ulr3)
  obtain ⟨y1, e1, w1⟩ : ∃ y1, (cs.drop 1).take 1 = [.int .i64 y1] ∧ wfI y1 := opn_field Try.underlying55 h 1 rfl cz3 (opn_i64 ulr3)
  obtain ⟨y2, e2, w2⟩ : ∃ y2, (cs.drop 2).take 1 = [.int .i64 y2] ∧ wfI y2 := opn_field Try.underlying55 h 2 rfl cz3 (opn_i64 ulr3)
  obtain ⟨y3, a3, c3, e3, b3, w3⟩ : ∃ (y3 : (List TChange)) (a3 : Option Addr) (c3 : Nat), (cs.drop 3).take 1 = [.slice a3 y3.length c3] ∧ BorS kTChange a3 c3 y3 W.heap (Lt W Nil) ∧ (wfL wfTChange) y3 := opn_field Try.underlying55 h 3 rfl cz53 (opn_slice (K := kTChange) ulr53 cz187 (by decide) opK187)
  have k0 := chunk cs 0 1
  have k1 := chunk cs 1 1
  have k2 := chunk cs 2 1
  have k3 := chunk cs 3 1
  have k4 : cs.drop 4 = [] := List.drop_of_length_le (by omega)
  rw [show 0 + 1 = 1 from rfl] at k0
  rw [show 1 + 1 = 2 from rfl] at k1
  rw [show 2 + 1 = 3 from rfl] at k2
  rw [show 3 + 1 = 4 from rfl] at k3
  exact ⟨⟨y0, y1, y2, y3⟩, ⟨a3, c3, (by show cs.drop 0 = _; rw [k0, e0, k1, e1, k2, e2, k3, e3, k4]; rfl), b3⟩, ⟨w0, w1, w2, w3⟩⟩
set_option maxRecDepth 100000 in
theorem laws_FnExactChangedBy_lifted (os : Os) (started : os.Started) (H : Type) (enc : TypeId × Value → H) :
    ReturnsInHanded {} Try.checked os 3 .any (Rows.fnExactChangedBySpec.pre6 enc Try.prog Try.f3 Rows.fnExactChangedByRow.domain false) (Rows.fnExactChangedBySpec.post enc Try.prog Try.f3 false true false false) := by
  refine returnsInHanded_of_change (C := Try.checked) own_knob started (by kernel_rfl) Try.func3
    (ChangeSpec.witness6 (enc := enc) (C := Try.checked) false ⟨#[], #[.slice none 0 0], []⟩ 8 (by kernel_rfl) (by kernel_rfl) (by kernel_rfl) (by kernel_rfl)) ?_
  intro W base args ds gs before hval0 hW _ _
  have hval : ∀ (j : Nat) t v, Try.f3.params[j]? = some t → args[j]? = some v → Value.okWide Try.prog W .any base t v := hval0
  have hW2 := hW
  obtain ⟨p, q, hA0, hV, _, _, _⟩ := hW
  have hA : DataW.TrodAll enc Try.prog W 0 (fun _ => true) true Try.f3.params.toList args.toList ds p := hA0
  obtain ⟨rfl, _⟩ := trodVars_none hV
  rw [Try.params3] at hA hval
  obtain ⟨v0, vs0, d0, ds0, p0, q0, hv0, rfl, h0, hB0⟩ := Sx.trodAll_cons hA
  obtain ⟨hvn, rfl⟩ := Sx.trodAll_nil hB0
  subst hvn
  have ha : args = #[v0] := Array.ext' hv0
  subst ha
  obtain ⟨fu0, hf0⟩ := h0
  have hc0 := okWide_cell (.inr (.inr ⟨_, ulr22⟩)) (hval 0 22 v0 rfl rfl)
  rw [hc0] at hf0
  obtain ⟨y0, a0, c0, e0, b0, w0⟩ : ∃ (y0 : (List TTx)) (a0 : Option Addr) (c0 : Nat), [v0] = [.slice a0 y0.length c0] ∧ BorS kTTx a0 c0 y0 W.heap (Lt W Nil) ∧ (wfL wfTTx) y0 := (opn_slice (K := kTTx) ulr22 cz55 (by decide) opK55) _ _ _ hf0
  obtain rfl : v0 = _ := List.cons.inj e0 |>.1
  obtain ⟨k, hk⟩ := laws_FnExactChangedBy_true w0
  exact law_calls (s := Rows.fnExactChangedBySpec) (fn := Try.f3) rfl hW2 laid_out (by kernel_rfl) rfl ulr4 rfl (laws_FnExactChangedBy_c b0 hk)

theorem laws_FnExactChangedBy_holds : Rows.FnExactChangedBySaid :=
  OpenClaim.holds_of_wide 3 Try.f3 rfl rfl rfl rfl rfl rfl rfl ⟨rfl, rfl, rfl, rfl, rfl⟩ rfl rfl rfl rfl rfl (by kernel_rfl) Try.func3 (by kernel_rfl)
    (of_decide_eq_true (by kernel_rfl)) (by unfold Func.isWrapper; first | (rw [if_pos (by decide +kernel)]; kernel_rfl) | (rw [if_neg (by decide +kernel)]; exact ⟨rfl, rfl⟩))
    (fun os started H enc _ => laws_FnExactChangedBy_lifted os started H enc)
end Go.Proofs.Ytgfhnepkpbmbcaa
