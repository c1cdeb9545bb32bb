/-
  FnExactReadLog returns true for every input, and its arguments read as before. No conditions.
-/
import Derived.Test.YtgfhnepkpbmbcaaRows
import Derived.Test.YtgfhnepkpbmbcaaCP
import Derived.Test.YtgfhnepkpbmbcaaCF14
import Derived.Test.YtgfhnepkpbmbcaaLG
import Derived.KernelRfl
namespace Go.Proofs.Ytgfhnepkpbmbcaa
open Go.RowKit Go.WideShapes Go.ChangeShapes Go.ChangeAt Go.Proofs.Sx
set_option linter.unusedVariables false
set_option maxRecDepth 20000
set_option maxHeartbeats 1000000
theorem own_knob : ownKnob Try.prog.godebug = none := by kernel_rfl
theorem laid_out : laidOutB Try.prog = true := by kernel_rfl
theorem cz176 : Try.prog.cellsOf 176 = 2 := by kernel_rfl
theorem cz5 : Try.prog.cellsOf 5 = 1 := by kernel_rfl
theorem cz4 : Try.prog.cellsOf 4 = 1 := by kernel_rfl
theorem cz37 : Try.prog.cellsOf 37 = 1 := by kernel_rfl
theorem cz178 : Try.prog.cellsOf 178 = 2 := by kernel_rfl
theorem cz3 : Try.prog.cellsOf 3 = 1 := by kernel_rfl
theorem cz36 : Try.prog.cellsOf 36 = 4 := by kernel_rfl
theorem cz33 : Try.prog.cellsOf 33 = 1 := by kernel_rfl
theorem cz34 : Try.prog.cellsOf 34 = 1 := by kernel_rfl
theorem ulr33 : Try.prog.underlying 33 = some (.slice 176) := by kernel_rfl
theorem ulr4 : Try.prog.underlying 4 = some (.bool) := by kernel_rfl
theorem ulr37 : Try.prog.underlying 37 = some (.slice 5) := by kernel_rfl
theorem ulr5 : Try.prog.underlying 5 = some (.int .u8) := by kernel_rfl
theorem ulr34 : Try.prog.underlying 34 = some (.slice 178) := by kernel_rfl
theorem ulr3 : Try.prog.underlying 3 = some (.int .i64) := by kernel_rfl
theorem opK176 {H : Type} {enc : TypeId × Value → H} {W : World} : OpnK enc Try.prog W 176 kTCell wfTCell := by
  intro fuel cs x h
  have hl := opn_len Try.underlying176 h cz176
  obtain ⟨y0, e0, w0⟩ : ∃ y0, (cs.drop 0).take 1 = [.bool y0] ∧ wfB y0 := opn_field Try.underlying176 h 0 rfl cz4 (opn_bool ulr4)
  obtain ⟨y1, a1, c1, e1, b1, w1⟩ : ∃ (y1 : (List Int)) (a1 : Option Addr) (c1 : Nat), (cs.drop 1).take 1 = [.slice a1 y1.length c1] ∧ BorS kU8 a1 c1 y1 W.heap (Lt W Nil) ∧ (wfL wfU8) y1 := opn_field Try.underlying176 h 1 rfl cz37 (opn_slice (K := kU8) ulr37 cz5 (by decide) (opnK_U8 ulr5))
  have k0 := chunk cs 0 1
  have k1 := chunk cs 1 1
  have k2 : cs.drop 2 = [] := List.drop_of_length_le (by omega)
  rw [show 0 + 1 = 1 from rfl] at k0
  rw [show 1 + 1 = 2 from rfl] at k1
  exact ⟨⟨y0, y1⟩, ⟨a1, c1, (by show cs.drop 0 = _; rw [k0, e0, k1, e1, k2]; rfl), b1⟩, ⟨w0, w1⟩⟩
theorem opK178 {H : Type} {enc : TypeId × Value → H} {W : World} : OpnK enc Try.prog W 178 kTWet wfTWet := by
  intro fuel cs x h
  have hl := opn_len Try.underlying178 h cz178
  obtain ⟨y0, e0, w0⟩ : ∃ y0, (cs.drop 0).take 1 = [.int .i64 y0] ∧ wfI y0 := opn_field Try.underlying178 h 0 rfl cz3 (opn_i64 ulr3)
  obtain ⟨y1, a1, c1, e1, b1, w1⟩ : ∃ (y1 : (List Int)) (a1 : Option Addr) (c1 : Nat), (cs.drop 1).take 1 = [.slice a1 y1.length c1] ∧ BorS kU8 a1 c1 y1 W.heap (Lt W Nil) ∧ (wfL wfU8) y1 := opn_field Try.underlying178 h 1 rfl cz37 (opn_slice (K := kU8) ulr37 cz5 (by decide) (opnK_U8 ulr5))
  have k0 := chunk cs 0 1
  have k1 := chunk cs 1 1
  have k2 : cs.drop 2 = [] := List.drop_of_length_le (by omega)
  rw [show 0 + 1 = 1 from rfl] at k0
  rw [show 1 + 1 = 2 from rfl] at k1
  exact ⟨⟨y0, y1⟩, ⟨a1, c1, (by show cs.drop 0 = _; rw [k0, e0, k1, e1, k2]; rfl), b1⟩, ⟨w0, w1⟩⟩
theorem opM36 {H : Type} {enc : TypeId × Value → H} {W : World} : Opn enc Try.prog W 36 fun cs => ∃ (y9 : TDisk) (a9_0 : Option Addr) (c9_0 : Nat) (a9_1 : Option Addr) (c9_1 : Nat), cs = [.slice a9_0 (List.length y9.Cells) c9_0, .slice a9_1 (List.length y9.Wet) c9_1, .int .i64 y9.Fuse, .bool y9.Dead] ∧ BorS kTCell a9_0 c9_0 y9.Cells W.heap (Lt W Nil) ∧ BorS kTWet a9_1 c9_1 y9.Wet W.heap (Lt W Nil) ∧ wfTDisk y9 := by
  intro fuel cs x h
  have hl := opn_len Try.underlying36 h cz36
  obtain ⟨y0, a0, c0, e0, b0, w0⟩ : ∃ (y0 : (List TCell)) (a0 : Option Addr) (c0 : Nat), (cs.drop 0).take 1 = [.slice a0 y0.length c0] ∧ BorS kTCell a0 c0 y0 W.heap (Lt W Nil) ∧ (wfL wfTCell) y0 := opn_field Try.underlying36 h 0 rfl cz33 (opn_slice (K := kTCell) ulr33 cz176 (by decide) opK176)
  obtain ⟨y1, a1, c1, e1, b1, w1⟩ : ∃ (y1 : (List TWet)) (a1 : Option Addr) (c1 : Nat), (cs.drop 1).take 1 = [.slice a1 y1.length c1] ∧ BorS kTWet a1 c1 y1 W.heap (Lt W Nil) ∧ (wfL wfTWet) y1 := opn_field Try.underlying36 h 1 rfl cz34 (opn_slice (K := kTWet) ulr34 cz178 (by decide) opK178)
  obtain ⟨y2, e2, w2⟩ : ∃ y2, (cs.drop 2).take 1 = [.int .i64 y2] ∧ wfI y2 := opn_field Try.underlying36 h 2 rfl cz3 (opn_i64 ulr3)
  obtain ⟨y3, e3, w3⟩ : ∃ y3, (cs.drop 3).take 1 = [.bool y3] ∧ wfB y3 := opn_field Try.underlying36 h 3 rfl cz4 (opn_bool ulr4)
  have k0 := chunk cs 0 1
  have k1 := chunk cs 1 1
  have k2 := chunk cs 2 1
  have k3 := chunk cs 3 1
  have k4 : cs.drop 4 = [] := List.drop_of_length_le (by omega)
  rw [show 0 + 1 = 1 from rfl] at k0
  rw [show 1 + 1 = 2 from rfl] at k1
  rw [show 2 + 1 = 3 from rfl] at k2
  rw [show 3 + 1 = 4 from rfl] at k3
  exact ⟨⟨y0, y1, y2, y3⟩, a0, c0, a1, c1, (by show cs.drop 0 = _; rw [k0, e0, k1, e1, k2, e2, k3, e3, k4]; rfl), b0, b1, ⟨w0, w1, w2, w3⟩⟩
set_option maxRecDepth 100000 in
theorem laws_FnExactReadLog_lifted (os : Os) (started : os.Started) (H : Type) (enc : TypeId × Value → H) :
    ReturnsInHanded {} Try.checked os 14 .any (Rows.fnExactReadLogSpec.pre6 enc Try.prog Try.f14 Rows.fnExactReadLogRow.domain false) (Rows.fnExactReadLogSpec.post enc Try.prog Try.f14 false true false false) := by
  refine returnsInHanded_of_change (C := Try.checked) own_knob started (by kernel_rfl) Try.func14
    (ChangeSpec.witness6 (enc := enc) (C := Try.checked) false ⟨#[], #[.agg #[.slice none 0 0, .slice none 0 0, .int .i64 0, .bool false], .int .i64 0, .int .i64 0], []⟩ 8 (by kernel_rfl) (by kernel_rfl) (by kernel_rfl) (by kernel_rfl)) ?_
  intro W base args ds gs before hval0 hW _ _
  have hval : ∀ (j : Nat) t v, Try.f14.params[j]? = some t → args[j]? = some v → Value.okWide Try.prog W .any base t v := hval0
  have hW2 := hW
  obtain ⟨p, q, hA0, hV, _, _, _⟩ := hW
  have hA : DataW.TrodAll enc Try.prog W 0 (fun _ => true) true Try.f14.params.toList args.toList ds p := hA0
  obtain ⟨rfl, _⟩ := trodVars_none hV
  rw [Try.params14] at hA hval
  obtain ⟨v0, vs0, d0, ds0, p0, q0, hv0, rfl, h0, hB0⟩ := Sx.trodAll_cons hA
  obtain ⟨v1, vs1, d1, ds1, p1, q1, hv1, rfl, h1, hB1⟩ := Sx.trodAll_cons hB0
  subst hv1
  obtain ⟨v2, vs2, d2, ds2, p2, q2, hv2, rfl, h2, hB2⟩ := Sx.trodAll_cons hB1
  subst hv2
  obtain ⟨hvn, rfl⟩ := Sx.trodAll_nil hB2
  subst hvn
  have ha : args = #[v0, v1, v2] := Array.ext' hv0
  subst ha
  obtain ⟨fu0, hf0⟩ := h0
  obtain ⟨cs0, rfl⟩ := okWide_agg Try.underlying36 (hval 0 36 v0 rfl rfl)
  obtain ⟨y0, a0_0, c0_0, a0_1, c0_1, e0, b0_0, b0_1, w0⟩ : ∃ (y0 : TDisk) (a0_0 : Option Addr) (c0_0 : Nat) (a0_1 : Option Addr) (c0_1 : Nat), cs0.toList = [.slice a0_0 (List.length y0.Cells) c0_0, .slice a0_1 (List.length y0.Wet) c0_1, .int .i64 y0.Fuse, .bool y0.Dead] ∧ BorS kTCell a0_0 c0_0 y0.Cells W.heap (Lt W Nil) ∧ BorS kTWet a0_1 c0_1 y0.Wet W.heap (Lt W Nil) ∧ wfTDisk y0 := opM36 _ _ _ hf0
  obtain rfl : cs0 = List.toArray _ := Array.ext' e0
  obtain ⟨fu1, hf1⟩ := h1
  have hc1 := okWide_cell (.inl ⟨_, ulr3⟩) (hval 1 3 v1 rfl rfl)
  rw [hc1] at hf1
  obtain ⟨y1, e1, w1⟩ : ∃ y1, [v1] = [.int .i64 y1] ∧ wfI y1 := (opn_i64 ulr3) _ _ _ hf1
  obtain rfl : v1 = _ := List.cons.inj e1 |>.1
  obtain ⟨fu2, hf2⟩ := h2
  have hc2 := okWide_cell (.inl ⟨_, ulr3⟩) (hval 2 3 v2 rfl rfl)
  rw [hc2] at hf2
  obtain ⟨y2, e2, w2⟩ : ∃ y2, [v2] = [.int .i64 y2] ∧ wfI y2 := (opn_i64 ulr3) _ _ _ hf2
  obtain rfl : v2 = _ := List.cons.inj e2 |>.1
  obtain ⟨k, hk⟩ := laws_FnExactReadLog_true w0 w1 w2
  exact law_calls (s := Rows.fnExactReadLogSpec) (fn := Try.f14) rfl hW2 laid_out (by kernel_rfl) rfl ulr4 rfl (laws_FnExactReadLog_c b0_0 b0_1 hk)

theorem laws_FnExactReadLog_holds : Rows.FnExactReadLogSaid :=
  OpenClaim.holds_of_wide 14 Try.f14 rfl rfl rfl rfl rfl rfl rfl ⟨rfl, rfl, rfl, rfl, rfl⟩ rfl rfl rfl rfl rfl (by kernel_rfl) Try.func14 (by kernel_rfl)
    (of_decide_eq_true (by kernel_rfl)) (by unfold Func.isWrapper; first | (rw [if_pos (by decide +kernel)]; kernel_rfl) | (rw [if_neg (by decide +kernel)]; exact ⟨rfl, rfl⟩))
    (fun os started H enc _ => laws_FnExactReadLog_lifted os started H enc)
end Go.Proofs.Ytgfhnepkpbmbcaa
