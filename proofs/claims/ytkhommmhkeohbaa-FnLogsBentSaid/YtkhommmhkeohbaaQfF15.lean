import Derived.Test.YtkhommmhkeohbaaQfF14
import Derived.KernelRfl
namespace Go.Proofs.Sx
open Go.RowKit
set_option linter.unusedVariables false
set_option linter.unusedSimpArgs false
set_option maxRecDepth 20000
set_option maxHeartbeats 1000000
theorem laws_sameTx_c {w : World} {k : Nat} {p0 : TTx} {p1 : TTx} {a_0 : Option Addr} {c_0 : Nat} {a_1 : Option Addr} {c_1 : Nat} (hb_0 : BorS kTChange a_0 c_0 p0.Puts w.heap (Lt w Nil)) (hb_1 : BorS kTChange a_1 c_1 p1.Puts w.heap (Lt w Nil)) {r : Bool} (H : laws_sameTx k p0 p1 = some r) :
  Calls Try.prog 66 #[.agg #[vI p0.Seq, vI p0.Root, vI p0.Size, vS a_0 p0.Puts c_0], .agg #[vI p1.Seq, vI p1.Root, vI p1.Size, vS a_1 p1.Puts c_1]] w (Rt w Nil (fun _ : Unit => .bool r) (fun _ => [])) := by
 rw [laws_sameTx] at H
 refine Calls.enter0 (N := 70) (us := [_, _]) Try.func66 rfl rfl rfl ?_
 refine HQ.rseq ?_
 refine op [] [1] (OT.box (cs := [vI p0.Seq, vI p0.Root, vI p0.Size, vS a_0 p0.Puts c_0]) rfl) z1 trivial z4 (fun _ => rfl) fun b1 => ?_
 refine op [] [2] (OT.box (cs := [vI p1.Seq, vI p1.Root, vI p1.Size, vS a_1 p1.Puts c_1]) rfl) z1 trivial z4 (fun _ => rfl) fun b2 => ?_
 refine pu Pu.assign z1 z3 ?_
 refine HQ.done ?_
 refine HQ.keep [(2, _), (3, _), (4, _)] z3 ?_
 refine HQ.seq ?_
 refine HQ.rseq ?_
 refine pu (Pu.fieldB fo57_0 rfl) z1 z3 ?_
 refine op [1] [1] (OT.loadB sc3 rfl) z1 z1 z4 (fun _ => rfl) fun _ => ?_
 refine pu (Pu.fieldB fo57_0 rfl) z1 z3 ?_
 refine op [2] [2] (OT.loadB sc3 rfl) z1 z1 z4 (fun _ => rfl) fun _ => ?_
 refine pu Pu.neq z2 z3 ?_
 refine pu Pu.move z1 z3 ?_
 refine HQ.cutAt 6 [(17, .bool ((!decide (p0.Seq = p1.Seq)) || (!decide (p0.Root = p1.Root)))), (2, BP b1 0), (3, BP b2 0), (4, .bool false)] [(1, Box b1 [vI p0.Seq, vI p0.Root, vI p0.Size, vS a_0 p0.Puts c_0]), (2, Box b2 [vI p1.Seq, vI p1.Root, vI p1.Size, vS a_1 p1.Puts c_1])] ?_ ?_
 ·rcases Bool.eq_false_or_eq_true (!decide (p0.Seq = p1.Seq)) with hg3 | hg3
  ·refine HQ.off rfl rfl hg3 rfl ?_
   refine HQ.off rfl rfl hg3 rfl ?_
   refine HQ.off rfl rfl hg3 rfl ?_
   refine HQ.off rfl rfl hg3 rfl ?_
   refine HQ.off rfl rfl hg3 rfl ?_
   refine pu (Pu.pickOT (u := (!decide (p0.Root = p1.Root))) hg3) z2 z3 ?_
   exact HQ.mid z4 z2 rfl
  ·refine HQ.on rfl rfl hg3 ?_
   refine pu (Pu.fieldB fo57_1 rfl) z1 z3 ?_
   refine HQ.on rfl rfl hg3 ?_
   refine op [1] [1] (OT.loadB sc3 rfl) z1 z1 z4 (fun _ => rfl) fun _ => ?_
   refine HQ.on rfl rfl hg3 ?_
   refine pu (Pu.fieldB fo57_1 rfl) z1 z3 ?_
   refine HQ.on rfl rfl hg3 ?_
   refine op [2] [2] (OT.loadB sc3 rfl) z1 z1 z4 (fun _ => rfl) fun _ => ?_
   refine HQ.on rfl rfl hg3 ?_
   refine pu Pu.neq z2 z3 ?_
   refine pu (Pu.pickOF hg3) z2 z3 ?_
   exact HQ.mid z4 z2 rfl
 refine pu Pu.move z1 z3 ?_
 refine HQ.cutAt 6 [(24, .bool (((!decide (p0.Seq = p1.Seq)) || (!decide (p0.Root = p1.Root))) || (!decide (p0.Size = p1.Size)))), (2, BP b1 0), (3, BP b2 0), (4, .bool false)] [(1, Box b1 [vI p0.Seq, vI p0.Root, vI p0.Size, vS a_0 p0.Puts c_0]), (2, Box b2 [vI p1.Seq, vI p1.Root, vI p1.Size, vS a_1 p1.Puts c_1])] ?_ ?_
 ·rcases Bool.eq_false_or_eq_true ((!decide (p0.Seq = p1.Seq)) || (!decide (p0.Root = p1.Root))) with hg4 | hg4
  ·refine HQ.off rfl rfl hg4 rfl ?_
   refine HQ.off rfl rfl hg4 rfl ?_
   refine HQ.off rfl rfl hg4 rfl ?_
   refine HQ.off rfl rfl hg4 rfl ?_
   refine HQ.off rfl rfl hg4 rfl ?_
   refine pu (Pu.pickOT (u := (!decide (p0.Size = p1.Size))) hg4) z2 z3 ?_
   exact HQ.mid z4 z2 rfl
  ·refine HQ.on rfl rfl hg4 ?_
   refine pu (Pu.fieldB fo57_2 rfl) z1 z3 ?_
   refine HQ.on rfl rfl hg4 ?_
   refine op [1] [1] (OT.loadB sc3 rfl) z1 z1 z4 (fun _ => rfl) fun _ => ?_
   refine HQ.on rfl rfl hg4 ?_
   refine pu (Pu.fieldB fo57_2 rfl) z1 z3 ?_
   refine HQ.on rfl rfl hg4 ?_
   refine op [2] [2] (OT.loadB sc3 rfl) z1 z1 z4 (fun _ => rfl) fun _ => ?_
   refine HQ.on rfl rfl hg4 ?_
   refine pu Pu.neq z2 z3 ?_
   refine pu (Pu.pickOF hg4) z2 z3 ?_
   exact HQ.mid z4 z2 rfl
 refine pu Pu.move z1 z3 ?_
 refine HQ.cutAt 8 [(33, .bool ((((!decide (p0.Seq = p1.Seq)) || (!decide (p0.Root = p1.Root))) || (!decide (p0.Size = p1.Size))) || (!decide (((List.length p0.Puts : Nat) : Int) = ((List.length p1.Puts : Nat) : Int))))), (2, BP b1 0), (3, BP b2 0), (4, .bool false)] [(1, Box b1 [vI p0.Seq, vI p0.Root, vI p0.Size, vS a_0 p0.Puts c_0]), (2, Box b2 [vI p1.Seq, vI p1.Root, vI p1.Size, vS a_1 p1.Puts c_1])] ?_ ?_
 ·rcases Bool.eq_false_or_eq_true (((!decide (p0.Seq = p1.Seq)) || (!decide (p0.Root = p1.Root))) || (!decide (p0.Size = p1.Size))) with hg5 | hg5
  ·refine HQ.off rfl rfl hg5 rfl ?_
   refine HQ.off rfl rfl hg5 rfl ?_
   refine HQ.off rfl rfl hg5 rfl ?_
   refine HQ.off rfl rfl hg5 rfl ?_
   refine HQ.off rfl rfl hg5 rfl ?_
   refine HQ.off rfl rfl hg5 rfl ?_
   refine HQ.off rfl rfl hg5 rfl ?_
   refine pu (Pu.pickOT (u := (!decide (((List.length p0.Puts : Nat) : Int) = ((List.length p1.Puts : Nat) : Int)))) hg5) z2 z3 ?_
   exact HQ.mid z4 z2 rfl
  ·refine HQ.on rfl rfl hg5 ?_
   refine pu (Pu.fieldB fo57_3 rfl) z1 z3 ?_
   refine HQ.on rfl rfl hg5 ?_
   refine op [1] [1] (OT.loadB sc55 rfl) z1 z1 z4 (fun _ => rfl) fun _ => ?_
   refine HQ.on rfl rfl hg5 ?_
   refine pu (Pu.len ul55) z1 z3 ?_
   refine HQ.on rfl rfl hg5 ?_
   refine pu (Pu.fieldB fo57_3 rfl) z1 z3 ?_
   refine HQ.on rfl rfl hg5 ?_
   refine op [2] [2] (OT.loadB sc55 rfl) z1 z1 z4 (fun _ => rfl) fun _ => ?_
   refine HQ.on rfl rfl hg5 ?_
   refine pu (Pu.len ul55) z1 z3 ?_
   refine HQ.on rfl rfl hg5 ?_
   refine pu Pu.neq z2 z3 ?_
   refine pu (Pu.pickOF hg5) z2 z3 ?_
   exact HQ.mid z4 z2 rfl
 refine HQ.done ?_
 refine HQ.keep [(33, _), (2, _), (3, _), (4, _)] z4 ?_
 rcases brk H with ⟨hc, H⟩ | ⟨hc, H⟩
 ·refine HQ.condT rfl hc ?_
  clear hc
  refine HQ.rseq ?_
  refine pu Pu.assign z1 z3 ?_
  refine HQ.done ?_
  refine HQ.keep [(2, _), (3, _), (4, _)] z3 ?_
  refine HQ.ret ?_
  refine HQ.thenR ?_
  obtain rfl := Option.some.inj H
  exact HQ.fin (vs := [_]) Try.results66 () z1 rfl [] trivial rfl
 ·refine HQ.condF rfl hc ?_
  clear hc
  refine HQ.skipThen ?_
  refine HQ.seq ?_
  refine HQ.rseq ?_
  refine pu Pu.assign z1 z3 ?_
  refine HQ.done ?_
  refine HQ.keep [(2, _), (3, _), (4, _), (5, _)] z4 ?_
  refine HQ.block ?_
  obtain ⟨o91, h93, H⟩ := bnd H
  refine HQ.loop h93 0 (fun (s : Int) (g : Unit) => match s, g with | i34, () => [(2, BP b1 0), (3, BP b2 0), (4, .bool false), (5, vI i34)]) (fun (s : Int) (g : Unit) => match s, g with | i34, () => [(1, Box b1 [vI p0.Seq, vI p0.Root, vI p0.Size, vS a_0 p0.Puts c_0]), (2, Box b2 [vI p1.Seq, vI p1.Root, vI p1.Size, vS a_1 p1.Puts c_1])]) (fun r => bodyPost Try.prog Try.f66 (Rt w Nil (fun _ : Unit => .bool r) (fun _ => [])) .ret) () z4 z2 rfl ?_ ?_ ?_
  ·clear H h93
   rintro i34 _ o H
   rw [laws_sameTx_b0] at H
   refine HQ.keep [(2, _), (3, _), (4, _), (5, _)] z4 ?_
   refine HQ.keepR [(1, _), (2, _)] z2 rfl ?_
   refine HQ.seq ?_
   refine HQ.rseq ?_
   refine pu Pu.move z1 z3 ?_
   refine pu (Pu.fieldB fo57_3 rfl) z1 z3 ?_
   refine op [1] [1] (OT.loadB sc55 rfl) z1 z1 z4 (fun _ => rfl) fun _ => ?_
   refine pu (Pu.len ul55) z1 z3 ?_
   refine pu Pu.lss z2 z3 ?_
   refine HQ.done ?_
   refine HQ.keep [(2, _), (3, _), (4, _), (5, _), (38, _)] z5 ?_
   rcases brk H with ⟨hc, H⟩ | ⟨hc, H⟩
   ·refine HQ.condT rfl hc ?_
    clear hc
    refine HQ.skipThen ?_
    refine HQ.seq ?_
    refine HQ.block ?_
    refine HQ.seq ?_
    refine HQ.dStart mixd ?_
    obtain ⟨h64, H⟩ := asr H
    obtain ⟨h69, H⟩ := asr H
    obtain ⟨⟨a65, c66⟩, hb67, hn68⟩ := BorS.nest hb_0 h64
    obtain ⟨⟨a70, c71⟩, hb72, hn73⟩ := BorS.nest hb_1 h69
    refine HQ.dPart [(2, BP b1 0), (3, BP b2 0), (4, .bool false), (5, vI i34)] 12 [⟨[], [], []⟩, ⟨[0], [0], [0]⟩, ⟨[], [], []⟩, ⟨[], [], [1, 2]⟩, ⟨[], [], [3]⟩, ⟨[], [], [4]⟩, ⟨[], [], []⟩, ⟨[1], [1], [6]⟩, ⟨[], [], []⟩, ⟨[], [], [7, 8]⟩, ⟨[], [], [9]⟩, ⟨[], [], [10]⟩] [⟨none, none⟩, ⟨none, none⟩] (fun (g63 : Unit) => [BP b1 3, vS a_0 p0.Puts c_0, vI i34, EP a_0 i34 3 0, EP a_0 i34 3 0, vI ((gt p0.Puts i34).Page), BP b2 3, vS a_1 p1.Puts c_1, vI i34, EP a_1 i34 3 0, EP a_1 i34 3 0, vI ((gt p1.Puts i34).Page)]) (fun (g63 : Unit) => [Box b1 [vI p0.Seq, vI p0.Root, vI p0.Size, vS a_0 p0.Puts c_0], Box b2 [vI p1.Seq, vI p1.Root, vI p1.Size, vS a_1 p1.Puts c_1]]) () [1, 2] [1, 2] [] z4 z2 rfl (by kernel_rfl) (by kernel_rfl) (fun _ => rfl) (by kernel_rfl) (fun _ => rfl) rfl ⟨?_, ?_, ?_, ?_, ?_, ?_, ?_, ?_, ?_, ?_, ?_, ?_, trivial⟩ fun g63 => ?_
    ·exact OpOK2.pu (fun g63 => [(.tmp 2, BP b1 0)]) z2 (fun _ => z1) (fun _ => (Pu.fieldB fo57_3 rfl)) (fun _ => z1) (fun _ _ => z4)
    ·exact OpOK2.of (fun g63 => [(.tmp 41, BP b1 3)]) _ _ (fun g63 _ => g63) rfl rfl (fun _ => z1) (fun g63 => OT.loadB sc55 rfl) (fun _ _ => z4)
    ·exact OpOK2.pu (fun g63 => [(.tmp 5, vI i34)]) z2 (fun _ => z1) (fun _ => Pu.move) (fun _ => z1) (fun _ _ => z4)
    ·exact OpOK2.of (fun g63 => [(.tmp 42, vS a_0 p0.Puts c_0), (.tmp 43, vI i34)]) _ _ (fun g63 _ => g63) rfl rfl (fun _ => z2) (fun g63 => OT.indexB ul55 sz49 hb_0 h64) (fun _ _ => z4)
    ·exact OpOK2.pu (fun g63 => [(.tmp 44, EP a_0 i34 3 0)]) z2 (fun _ => z1) (fun _ => (Pu.fieldE fo49_0 rfl)) (fun _ => z1) (fun _ _ => z4)
    ·exact OpOK2.of (fun g63 => [(.tmp 45, EP a_0 i34 3 0)]) _ _ (fun g63 _ => g63) rfl rfl (fun _ => z1) (fun g63 => OT.loadN (v := vI ((gt p0.Puts i34).Page)) sc3 hn68 hlTChange rfl) (fun _ _ => z4)
    ·exact OpOK2.pu (fun g63 => [(.tmp 3, BP b2 0)]) z2 (fun _ => z1) (fun _ => (Pu.fieldB fo57_3 rfl)) (fun _ => z1) (fun _ _ => z4)
    ·exact OpOK2.of (fun g63 => [(.tmp 47, BP b2 3)]) _ _ (fun g63 _ => g63) rfl rfl (fun _ => z1) (fun g63 => OT.loadB sc55 rfl) (fun _ _ => z4)
    ·exact OpOK2.pu (fun g63 => [(.tmp 5, vI i34)]) z2 (fun _ => z1) (fun _ => Pu.move) (fun _ => z1) (fun _ _ => z4)
    ·exact OpOK2.of (fun g63 => [(.tmp 48, vS a_1 p1.Puts c_1), (.tmp 49, vI i34)]) _ _ (fun g63 _ => g63) rfl rfl (fun _ => z2) (fun g63 => OT.indexB ul55 sz49 hb_1 h69) (fun _ _ => z4)
    ·exact OpOK2.pu (fun g63 => [(.tmp 50, EP a_1 i34 3 0)]) z2 (fun _ => z1) (fun _ => (Pu.fieldE fo49_0 rfl)) (fun _ => z1) (fun _ _ => z4)
    ·exact OpOK2.of (fun g63 => [(.tmp 51, EP a_1 i34 3 0)]) _ _ (fun g63 _ => g63) rfl rfl (fun _ => z1) (fun g63 => OT.loadN (v := vI ((gt p1.Puts i34).Page)) sc3 hn73 hlTChange rfl) (fun _ _ => z4)
    refine HQ.keep [(2, _), (3, _), (4, _), (5, _), (46, _), (52, _)] z6 ?_
    refine HQ.keepR [(1, _), (2, _)] z2 rfl ?_
    refine HQ.dRun 2 rfl rfl (by kernel_rfl) (by kernel_rfl) ?_
    refine pu Pu.neq z2 z3 ?_
    refine pu Pu.move z1 z3 ?_
    refine HQ.done ?_
    obtain ⟨c89, h90, H⟩ := bnd H
    refine HQ.dMid (m' := 29) [(69, .bool c89), (2, BP b1 0), (3, BP b2 0), (4, .bool false), (5, vI i34)] [(1, Box b1 [vI p0.Seq, vI p0.Root, vI p0.Size, vS a_0 p0.Puts c_0]), (2, Box b2 [vI p1.Seq, vI p1.Root, vI p1.Size, vS a_1 p1.Puts c_1])] (fun hmid => ?_) ?_
    ·clear H
     have H := h90
     rcases brk H with ⟨hg74, H⟩ | ⟨hg74, H⟩
     ·obtain rfl := Option.some.inj H
      refine HQ.dPart [(2, BP b1 0), (3, BP b2 0), (4, .bool false), (5, vI i34), (54, .bool (!decide (((gt p0.Puts i34).Page) = ((gt p1.Puts i34).Page))))] 26 [⟨[], [], []⟩, ⟨[], [], []⟩, ⟨[], [], []⟩, ⟨[], [], []⟩, ⟨[], [], []⟩, ⟨[], [], []⟩, ⟨[], [], []⟩, ⟨[], [], []⟩, ⟨[], [], []⟩, ⟨[], [], []⟩, ⟨[], [], []⟩, ⟨[], [], []⟩, ⟨[], [], []⟩, ⟨[], [], []⟩, ⟨[], [], []⟩, ⟨[], [], []⟩, ⟨[], [], []⟩, ⟨[], [], []⟩, ⟨[], [], []⟩, ⟨[], [], []⟩, ⟨[], [], []⟩, ⟨[], [], []⟩, ⟨[], [], []⟩, ⟨[], [], []⟩, ⟨[], [], []⟩, ⟨[], [], []⟩] [] (fun (g88 : Unit) => [undef, undef, undef, undef, undef, undef, undef, undef, undef, undef, undef, undef, undef, undef, undef, undef, undef, undef, undef, undef, undef, undef, undef, undef, undef, undef]) (fun (g88 : Unit) => []) () [] [] [] z5 trivial rfl (by kernel_rfl) (by kernel_rfl) (fun _ => rfl) (by kernel_rfl) (fun _ => rfl) rfl ⟨?_, ?_, ?_, ?_, ?_, ?_, ?_, ?_, ?_, ?_, ?_, ?_, trivial⟩ fun g88 => ?_
      ·exact OpOK2.off rfl rfl rfl hg74 rfl rfl (fun _ => z1)
      ·exact OpOK2.off rfl rfl rfl hg74 rfl rfl (fun _ => z1)
      ·exact OpOK2.off rfl rfl rfl hg74 rfl rfl (fun _ => z1)
      ·exact OpOK2.off rfl rfl rfl hg74 rfl rfl (fun _ => z1)
      ·exact OpOK2.off rfl rfl rfl hg74 rfl rfl (fun _ => z1)
      ·exact OpOK2.off rfl rfl rfl hg74 rfl rfl (fun _ => z1)
      ·exact OpOK2.off rfl rfl rfl hg74 rfl rfl (fun _ => z1)
      ·exact OpOK2.off rfl rfl rfl hg74 rfl rfl (fun _ => z1)
      ·exact OpOK2.off rfl rfl rfl hg74 rfl rfl (fun _ => z1)
      ·exact OpOK2.off rfl rfl rfl hg74 rfl rfl (fun _ => z1)
      ·exact OpOK2.off rfl rfl rfl hg74 rfl rfl (fun _ => z1)
      ·exact OpOK2.off rfl rfl rfl hg74 rfl rfl (fun _ => z1)
      refine HQ.keep [(2, _), (3, _), (4, _), (5, _), (54, _), (55, _), (56, _), (57, _), (58, _), (59, _), (60, _), (61, _), (62, _), (63, _), (64, _), (65, _), (66, _)] z17 ?_
      refine HQ.keepR [(1, _), (2, _)] z2 rfl ?_
      refine HQ.dRun 2 rfl rfl (by kernel_rfl) (by kernel_rfl) ?_
      refine HQ.off rfl rfl hg74 rfl ?_
      refine HQ.off rfl rfl hg74 rfl ?_
      refine HQ.done ?_
      refine HQ.dRun 1 rfl rfl (by kernel_rfl) (by kernel_rfl) ?_
      refine pu (Pu.pickC1 hg74) z2 z3 ?_
      refine HQ.done ?_
      exact HQ.dUse hmid z5 z2 rfl
     ·obtain ⟨h76, H⟩ := asr H
      obtain ⟨h81, H⟩ := asr H
      obtain ⟨⟨a77, c78⟩, hb79, hn80⟩ := BorS.nest hb_0 h76
      obtain ⟨⟨a82, c83⟩, hb84, hn85⟩ := BorS.nest hb_1 h81
      refine HQ.dPart [(2, BP b1 0), (3, BP b2 0), (4, .bool false), (5, vI i34), (54, .bool (!decide (((gt p0.Puts i34).Page) = ((gt p1.Puts i34).Page))))] 26 [⟨[], [], []⟩, ⟨[], [], []⟩, ⟨[], [], []⟩, ⟨[], [], []⟩, ⟨[], [], []⟩, ⟨[], [], []⟩, ⟨[], [], []⟩, ⟨[], [], []⟩, ⟨[], [], []⟩, ⟨[], [], []⟩, ⟨[], [], []⟩, ⟨[], [], []⟩, ⟨[], [], []⟩, ⟨[], [], []⟩, ⟨[], [], []⟩, ⟨[0], [0], [14]⟩, ⟨[], [], []⟩, ⟨[], [], [15, 16]⟩, ⟨[], [], [17]⟩, ⟨[], [], [18]⟩, ⟨[], [], []⟩, ⟨[1], [1], [20]⟩, ⟨[], [], []⟩, ⟨[], [], [21, 22]⟩, ⟨[], [], [23]⟩, ⟨[], [], [24]⟩] [⟨none, none⟩, ⟨none, none⟩] (fun (g75 : Unit) => [undef, undef, undef, undef, undef, undef, undef, undef, undef, undef, undef, undef, undef, undef, BP b1 3, vS a_0 p0.Puts c_0, vI i34, EP a_0 i34 3 0, EP a_0 i34 3 1, .agg #[.bool ((gt p0.Puts i34).N.Leaf), vS a77 ((gt p0.Puts i34).N.L) c78], BP b2 3, vS a_1 p1.Puts c_1, vI i34, EP a_1 i34 3 0, EP a_1 i34 3 1, .agg #[.bool ((gt p1.Puts i34).N.Leaf), vS a82 ((gt p1.Puts i34).N.L) c83]]) (fun (g75 : Unit) => [Box b1 [vI p0.Seq, vI p0.Root, vI p0.Size, vS a_0 p0.Puts c_0], Box b2 [vI p1.Seq, vI p1.Root, vI p1.Size, vS a_1 p1.Puts c_1]]) () [1, 2] [1, 2] [] z5 z2 rfl (by kernel_rfl) (by kernel_rfl) (fun _ => rfl) (by kernel_rfl) (fun _ => rfl) rfl ⟨?_, ?_, ?_, ?_, ?_, ?_, ?_, ?_, ?_, ?_, ?_, ?_, trivial⟩ fun g75 => ?_
      ·exact OpOK2.on (fun g75 => [(.tmp 2, BP b1 0)]) _ _ (fun g75 _ => g75) rfl rfl rfl hg74 (fun _ => z1) (fun g75 => Pu.toOT (Pu.fieldB fo57_3 rfl)) (fun _ _ => z4)
      ·exact OpOK2.on (fun g75 => [(.tmp 55, BP b1 3)]) _ _ (fun g75 _ => g75) rfl rfl rfl hg74 (fun _ => z1) (fun g75 => OT.loadB sc55 rfl) (fun _ _ => z4)
      ·exact OpOK2.on (fun g75 => [(.tmp 5, vI i34)]) _ _ (fun g75 _ => g75) rfl rfl rfl hg74 (fun _ => z1) (fun g75 => Pu.toOT Pu.move) (fun _ _ => z4)
      ·exact OpOK2.on (fun g75 => [(.tmp 56, vS a_0 p0.Puts c_0), (.tmp 57, vI i34)]) _ _ (fun g75 _ => g75) rfl rfl rfl hg74 (fun _ => z2) (fun g75 => OT.indexB ul55 sz49 hb_0 h76) (fun _ _ => z4)
      ·exact OpOK2.on (fun g75 => [(.tmp 58, EP a_0 i34 3 0)]) _ _ (fun g75 _ => g75) rfl rfl rfl hg74 (fun _ => z1) (fun g75 => Pu.toOT (Pu.fieldE fo49_1 rfl)) (fun _ _ => z4)
      ·exact OpOK2.on (fun g75 => [(.tmp 59, EP a_0 i34 3 1)]) _ _ (fun g75 _ => g75) rfl rfl rfl hg74 (fun _ => z1) (fun g75 => OT.loadNA (vs := [.bool ((gt p0.Puts i34).N.Leaf), vS a77 ((gt p0.Puts i34).N.L) c78]) ag47 sz47 hn80 hlTChange rfl rfl) (fun _ _ => z4)
      ·exact OpOK2.on (fun g75 => [(.tmp 3, BP b2 0)]) _ _ (fun g75 _ => g75) rfl rfl rfl hg74 (fun _ => z1) (fun g75 => Pu.toOT (Pu.fieldB fo57_3 rfl)) (fun _ _ => z4)
      ·exact OpOK2.on (fun g75 => [(.tmp 61, BP b2 3)]) _ _ (fun g75 _ => g75) rfl rfl rfl hg74 (fun _ => z1) (fun g75 => OT.loadB sc55 rfl) (fun _ _ => z4)
      ·exact OpOK2.on (fun g75 => [(.tmp 5, vI i34)]) _ _ (fun g75 _ => g75) rfl rfl rfl hg74 (fun _ => z1) (fun g75 => Pu.toOT Pu.move) (fun _ _ => z4)
      ·exact OpOK2.on (fun g75 => [(.tmp 62, vS a_1 p1.Puts c_1), (.tmp 63, vI i34)]) _ _ (fun g75 _ => g75) rfl rfl rfl hg74 (fun _ => z2) (fun g75 => OT.indexB ul55 sz49 hb_1 h81) (fun _ _ => z4)
      ·exact OpOK2.on (fun g75 => [(.tmp 64, EP a_1 i34 3 0)]) _ _ (fun g75 _ => g75) rfl rfl rfl hg74 (fun _ => z1) (fun g75 => Pu.toOT (Pu.fieldE fo49_1 rfl)) (fun _ _ => z4)
      ·exact OpOK2.on (fun g75 => [(.tmp 65, EP a_1 i34 3 1)]) _ _ (fun g75 _ => g75) rfl rfl rfl hg74 (fun _ => z1) (fun g75 => OT.loadNA (vs := [.bool ((gt p1.Puts i34).N.Leaf), vS a82 ((gt p1.Puts i34).N.L) c83]) ag47 sz47 hn85 hlTChange rfl rfl) (fun _ _ => z4)
      refine HQ.keep [(2, _), (3, _), (4, _), (5, _), (54, _), (55, _), (56, _), (57, _), (58, _), (59, _), (60, _), (61, _), (62, _), (63, _), (64, _), (65, _), (66, _)] z17 ?_
      refine HQ.keepR [(1, _), (2, _)] z2 rfl ?_
      refine HQ.dRun 2 rfl rfl (by kernel_rfl) (by kernel_rfl) ?_
      refine HQ.on rfl rfl hg74 ?_
      obtain ⟨t86, h87, H⟩ := bnd H
      refine op [] [] (OT.call (us := [_, _]) (Pre := []) [.tmp 60, .tmp 66] Try.call37 rfl rfl fun w F hs hF hp => impl_SameNode_c (p0 := (gt p0.Puts i34).N) (p1 := (gt p1.Puts i34).N) (hb79.pass hp) (hb84.pass hp) h87) z3 trivial z4 (fun _ => rfl) fun _ => ?_
      refine HQ.on rfl rfl hg74 ?_
      refine pu Pu.not z1 z3 ?_
      refine HQ.done ?_
      obtain rfl := Option.some.inj H
      refine HQ.dRun 1 rfl rfl (by kernel_rfl) (by kernel_rfl) ?_
      refine pu (Pu.pickC0 hg74) z2 z3 ?_
      refine HQ.done ?_
      exact HQ.dUse hmid z5 z2 rfl
    refine HQ.dEnd rfl ?_
    refine HQ.thenN ?_
    refine HQ.keep [(69, _), (2, _), (3, _), (4, _), (5, _)] z5 ?_
    rcases brk H with ⟨hc, H⟩ | ⟨hc, H⟩
    ·refine HQ.condT rfl hc ?_
     clear hc
     refine HQ.rseq ?_
     refine pu Pu.assign z1 z3 ?_
     refine HQ.done ?_
     refine HQ.keep [(2, _), (3, _), (4, _), (5, _)] z4 ?_
     refine HQ.ret ?_
     refine HQ.blkR ?_
     refine HQ.thenR ?_
     obtain rfl := Option.some.inj H
     refine HQ.retL ?_
     exact HQ.fin (vs := [_]) Try.results66 () z1 rfl [] trivial rfl
    ·refine HQ.condF rfl hc ?_
     clear hc
     refine HQ.skip ?_
     refine HQ.blkN ?_
     refine HQ.thenN ?_
     refine HQ.regionQ ?_
     refine pu Pu.move z1 z3 ?_
     refine pu Pu.add z2 z3 ?_
     refine pu Pu.assign z1 z3 ?_
     refine HQ.done ?_
     refine HQ.keep [(2, _), (3, _), (4, _), (5, _)] z4 ?_
     obtain rfl := Option.some.inj H
     exact HQ.next () z4 z2 rfl
   ·refine HQ.condF rfl hc ?_
    clear hc
    refine HQ.exit ?_
    refine HQ.thenE ?_
    obtain rfl := Option.some.inj H
    exact HQ.out () z4 z2 rfl
  ·rintro i92 rfl _
   clear h93
   replace H := H
   refine HQ.keep [(2, _), (3, _), (4, _), (5, _)] z4 ?_
   refine HQ.keepR [(1, _), (2, _)] z2 rfl ?_
   refine HQ.blkE ?_
   refine HQ.thenN ?_
   refine HQ.rseq ?_
   refine pu Pu.assign z1 z3 ?_
   refine HQ.done ?_
   refine HQ.keep [(4, _)] z1 ?_
   refine HQ.ret ?_
   obtain rfl := Option.some.inj H
   exact HQ.fin (vs := [_]) Try.results66 () z1 rfl [] trivial rfl
  ·rintro r rfl a w hr
   obtain rfl := Option.some.inj H
   exact hr

theorem laws_sameTxs_c {w : World} {k : Nat} {p0 : (List TTx)} {p1 : (List TTx)} {a_0 : Option Addr} {c_0 : Nat} {a_1 : Option Addr} {c_1 : Nat} (hb_0 : BorS kTTx a_0 c_0 p0 w.heap (Lt w Nil)) (hb_1 : BorS kTTx a_1 c_1 p1 w.heap (Lt w Nil)) {r : Bool} (H : laws_sameTxs k p0 p1 = some r) :
  Calls Try.prog 56 #[vS a_0 p0 c_0, vS a_1 p1 c_1] w (Rt w Nil (fun _ : Unit => .bool r) (fun _ => [])) := by
 rw [laws_sameTxs] at H
 refine Calls.enter0 (N := 27) (us := [_, _]) Try.func56 rfl rfl rfl ?_
 refine HQ.rseq ?_
 refine pu Pu.assign z1 z3 ?_
 refine HQ.done ?_
 refine HQ.keep [(0, _), (1, _), (4, _)] z3 ?_
 refine HQ.seq ?_
 refine HQ.rseq ?_
 refine pu Pu.move z1 z3 ?_
 refine pu (Pu.len ul80) z1 z3 ?_
 refine pu Pu.move z1 z3 ?_
 refine pu (Pu.len ul80) z1 z3 ?_
 refine pu Pu.neq z2 z3 ?_
 refine HQ.done ?_
 refine HQ.keep [(0, _), (1, _), (4, _), (10, _)] z4 ?_
 rcases brk H with ⟨hc, H⟩ | ⟨hc, H⟩
 ·refine HQ.condT rfl hc ?_
  clear hc
  refine HQ.rseq ?_
  refine pu Pu.assign z1 z3 ?_
  refine HQ.done ?_
  refine HQ.keep [(0, _), (1, _), (4, _)] z3 ?_
  refine HQ.ret ?_
  refine HQ.thenR ?_
  obtain rfl := Option.some.inj H
  exact HQ.fin (vs := [_]) Try.results56 () z1 rfl [] trivial rfl
 ·refine HQ.condF rfl hc ?_
  clear hc
  refine HQ.skipThen ?_
  refine HQ.seq ?_
  refine HQ.rseq ?_
  refine pu Pu.assign z1 z3 ?_
  refine HQ.done ?_
  refine HQ.keep [(0, _), (1, _), (4, _), (5, _)] z4 ?_
  refine HQ.block ?_
  obtain ⟨o41, h43, H⟩ := bnd H
  refine HQ.loop h43 0 (fun (s : Int) (g : Unit) => match s, g with | i14, () => [(0, vS a_0 p0 c_0), (1, vS a_1 p1 c_1), (4, .bool false), (5, vI i14)]) (fun (s : Int) (g : Unit) => match s, g with | i14, () => []) (fun r => bodyPost Try.prog Try.f56 (Rt w Nil (fun _ : Unit => .bool r) (fun _ => [])) .ret) () z4 trivial rfl ?_ ?_ ?_
  ·clear H h43
   rintro i14 _ o H
   rw [laws_sameTxs_b0] at H
   refine HQ.keep [(0, _), (1, _), (4, _), (5, _)] z4 ?_
   refine HQ.keepR [] trivial rfl ?_
   refine HQ.seq ?_
   refine HQ.rseq ?_
   refine pu Pu.move z1 z3 ?_
   refine pu Pu.move z1 z3 ?_
   refine pu (Pu.len ul80) z1 z3 ?_
   refine pu Pu.lss z2 z3 ?_
   refine HQ.done ?_
   refine HQ.keep [(0, _), (1, _), (4, _), (5, _), (14, _)] z5 ?_
   rcases brk H with ⟨hc, H⟩ | ⟨hc, H⟩
   ·refine HQ.condT rfl hc ?_
    clear hc
    refine HQ.skipThen ?_
    refine HQ.seq ?_
    refine HQ.block ?_
    obtain ⟨h29, H⟩ := asr H
    obtain ⟨h34, H⟩ := asr H
    obtain ⟨⟨a30, c31⟩, hb32, hn33⟩ := BorS.nest hb_0 h29
    obtain ⟨⟨a35, c36⟩, hb37, hn38⟩ := BorS.nest hb_1 h34
    refine HQ.drawS mixd [(0, vS a_0 p0 c_0), (1, vS a_1 p1 c_1), (4, .bool false), (5, vI i14)] 8 [⟨[], [], []⟩, ⟨[], [], []⟩, ⟨[], [], [0, 1]⟩, ⟨[], [], [2]⟩, ⟨[], [], []⟩, ⟨[], [], []⟩, ⟨[], [], [4, 5]⟩, ⟨[], [], [6]⟩] [] (fun (g28 : Unit) => [vS a_0 p0 c_0, vI i14, EP a_0 i14 4 0, .agg #[vI ((gt p0 i14).Seq), vI ((gt p0 i14).Root), vI ((gt p0 i14).Size), vS a30 ((gt p0 i14).Puts) c31], vS a_1 p1 c_1, vI i14, EP a_1 i14 4 0, .agg #[vI ((gt p1 i14).Seq), vI ((gt p1 i14).Root), vI ((gt p1 i14).Size), vS a35 ((gt p1 i14).Puts) c36]]) (fun (g28 : Unit) => []) () [] [] [] z4 trivial rfl (by kernel_rfl) (fun _ => rfl) (by kernel_rfl) (fun _ => rfl) ⟨?_, ?_, ?_, ?_, ?_, ?_, ?_, ?_, trivial⟩ fun g28 => ?_
    ·exact OpOK.pu (fun g28 => [(.tmp 0, vS a_0 p0 c_0)]) z2 (fun _ => z1) (fun _ => Pu.move) (fun _ => z1) (fun _ _ => z2)
    ·exact OpOK.pu (fun g28 => [(.tmp 5, vI i14)]) z2 (fun _ => z1) (fun _ => Pu.move) (fun _ => z1) (fun _ _ => z2)
    ·exact OpOK.of (fun g28 => [(.tmp 17, vS a_0 p0 c_0), (.tmp 18, vI i14)]) _ _ (fun g28 _ => g28) rfl rfl (fun _ => z2) (fun g28 => OT.indexB ul80 sz57 hb_0 h29) (fun _ _ => z2)
    ·exact OpOK.of (fun g28 => [(.tmp 19, EP a_0 i14 4 0)]) _ _ (fun g28 _ => g28) rfl rfl (fun _ => z1) (fun g28 => OT.loadNA (vs := [vI ((gt p0 i14).Seq), vI ((gt p0 i14).Root), vI ((gt p0 i14).Size), vS a30 ((gt p0 i14).Puts) c31]) ag57 sz57 hn33 hlTTx rfl rfl) (fun _ _ => z2)
    ·exact OpOK.pu (fun g28 => [(.tmp 1, vS a_1 p1 c_1)]) z2 (fun _ => z1) (fun _ => Pu.move) (fun _ => z1) (fun _ _ => z2)
    ·exact OpOK.pu (fun g28 => [(.tmp 5, vI i14)]) z2 (fun _ => z1) (fun _ => Pu.move) (fun _ => z1) (fun _ _ => z2)
    ·exact OpOK.of (fun g28 => [(.tmp 21, vS a_1 p1 c_1), (.tmp 22, vI i14)]) _ _ (fun g28 _ => g28) rfl rfl (fun _ => z2) (fun g28 => OT.indexB ul80 sz57 hb_1 h34) (fun _ _ => z2)
    ·exact OpOK.of (fun g28 => [(.tmp 23, EP a_1 i14 4 0)]) _ _ (fun g28 _ => g28) rfl rfl (fun _ => z1) (fun g28 => OT.loadNA (vs := [vI ((gt p1 i14).Seq), vI ((gt p1 i14).Root), vI ((gt p1 i14).Size), vS a35 ((gt p1 i14).Puts) c36]) ag57 sz57 hn38 hlTTx rfl rfl) (fun _ _ => z2)
    refine HQ.keep [(0, _), (1, _), (4, _), (5, _), (20, _), (24, _)] z6 ?_
    refine HQ.keepR [] trivial rfl ?_
    obtain ⟨t39, h40, H⟩ := bnd H
    refine op [] [] (OT.call (us := [_, _]) (Pre := []) [.tmp 20, .tmp 24] Try.call66 rfl rfl fun w F hs hF hp => laws_sameTx_c (p0 := (gt p0 i14)) (p1 := (gt p1 i14)) (hb32.pass hp) (hb37.pass hp) h40) z3 trivial z4 (fun _ => rfl) fun _ => ?_
    refine pu Pu.not z1 z3 ?_
    refine HQ.done ?_
    refine HQ.keep [(0, _), (1, _), (4, _), (5, _), (26, _)] z5 ?_
    rcases brk H with ⟨hc, H⟩ | ⟨hc, H⟩
    ·refine HQ.condT rfl hc ?_
     clear hc
     refine HQ.rseq ?_
     refine pu Pu.assign z1 z3 ?_
     refine HQ.done ?_
     refine HQ.keep [(0, _), (1, _), (4, _), (5, _)] z4 ?_
     refine HQ.ret ?_
     refine HQ.blkR ?_
     refine HQ.thenR ?_
     obtain rfl := Option.some.inj H
     refine HQ.retL ?_
     exact HQ.fin (vs := [_]) Try.results56 () z1 rfl [] trivial rfl
    ·refine HQ.condF rfl hc ?_
     clear hc
     refine HQ.skip ?_
     refine HQ.blkN ?_
     refine HQ.thenN ?_
     refine HQ.regionQ ?_
     refine pu Pu.move z1 z3 ?_
     refine pu Pu.add z2 z3 ?_
     refine pu Pu.assign z1 z3 ?_
     refine HQ.done ?_
     refine HQ.keep [(0, _), (1, _), (4, _), (5, _)] z4 ?_
     obtain rfl := Option.some.inj H
     exact HQ.next () z4 trivial rfl
   ·refine HQ.condF rfl hc ?_
    clear hc
    refine HQ.exit ?_
    refine HQ.thenE ?_
    obtain rfl := Option.some.inj H
    exact HQ.out () z4 trivial rfl
  ·rintro i42 rfl _
   clear h43
   replace H := H
   refine HQ.keep [(0, _), (1, _), (4, _), (5, _)] z4 ?_
   refine HQ.keepR [] trivial rfl ?_
   refine HQ.blkE ?_
   refine HQ.thenN ?_
   refine HQ.rseq ?_
   refine pu Pu.assign z1 z3 ?_
   refine HQ.done ?_
   refine HQ.keep [(4, _)] z1 ?_
   refine HQ.ret ?_
   obtain rfl := Option.some.inj H
   exact HQ.fin (vs := [_]) Try.results56 () z1 rfl [] trivial rfl
  ·rintro r rfl a w hr
   obtain rfl := Option.some.inj H
   exact hr

theorem impl_ChangedBy_c {w : World} {k : Nat} {p0 : (List TTx)} {a_0 : Option Addr} {c_0 : Nat} (hb_0 : BorS kTTx a_0 c_0 p0 w.heap (Lt w Nil)) {r : (List Int)} (H : impl_ChangedBy k p0 = some r) :
  Calls Try.prog 57 #[vS a_0 p0 c_0] w (Rt w Nil (fun g : Option Addr × Nat => vS g.1 r g.2) (fun g => [OwnS kI g.1 g.2 r])) := by
 rw [impl_ChangedBy] at H
 refine Calls.enter0 (N := 23) (us := [_]) Try.func57 rfl rfl rfl ?_
 refine HQ.rseq ?_
 refine pu Pu.assign z1 z3 ?_
 refine HQ.done ?_
 refine HQ.keep [(0, _), (2, _)] z2 ?_
 refine HQ.rseq ?_
 refine pu Pu.assign z1 z3 ?_
 refine HQ.done ?_
 refine HQ.keep [(0, _), (2, _), (3, _)] z3 ?_
 refine HQ.seq ?_
 refine HQ.rseq ?_
 refine pu Pu.move z1 z3 ?_
 refine HQ.done ?_
 refine HQ.keep [(0, _), (2, _), (3, _), (7, _)] z4 ?_
 refine HQ.block ?_
 refine HQ.nil kI 5 rfl ?_
 obtain ⟨o35, h40, H⟩ := bnd H
 refine HQ.loop h40 0 (fun (s : (List Int) × Int) (g : Option Addr × Nat) => match s, g with | (l11, i14), (a12, c13) => [(0, vS a_0 p0 c_0), (2, .slice none 0 0), (3, vS a12 l11 c13), (7, vI i14)]) (fun (s : (List Int) × Int) (g : Option Addr × Nat) => match s, g with | (l11, i14), (a12, c13) => [(5, OwnS kI a12 c13 l11)]) (fun _ _ _ => False) (none, 0) z4 z1 rfl ?_ ?_ ?_
 ·clear H h40
  rintro ⟨l11, i14⟩ ⟨a12, c13⟩ o H
  rw [impl_ChangedBy_b0] at H
  refine HQ.keep [(0, _), (2, _), (3, _), (7, _)] z4 ?_
  refine HQ.keepR [(5, _)] z1 rfl ?_
  refine HQ.rseq ?_
  refine pu Pu.lss z2 z3 ?_
  refine HQ.done ?_
  refine HQ.keep [(0, _), (2, _), (3, _), (7, _), (8, _)] z5 ?_
  refine HQ.seq ?_
  rcases brk H with ⟨hc, H⟩ | ⟨hc, H⟩
  ·refine HQ.condT rfl hc ?_
   clear hc
   refine HQ.skipThen ?_
   refine HQ.seq ?_
   refine HQ.block ?_
   refine HQ.rseq ?_
   refine pu Pu.move z1 z3 ?_
   refine pu Pu.assign z1 z3 ?_
   refine HQ.done ?_
   refine HQ.keep [(0, _), (2, _), (3, _), (7, _), (4, _)] z5 ?_
   refine HQ.rseq ?_
   refine pu Pu.move z1 z3 ?_
   refine pu Pu.move z1 z3 ?_
   obtain ⟨t25, h26, H⟩ := bnd H
   refine op [] [9] (OT.call (us := [_, _]) (Pre := []) [.tmp 11, .tmp 12] Try.call58 rfl rfl fun w F hs hF hp => impl_LastOf_c (hb_0.pass hp) h26) z3 trivial z4 (fun _ => rfl) fun ⟨a27, c28⟩ => ?_
   refine pu Pu.move z1 z3 ?_
   refine pu (Pu.extract rfl) z1 z3 ?_
   refine pu (Pu.extract rfl) z1 z3 ?_
   refine op [] [10] (OT.alloc zc47) trivial trivial z4 (fun _ => rfl) fun b29 => ?_
   refine HQ.opN [10] [10] [] (OT.storeC (cs' := [.bool t25.1.Leaf, vS a27 t25.1.L c28]) sz47 rfl rfl rfl rfl rfl) z2 z1 rfl rfl rfl (fun _ => rfl) fun _ => ?_
   refine pu Pu.assign z1 z3 ?_
   refine HQ.done ?_
   refine HQ.keep [(0, _), (2, _), (3, _), (7, _), (4, _), (6, _)] z6 ?_
   refine HQ.rseq ?_
   refine pu Pu.move z1 z3 ?_
   refine HQ.done ?_
   refine HQ.keep [(0, _), (2, _), (3, _), (7, _), (4, _), (16, _)] z6 ?_
   rcases brk H with ⟨hc, H⟩ | ⟨hc, H⟩
   ·refine HQ.condT rfl hc ?_
    clear hc
    refine HQ.regionQ ?_
    refine pu Pu.move z1 z3 ?_
    refine pu Pu.move z1 z3 ?_
    refine op [] [11] (OT.buildF (us := [vI i14]) (ys := ([i14] : (List Int))) (enc := (encI .i64)) (hl := fun _ => ⟨rfl, rfl⟩) [.tmp 18] sl33.ul sl33.szE sl33.zc rfl rfl rfl rfl rfl) z1 trivial z4 (fun _ => rfl) fun ⟨a30, c31⟩ => ?_
    obtain ⟨h34, H⟩ := asr H
    refine op [5, 11] [5, 11] (OT.appendG (enc := (encI .i64)) (hl := fun _ => ⟨rfl, rfl⟩) sl33 ul33 h34) z2 z2 z4 (fun _ => rfl) fun ⟨a32, c33⟩ => ?_
    refine pu Pu.assign z1 z3 ?_
    refine HQ.done ?_
    refine HQ.keep [(0, _), (2, _), (3, _), (7, _)] z4 ?_
    refine HQ.blkN ?_
    refine HQ.thenN ?_
    refine HQ.regionQ ?_
    refine pu Pu.add z2 z3 ?_
    refine pu Pu.move z1 z3 ?_
    refine HQ.done ?_
    refine HQ.keep [(0, _), (2, _), (3, _), (7, _)] z4 ?_
    obtain rfl := Option.some.inj H
    exact HQ.next (a32, c33) z4 z1 rfl
   ·refine HQ.condF rfl hc ?_
    clear hc
    refine HQ.skip ?_
    refine HQ.blkN ?_
    refine HQ.thenN ?_
    refine HQ.regionQ ?_
    refine pu Pu.add z2 z3 ?_
    refine pu Pu.move z1 z3 ?_
    refine HQ.done ?_
    refine HQ.keep [(0, _), (2, _), (3, _), (7, _)] z4 ?_
    obtain rfl := Option.some.inj H
    exact HQ.next (a12, c13) z4 z1 rfl
  ·refine HQ.condF rfl hc ?_
   clear hc
   refine HQ.exit ?_
   refine HQ.thenE ?_
   obtain rfl := Option.some.inj H
   exact HQ.out (a12, c13) z4 z1 rfl
 ·rintro ⟨l36, i39⟩ rfl ⟨a37, c38⟩
  clear h40
  replace H := H
  refine HQ.keep [(0, _), (2, _), (3, _), (7, _)] z4 ?_
  refine HQ.keepR [(5, _)] z1 rfl ?_
  refine HQ.blkE ?_
  refine HQ.thenN ?_
  refine HQ.rseq ?_
  refine pu Pu.move z1 z3 ?_
  refine pu Pu.assign z1 z3 ?_
  refine HQ.done ?_
  refine HQ.keep [(2, _)] z1 ?_
  refine HQ.ret ?_
  obtain rfl := Option.some.inj H
  exact HQ.fin (vs := [_]) Try.results57 (a37, c38) z1 rfl [5] z1 rfl
 ·exact fun r h a w hf => hf.elim

theorem spec_ChangedBy_c {w : World} {k : Nat} {p0 : (List TTx)} {a_0 : Option Addr} {c_0 : Nat} (hb_0 : BorS kTTx a_0 c_0 p0 w.heap (Lt w Nil)) {r : (List Int)} (H : spec_ChangedBy k p0 = some r) :
  Calls Try.prog 76 #[vS a_0 p0 c_0] w (Rt w Nil (fun g : Option Addr × Nat => vS g.1 r g.2) (fun g => [OwnS kI g.1 g.2 r])) := by
 rw [spec_ChangedBy] at H
 refine Calls.enter0 (N := 24) (us := [_]) Try.func76 rfl rfl rfl ?_
 refine HQ.rseq ?_
 refine pu Pu.assign z1 z3 ?_
 refine HQ.done ?_
 refine HQ.keep [(0, _), (2, _)] z2 ?_
 refine HQ.rseq ?_
 refine op [] [1] (OT.buildF (us := []) (ys := ([] : (List Int))) (enc := (encI .i64)) (hl := fun _ => ⟨rfl, rfl⟩) [] sl33.ul sl33.szE sl33.zc rfl rfl rfl rfl rfl) trivial trivial z4 (fun _ => rfl) fun ⟨a1, c2⟩ => ?_
 refine pu Pu.assign z1 z3 ?_
 refine HQ.done ?_
 refine HQ.keep [(0, _), (2, _), (3, _)] z3 ?_
 refine HQ.seq ?_
 refine HQ.rseq ?_
 refine pu Pu.assign z1 z3 ?_
 refine HQ.done ?_
 refine HQ.keep [(0, _), (2, _), (3, _), (4, _)] z4 ?_
 refine HQ.block ?_
 obtain ⟨o37, h42, H⟩ := bnd H
 refine HQ.loop h42 0 (fun (s : (List Int) × Int) (g : Option Addr × Nat) => match s, g with | (l13, i16), (a14, c15) => [(0, vS a_0 p0 c_0), (2, .slice none 0 0), (3, vS a14 l13 c15), (4, vI i16)]) (fun (s : (List Int) × Int) (g : Option Addr × Nat) => match s, g with | (l13, i16), (a14, c15) => [(1, OwnS kI a14 c15 l13)]) (fun _ _ _ => False) (a1, c2) z4 z1 rfl ?_ ?_ ?_
 ·clear H h42
  rintro ⟨l13, i16⟩ ⟨a14, c15⟩ o H
  rw [spec_ChangedBy_b0] at H
  refine HQ.keep [(0, _), (2, _), (3, _), (4, _)] z4 ?_
  refine HQ.keepR [(1, _)] z1 rfl ?_
  refine HQ.seq ?_
  refine HQ.rseq ?_
  refine pu Pu.move z1 z3 ?_
  refine pu Pu.lss z2 z3 ?_
  refine HQ.done ?_
  refine HQ.keep [(0, _), (2, _), (3, _), (4, _), (9, _)] z5 ?_
  rcases brk H with ⟨hc, H⟩ | ⟨hc, H⟩
  ·refine HQ.condT rfl hc ?_
   clear hc
   refine HQ.skipThen ?_
   refine HQ.seq ?_
   refine HQ.block ?_
   refine HQ.rseq ?_
   refine pu Pu.move z1 z3 ?_
   refine pu Pu.move z1 z3 ?_
   obtain ⟨t27, h28, H⟩ := bnd H
   refine op [] [8] (OT.call (us := [_, _]) (Pre := []) [.tmp 13, .tmp 14] Try.call73 rfl rfl fun w F hs hF hp => spec_LastOf_c (hb_0.pass hp) h28) z3 trivial z4 (fun _ => rfl) fun ⟨a29, c30⟩ => ?_
   refine pu Pu.move z1 z3 ?_
   refine pu (Pu.extract rfl) z1 z3 ?_
   refine pu (Pu.extract rfl) z1 z3 ?_
   refine op [] [9] (OT.alloc zc47) trivial trivial z4 (fun _ => rfl) fun b31 => ?_
   refine HQ.opN [9] [9] [] (OT.storeC (cs' := [.bool t27.1.Leaf, vS a29 t27.1.L c30]) sz47 rfl rfl rfl rfl rfl) z2 z1 rfl rfl rfl (fun _ => rfl) fun _ => ?_
   refine pu Pu.assign z1 z3 ?_
   refine HQ.done ?_
   refine HQ.keep [(0, _), (2, _), (3, _), (4, _), (6, _)] z5 ?_
   refine HQ.rseq ?_
   refine pu Pu.move z1 z3 ?_
   refine HQ.done ?_
   refine HQ.keep [(0, _), (2, _), (3, _), (4, _), (18, _)] z5 ?_
   rcases brk H with ⟨hc, H⟩ | ⟨hc, H⟩
   ·refine HQ.condT rfl hc ?_
    clear hc
    refine HQ.regionQ ?_
    refine pu Pu.move z1 z3 ?_
    refine pu Pu.move z1 z3 ?_
    refine op [] [10] (OT.buildF (us := [vI i16]) (ys := ([i16] : (List Int))) (enc := (encI .i64)) (hl := fun _ => ⟨rfl, rfl⟩) [.tmp 20] sl33.ul sl33.szE sl33.zc rfl rfl rfl rfl rfl) z1 trivial z4 (fun _ => rfl) fun ⟨a32, c33⟩ => ?_
    obtain ⟨h36, H⟩ := asr H
    refine op [1, 10] [1, 10] (OT.appendG (enc := (encI .i64)) (hl := fun _ => ⟨rfl, rfl⟩) sl33 ul33 h36) z2 z2 z4 (fun _ => rfl) fun ⟨a34, c35⟩ => ?_
    refine pu Pu.assign z1 z3 ?_
    refine HQ.done ?_
    refine HQ.keep [(0, _), (2, _), (3, _), (4, _)] z4 ?_
    refine HQ.blkN ?_
    refine HQ.thenN ?_
    refine HQ.regionQ ?_
    refine pu Pu.move z1 z3 ?_
    refine pu Pu.add z2 z3 ?_
    refine pu Pu.assign z1 z3 ?_
    refine HQ.done ?_
    refine HQ.keep [(0, _), (2, _), (3, _), (4, _)] z4 ?_
    obtain rfl := Option.some.inj H
    exact HQ.next (a34, c35) z4 z1 rfl
   ·refine HQ.condF rfl hc ?_
    clear hc
    refine HQ.skip ?_
    refine HQ.blkN ?_
    refine HQ.thenN ?_
    refine HQ.regionQ ?_
    refine pu Pu.move z1 z3 ?_
    refine pu Pu.add z2 z3 ?_
    refine pu Pu.assign z1 z3 ?_
    refine HQ.done ?_
    refine HQ.keep [(0, _), (2, _), (3, _), (4, _)] z4 ?_
    obtain rfl := Option.some.inj H
    exact HQ.next (a14, c15) z4 z1 rfl
  ·refine HQ.condF rfl hc ?_
   clear hc
   refine HQ.exit ?_
   refine HQ.thenE ?_
   obtain rfl := Option.some.inj H
   exact HQ.out (a14, c15) z4 z1 rfl
 ·rintro ⟨l38, i41⟩ rfl ⟨a39, c40⟩
  clear h42
  replace H := H
  refine HQ.keep [(0, _), (2, _), (3, _), (4, _)] z4 ?_
  refine HQ.keepR [(1, _)] z1 rfl ?_
  refine HQ.blkE ?_
  refine HQ.thenN ?_
  refine HQ.rseq ?_
  refine pu Pu.move z1 z3 ?_
  refine pu Pu.assign z1 z3 ?_
  refine HQ.done ?_
  refine HQ.keep [(2, _)] z1 ?_
  refine HQ.ret ?_
  obtain rfl := Option.some.inj H
  exact HQ.fin (vs := [_]) Try.results76 (a39, c40) z1 rfl [1] z1 rfl
 ·exact fun r h a w hf => hf.elim

theorem laws_sameInts_c {w : World} {k : Nat} {p0 : (List Int)} {p1 : (List Int)} {a_0 : Option Addr} {c_0 : Nat} {a_1 : Option Addr} {c_1 : Nat} (hb_0 : BorS kI a_0 c_0 p0 w.heap (Lt w Nil)) (hb_1 : BorS kI a_1 c_1 p1 w.heap (Lt w Nil)) {r : Bool} (H : laws_sameInts k p0 p1 = some r) :
  Calls Try.prog 75 #[vS a_0 p0 c_0, vS a_1 p1 c_1] w (Rt w Nil (fun _ : Unit => .bool r) (fun _ => [])) := by
 rw [laws_sameInts] at H
 refine Calls.enter0 (N := 26) (us := [_, _]) Try.func75 rfl rfl rfl ?_
 refine HQ.rseq ?_
 refine pu Pu.assign z1 z3 ?_
 refine HQ.done ?_
 refine HQ.keep [(0, _), (1, _), (4, _)] z3 ?_
 refine HQ.seq ?_
 refine HQ.rseq ?_
 refine pu Pu.move z1 z3 ?_
 refine pu (Pu.len ul33) z1 z3 ?_
 refine pu Pu.move z1 z3 ?_
 refine pu (Pu.len ul33) z1 z3 ?_
 refine pu Pu.neq z2 z3 ?_
 refine HQ.done ?_
 refine HQ.keep [(0, _), (1, _), (4, _), (10, _)] z4 ?_
 rcases brk H with ⟨hc, H⟩ | ⟨hc, H⟩
 ·refine HQ.condT rfl hc ?_
  clear hc
  refine HQ.rseq ?_
  refine pu Pu.assign z1 z3 ?_
  refine HQ.done ?_
  refine HQ.keep [(0, _), (1, _), (4, _)] z3 ?_
  refine HQ.ret ?_
  refine HQ.thenR ?_
  obtain rfl := Option.some.inj H
  exact HQ.fin (vs := [_]) Try.results75 () z1 rfl [] trivial rfl
 ·refine HQ.condF rfl hc ?_
  clear hc
  refine HQ.skipThen ?_
  refine HQ.seq ?_
  refine HQ.rseq ?_
  refine pu Pu.assign z1 z3 ?_
  refine HQ.done ?_
  refine HQ.keep [(0, _), (1, _), (4, _), (5, _)] z4 ?_
  refine HQ.block ?_
  obtain ⟨o11, h13, H⟩ := bnd H
  refine HQ.loop h13 0 (fun (s : Int) (g : Unit) => match s, g with | i4, () => [(0, vS a_0 p0 c_0), (1, vS a_1 p1 c_1), (4, .bool false), (5, vI i4)]) (fun (s : Int) (g : Unit) => match s, g with | i4, () => []) (fun r => bodyPost Try.prog Try.f75 (Rt w Nil (fun _ : Unit => .bool r) (fun _ => [])) .ret) () z4 trivial rfl ?_ ?_ ?_
  ·clear H h13
   rintro i4 _ o H
   rw [laws_sameInts_b0] at H
   refine HQ.keep [(0, _), (1, _), (4, _), (5, _)] z4 ?_
   refine HQ.keepR [] trivial rfl ?_
   refine HQ.seq ?_
   refine HQ.rseq ?_
   refine pu Pu.move z1 z3 ?_
   refine pu Pu.move z1 z3 ?_
   refine pu (Pu.len ul33) z1 z3 ?_
   refine pu Pu.lss z2 z3 ?_
   refine HQ.done ?_
   refine HQ.keep [(0, _), (1, _), (4, _), (5, _), (14, _)] z5 ?_
   rcases brk H with ⟨hc, H⟩ | ⟨hc, H⟩
   ·refine HQ.condT rfl hc ?_
    clear hc
    refine HQ.skipThen ?_
    refine HQ.seq ?_
    refine HQ.block ?_
    obtain ⟨h9, H⟩ := asr H
    obtain ⟨h10, H⟩ := asr H
    refine HQ.drawS mixd [(0, vS a_0 p0 c_0), (1, vS a_1 p1 c_1), (4, .bool false), (5, vI i4)] 8 [⟨[], [], []⟩, ⟨[], [], []⟩, ⟨[], [], [0, 1]⟩, ⟨[], [], [2]⟩, ⟨[], [], []⟩, ⟨[], [], []⟩, ⟨[], [], [4, 5]⟩, ⟨[], [], [6]⟩] [] (fun (g8 : Unit) => [vS a_0 p0 c_0, vI i4, EP a_0 i4 1 0, vI (gt p0 i4), vS a_1 p1 c_1, vI i4, EP a_1 i4 1 0, vI (gt p1 i4)]) (fun (g8 : Unit) => []) () [] [] [] z4 trivial rfl (by kernel_rfl) (fun _ => rfl) (by kernel_rfl) (fun _ => rfl) ⟨?_, ?_, ?_, ?_, ?_, ?_, ?_, ?_, trivial⟩ fun g8 => ?_
    ·exact OpOK.pu (fun g8 => [(.tmp 0, vS a_0 p0 c_0)]) z2 (fun _ => z1) (fun _ => Pu.move) (fun _ => z1) (fun _ _ => z2)
    ·exact OpOK.pu (fun g8 => [(.tmp 5, vI i4)]) z2 (fun _ => z1) (fun _ => Pu.move) (fun _ => z1) (fun _ _ => z2)
    ·exact OpOK.of (fun g8 => [(.tmp 17, vS a_0 p0 c_0), (.tmp 18, vI i4)]) _ _ (fun g8 _ => g8) rfl rfl (fun _ => z2) (fun g8 => OT.indexB ul33 sz3 hb_0 h9) (fun _ _ => z2)
    ·exact OpOK.of (fun g8 => [(.tmp 19, EP a_0 i4 1 0)]) _ _ (fun g8 _ => g8) rfl rfl (fun _ => z1) (fun g8 => OT.loadF sc3 hb_0 h9 rfl) (fun _ _ => z2)
    ·exact OpOK.pu (fun g8 => [(.tmp 1, vS a_1 p1 c_1)]) z2 (fun _ => z1) (fun _ => Pu.move) (fun _ => z1) (fun _ _ => z2)
    ·exact OpOK.pu (fun g8 => [(.tmp 5, vI i4)]) z2 (fun _ => z1) (fun _ => Pu.move) (fun _ => z1) (fun _ _ => z2)
    ·exact OpOK.of (fun g8 => [(.tmp 21, vS a_1 p1 c_1), (.tmp 22, vI i4)]) _ _ (fun g8 _ => g8) rfl rfl (fun _ => z2) (fun g8 => OT.indexB ul33 sz3 hb_1 h10) (fun _ _ => z2)
    ·exact OpOK.of (fun g8 => [(.tmp 23, EP a_1 i4 1 0)]) _ _ (fun g8 _ => g8) rfl rfl (fun _ => z1) (fun g8 => OT.loadF sc3 hb_1 h10 rfl) (fun _ _ => z2)
    refine HQ.keep [(0, _), (1, _), (4, _), (5, _), (20, _), (24, _)] z6 ?_
    refine HQ.keepR [] trivial rfl ?_
    refine pu Pu.neq z2 z3 ?_
    refine HQ.done ?_
    refine HQ.keep [(0, _), (1, _), (4, _), (5, _), (25, _)] z5 ?_
    rcases brk H with ⟨hc, H⟩ | ⟨hc, H⟩
    ·refine HQ.condT rfl hc ?_
     clear hc
     refine HQ.rseq ?_
     refine pu Pu.assign z1 z3 ?_
     refine HQ.done ?_
     refine HQ.keep [(0, _), (1, _), (4, _), (5, _)] z4 ?_
     refine HQ.ret ?_
     refine HQ.blkR ?_
     refine HQ.thenR ?_
     obtain rfl := Option.some.inj H
     refine HQ.retL ?_
     exact HQ.fin (vs := [_]) Try.results75 () z1 rfl [] trivial rfl
    ·refine HQ.condF rfl hc ?_
     clear hc
     refine HQ.skip ?_
     refine HQ.blkN ?_
     refine HQ.thenN ?_
     refine HQ.regionQ ?_
     refine pu Pu.move z1 z3 ?_
     refine pu Pu.add z2 z3 ?_
     refine pu Pu.assign z1 z3 ?_
     refine HQ.done ?_
     refine HQ.keep [(0, _), (1, _), (4, _), (5, _)] z4 ?_
     obtain rfl := Option.some.inj H
     exact HQ.next () z4 trivial rfl
   ·refine HQ.condF rfl hc ?_
    clear hc
    refine HQ.exit ?_
    refine HQ.thenE ?_
    obtain rfl := Option.some.inj H
    exact HQ.out () z4 trivial rfl
  ·rintro i12 rfl _
   clear h13
   replace H := H
   refine HQ.keep [(0, _), (1, _), (4, _), (5, _)] z4 ?_
   refine HQ.keepR [] trivial rfl ?_
   refine HQ.blkE ?_
   refine HQ.thenN ?_
   refine HQ.rseq ?_
   refine pu Pu.assign z1 z3 ?_
   refine HQ.done ?_
   refine HQ.keep [(4, _)] z1 ?_
   refine HQ.ret ?_
   obtain rfl := Option.some.inj H
   exact HQ.fin (vs := [_]) Try.results75 () z1 rfl [] trivial rfl
  ·rintro r rfl a w hr
   obtain rfl := Option.some.inj H
   exact hr

end Go.Proofs.Sx
