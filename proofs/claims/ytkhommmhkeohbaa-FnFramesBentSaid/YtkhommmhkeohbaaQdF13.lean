import Derived.Test.YtkhommmhkeohbaaQdF12
import Derived.KernelRfl
namespace Go.Proofs.Sx
open Go.RowKit
set_option linter.unusedVariables false
set_option linter.unusedSimpArgs false
set_option maxRecDepth 20000
set_option maxHeartbeats 1000000
/-! laws.sameTx -/
theorem laws_sameTx_c {w : World} {k : Nat} {p0 : TTx} {p1 : TTx} {a_0 : Option Addr} {c_0 : Nat} {a_1 : Option Addr} {c_1 : Nat} (hb_0 : BorS kTChange a_0 c_0 p0.Puts w.heap (Lt w Nil)) (hb_1 : BorS kTChange a_1 c_1 p1.Puts w.heap (Lt w Nil)) {r : Bool} (H : laws_sameTx k p0 p1 = some r) :
    Calls Try.prog 66 #[.agg #[.int .i64 p0.Seq, .int .i64 p0.Root, .int .i64 p0.Size, .slice a_0 (List.length p0.Puts) c_0], .agg #[.int .i64 p1.Seq, .int .i64 p1.Root, .int .i64 p1.Size, .slice a_1 (List.length p1.Puts) c_1]] w (Rt w Nil (fun _ : Unit => .bool r) (fun _ => [])) := by
  rw [laws_sameTx] at H
  refine Calls.enter0 (N := 70) (us := [_, _]) Try.func66 rfl rfl rfl ?_
  refine HQ.rseq ?_
  refine HQ.op [] [1] (OT.box (cs := [.int .i64 p0.Seq, .int .i64 p0.Root, .int .i64 p0.Size, .slice a_0 (List.length p0.Puts) c_0]) rfl) ⟨rfl, trivial⟩ trivial rfl rfl rfl rfl (fun _ => rfl) fun b1 => ?_
  refine HQ.op [] [2] (OT.box (cs := [.int .i64 p1.Seq, .int .i64 p1.Root, .int .i64 p1.Size, .slice a_1 (List.length p1.Puts) c_1]) rfl) ⟨rfl, trivial⟩ trivial rfl rfl rfl rfl (fun _ => rfl) fun b2 => ?_
  refine HQ.pu Pu.assign ⟨rfl, trivial⟩ rfl rfl rfl ?_
  refine HQ.done ?_
  refine HQ.keep [(2, _), (3, _), (4, _)] ⟨rfl, rfl, rfl, trivial⟩ ?_
  refine HQ.seq ?_
  refine HQ.rseq ?_
  refine HQ.pu (Pu.fieldB fo57_0 rfl) ⟨rfl, trivial⟩ rfl rfl rfl ?_
  refine HQ.op [1] [1] (OT.loadB sc3 rfl) ⟨rfl, trivial⟩ ⟨rfl, trivial⟩ rfl rfl rfl rfl (fun _ => rfl) fun _ => ?_
  refine HQ.pu (Pu.fieldB fo57_0 rfl) ⟨rfl, trivial⟩ rfl rfl rfl ?_
  refine HQ.op [2] [2] (OT.loadB sc3 rfl) ⟨rfl, trivial⟩ ⟨rfl, trivial⟩ rfl rfl rfl rfl (fun _ => rfl) fun _ => ?_
  refine HQ.pu Pu.neq ⟨rfl, rfl, trivial⟩ rfl rfl rfl ?_
  refine HQ.pu Pu.move ⟨rfl, trivial⟩ rfl rfl rfl ?_
  refine HQ.cutAt 6 [(17, .bool ((!decide (p0.Seq = p1.Seq)) || (!decide (p0.Root = p1.Root)))), (2, BP b1 0), (3, BP b2 0), (4, .bool false)] [(1, Box b1 [.int .i64 p0.Seq, .int .i64 p0.Root, .int .i64 p0.Size, .slice a_0 (List.length p0.Puts) c_0]), (2, Box b2 [.int .i64 p1.Seq, .int .i64 p1.Root, .int .i64 p1.Size, .slice a_1 (List.length p1.Puts) c_1])] ?_ ?_
  · rcases Bool.eq_false_or_eq_true (!decide (p0.Seq = p1.Seq)) with hg3 | hg3
    · refine HQ.off rfl rfl hg3 rfl ?_
      refine HQ.off rfl rfl hg3 rfl ?_
      refine HQ.off rfl rfl hg3 rfl ?_
      refine HQ.off rfl rfl hg3 rfl ?_
      refine HQ.off rfl rfl hg3 rfl ?_
      refine HQ.pu (Pu.pickOT (u := (!decide (p0.Root = p1.Root))) hg3) ⟨rfl, rfl, trivial⟩ rfl rfl rfl ?_
      exact HQ.mid ⟨rfl, rfl, rfl, rfl, trivial⟩ ⟨rfl, rfl, trivial⟩ rfl
    · refine HQ.on rfl rfl hg3 ?_
      refine HQ.pu (Pu.fieldB fo57_1 rfl) ⟨rfl, trivial⟩ rfl rfl rfl ?_
      refine HQ.on rfl rfl hg3 ?_
      refine HQ.op [1] [1] (OT.loadB sc3 rfl) ⟨rfl, trivial⟩ ⟨rfl, trivial⟩ rfl rfl rfl rfl (fun _ => rfl) fun _ => ?_
      refine HQ.on rfl rfl hg3 ?_
      refine HQ.pu (Pu.fieldB fo57_1 rfl) ⟨rfl, trivial⟩ rfl rfl rfl ?_
      refine HQ.on rfl rfl hg3 ?_
      refine HQ.op [2] [2] (OT.loadB sc3 rfl) ⟨rfl, trivial⟩ ⟨rfl, trivial⟩ rfl rfl rfl rfl (fun _ => rfl) fun _ => ?_
      refine HQ.on rfl rfl hg3 ?_
      refine HQ.pu Pu.neq ⟨rfl, rfl, trivial⟩ rfl rfl rfl ?_
      refine HQ.pu (Pu.pickOF hg3) ⟨rfl, rfl, trivial⟩ rfl rfl rfl ?_
      exact HQ.mid ⟨rfl, rfl, rfl, rfl, trivial⟩ ⟨rfl, rfl, trivial⟩ rfl
  refine HQ.pu Pu.move ⟨rfl, trivial⟩ rfl rfl rfl ?_
  refine HQ.cutAt 6 [(24, .bool (((!decide (p0.Seq = p1.Seq)) || (!decide (p0.Root = p1.Root))) || (!decide (p0.Size = p1.Size)))), (2, BP b1 0), (3, BP b2 0), (4, .bool false)] [(1, Box b1 [.int .i64 p0.Seq, .int .i64 p0.Root, .int .i64 p0.Size, .slice a_0 (List.length p0.Puts) c_0]), (2, Box b2 [.int .i64 p1.Seq, .int .i64 p1.Root, .int .i64 p1.Size, .slice a_1 (List.length p1.Puts) c_1])] ?_ ?_
  · rcases Bool.eq_false_or_eq_true ((!decide (p0.Seq = p1.Seq)) || (!decide (p0.Root = p1.Root))) with hg4 | hg4
    · refine HQ.off rfl rfl hg4 rfl ?_
      refine HQ.off rfl rfl hg4 rfl ?_
      refine HQ.off rfl rfl hg4 rfl ?_
      refine HQ.off rfl rfl hg4 rfl ?_
      refine HQ.off rfl rfl hg4 rfl ?_
      refine HQ.pu (Pu.pickOT (u := (!decide (p0.Size = p1.Size))) hg4) ⟨rfl, rfl, trivial⟩ rfl rfl rfl ?_
      exact HQ.mid ⟨rfl, rfl, rfl, rfl, trivial⟩ ⟨rfl, rfl, trivial⟩ rfl
    · refine HQ.on rfl rfl hg4 ?_
      refine HQ.pu (Pu.fieldB fo57_2 rfl) ⟨rfl, trivial⟩ rfl rfl rfl ?_
      refine HQ.on rfl rfl hg4 ?_
      refine HQ.op [1] [1] (OT.loadB sc3 rfl) ⟨rfl, trivial⟩ ⟨rfl, trivial⟩ rfl rfl rfl rfl (fun _ => rfl) fun _ => ?_
      refine HQ.on rfl rfl hg4 ?_
      refine HQ.pu (Pu.fieldB fo57_2 rfl) ⟨rfl, trivial⟩ rfl rfl rfl ?_
      refine HQ.on rfl rfl hg4 ?_
      refine HQ.op [2] [2] (OT.loadB sc3 rfl) ⟨rfl, trivial⟩ ⟨rfl, trivial⟩ rfl rfl rfl rfl (fun _ => rfl) fun _ => ?_
      refine HQ.on rfl rfl hg4 ?_
      refine HQ.pu Pu.neq ⟨rfl, rfl, trivial⟩ rfl rfl rfl ?_
      refine HQ.pu (Pu.pickOF hg4) ⟨rfl, rfl, trivial⟩ rfl rfl rfl ?_
      exact HQ.mid ⟨rfl, rfl, rfl, rfl, trivial⟩ ⟨rfl, rfl, trivial⟩ rfl
  refine HQ.pu Pu.move ⟨rfl, trivial⟩ rfl rfl rfl ?_
  refine HQ.cutAt 8 [(33, .bool ((((!decide (p0.Seq = p1.Seq)) || (!decide (p0.Root = p1.Root))) || (!decide (p0.Size = p1.Size))) || (!decide (((List.length p0.Puts : Nat) : Int) = ((List.length p1.Puts : Nat) : Int))))), (2, BP b1 0), (3, BP b2 0), (4, .bool false)] [(1, Box b1 [.int .i64 p0.Seq, .int .i64 p0.Root, .int .i64 p0.Size, .slice a_0 (List.length p0.Puts) c_0]), (2, Box b2 [.int .i64 p1.Seq, .int .i64 p1.Root, .int .i64 p1.Size, .slice a_1 (List.length p1.Puts) c_1])] ?_ ?_
  · rcases Bool.eq_false_or_eq_true (((!decide (p0.Seq = p1.Seq)) || (!decide (p0.Root = p1.Root))) || (!decide (p0.Size = p1.Size))) with hg5 | hg5
    · refine HQ.off rfl rfl hg5 rfl ?_
      refine HQ.off rfl rfl hg5 rfl ?_
      refine HQ.off rfl rfl hg5 rfl ?_
      refine HQ.off rfl rfl hg5 rfl ?_
      refine HQ.off rfl rfl hg5 rfl ?_
      refine HQ.off rfl rfl hg5 rfl ?_
      refine HQ.off rfl rfl hg5 rfl ?_
      refine HQ.pu (Pu.pickOT (u := (!decide (((List.length p0.Puts : Nat) : Int) = ((List.length p1.Puts : Nat) : Int)))) hg5) ⟨rfl, rfl, trivial⟩ rfl rfl rfl ?_
      exact HQ.mid ⟨rfl, rfl, rfl, rfl, trivial⟩ ⟨rfl, rfl, trivial⟩ rfl
    · refine HQ.on rfl rfl hg5 ?_
      refine HQ.pu (Pu.fieldB fo57_3 rfl) ⟨rfl, trivial⟩ rfl rfl rfl ?_
      refine HQ.on rfl rfl hg5 ?_
      refine HQ.op [1] [1] (OT.loadB sc55 rfl) ⟨rfl, trivial⟩ ⟨rfl, trivial⟩ rfl rfl rfl rfl (fun _ => rfl) fun _ => ?_
      refine HQ.on rfl rfl hg5 ?_
      refine HQ.pu (Pu.len ul55) ⟨rfl, trivial⟩ rfl rfl rfl ?_
      refine HQ.on rfl rfl hg5 ?_
      refine HQ.pu (Pu.fieldB fo57_3 rfl) ⟨rfl, trivial⟩ rfl rfl rfl ?_
      refine HQ.on rfl rfl hg5 ?_
      refine HQ.op [2] [2] (OT.loadB sc55 rfl) ⟨rfl, trivial⟩ ⟨rfl, trivial⟩ rfl rfl rfl rfl (fun _ => rfl) fun _ => ?_
      refine HQ.on rfl rfl hg5 ?_
      refine HQ.pu (Pu.len ul55) ⟨rfl, trivial⟩ rfl rfl rfl ?_
      refine HQ.on rfl rfl hg5 ?_
      refine HQ.pu Pu.neq ⟨rfl, rfl, trivial⟩ rfl rfl rfl ?_
      refine HQ.pu (Pu.pickOF hg5) ⟨rfl, rfl, trivial⟩ rfl rfl rfl ?_
      exact HQ.mid ⟨rfl, rfl, rfl, rfl, trivial⟩ ⟨rfl, rfl, trivial⟩ rfl
  refine HQ.done ?_
  refine HQ.keep [(33, _), (2, _), (3, _), (4, _)] ⟨rfl, rfl, rfl, rfl, trivial⟩ ?_
  rcases brk H with ⟨hc, H⟩ | ⟨hc, H⟩
  · refine HQ.condT rfl hc ?_
    clear hc
    refine HQ.rseq ?_
    refine HQ.pu Pu.assign ⟨rfl, trivial⟩ rfl rfl rfl ?_
    refine HQ.done ?_
    refine HQ.keep [(2, _), (3, _), (4, _)] ⟨rfl, rfl, rfl, trivial⟩ ?_
    refine HQ.ret ?_
    refine HQ.thenR ?_
    obtain rfl := Option.some.inj H
    exact HQ.fin (vs := [_]) Try.results66 () ⟨rfl, trivial⟩ rfl [] trivial rfl
  · refine HQ.condF rfl hc ?_
    clear hc
    refine HQ.skipThen ?_
    refine HQ.seq ?_
    refine HQ.rseq ?_
    refine HQ.pu Pu.assign ⟨rfl, trivial⟩ rfl rfl rfl ?_
    refine HQ.done ?_
    refine HQ.keep [(2, _), (3, _), (4, _), (5, _)] ⟨rfl, rfl, rfl, rfl, trivial⟩ ?_
    refine HQ.block ?_
    obtain ⟨o91, h93, H⟩ := bnd H
    refine HQ.loop h93 0 (fun (s : Int) (g : Unit) => match s, g with | i34, () => [(2, BP b1 0), (3, BP b2 0), (4, .bool false), (5, .int .i64 i34)]) (fun (s : Int) (g : Unit) => match s, g with | i34, () => [(1, Box b1 [.int .i64 p0.Seq, .int .i64 p0.Root, .int .i64 p0.Size, .slice a_0 (List.length p0.Puts) c_0]), (2, Box b2 [.int .i64 p1.Seq, .int .i64 p1.Root, .int .i64 p1.Size, .slice a_1 (List.length p1.Puts) c_1])]) (fun r => bodyPost Try.prog Try.f66 (Rt w Nil (fun _ : Unit => .bool r) (fun _ => [])) .ret) () ⟨rfl, rfl, rfl, rfl, trivial⟩ ⟨rfl, rfl, trivial⟩ rfl ?_ ?_ ?_
    · clear H h93
      rintro i34 _ o H
      rw [laws_sameTx_b0] at H
      refine HQ.keep [(2, _), (3, _), (4, _), (5, _)] ⟨rfl, rfl, rfl, rfl, trivial⟩ ?_
      refine HQ.keepR [(1, _), (2, _)] ⟨rfl, rfl, trivial⟩ rfl ?_
      refine HQ.seq ?_
      refine HQ.rseq ?_
      refine HQ.pu Pu.move ⟨rfl, trivial⟩ rfl rfl rfl ?_
      refine HQ.pu (Pu.fieldB fo57_3 rfl) ⟨rfl, trivial⟩ rfl rfl rfl ?_
      refine HQ.op [1] [1] (OT.loadB sc55 rfl) ⟨rfl, trivial⟩ ⟨rfl, trivial⟩ rfl rfl rfl rfl (fun _ => rfl) fun _ => ?_
      refine HQ.pu (Pu.len ul55) ⟨rfl, trivial⟩ rfl rfl rfl ?_
      refine HQ.pu Pu.lss ⟨rfl, rfl, trivial⟩ rfl rfl rfl ?_
      refine HQ.done ?_
      refine HQ.keep [(2, _), (3, _), (4, _), (5, _), (38, _)] ⟨rfl, rfl, rfl, rfl, rfl, trivial⟩ ?_
      rcases brk H with ⟨hc, H⟩ | ⟨hc, H⟩
      · refine HQ.condT rfl hc ?_
        clear hc
        refine HQ.skipThen ?_
        refine HQ.seq ?_
        refine HQ.block ?_
        refine HQ.seq ?_
        refine HQ.dStart mixd ?_
        obtain ⟨h64, H⟩ := asr H
        obtain ⟨h69, H⟩ := asr H
        obtain ⟨⟨a65, c66⟩, hb67, hn68⟩ := BorS.nest hb_0 h64
        obtain ⟨⟨a70, c71⟩, hb72, hn73⟩ := BorS.nest hb_1 h69
        refine HQ.dPart [(2, BP b1 0), (3, BP b2 0), (4, .bool false), (5, .int .i64 i34)] 12 [⟨[], [], []⟩, ⟨[0], [0], [0]⟩, ⟨[], [], []⟩, ⟨[], [], [1, 2]⟩, ⟨[], [], [3]⟩, ⟨[], [], [4]⟩, ⟨[], [], []⟩, ⟨[1], [1], [6]⟩, ⟨[], [], []⟩, ⟨[], [], [7, 8]⟩, ⟨[], [], [9]⟩, ⟨[], [], [10]⟩] [⟨none, none⟩, ⟨none, none⟩] (fun (g63 : Unit) => [BP b1 3, .slice a_0 (List.length p0.Puts) c_0, .int .i64 i34, EP a_0 i34 3 0, EP a_0 i34 3 0, .int .i64 ((gt p0.Puts i34).Page), BP b2 3, .slice a_1 (List.length p1.Puts) c_1, .int .i64 i34, EP a_1 i34 3 0, EP a_1 i34 3 0, .int .i64 ((gt p1.Puts i34).Page)]) (fun (g63 : Unit) => [Box b1 [.int .i64 p0.Seq, .int .i64 p0.Root, .int .i64 p0.Size, .slice a_0 (List.length p0.Puts) c_0], Box b2 [.int .i64 p1.Seq, .int .i64 p1.Root, .int .i64 p1.Size, .slice a_1 (List.length p1.Puts) c_1]]) () [1, 2] [1, 2] [] ⟨rfl, rfl, rfl, rfl, trivial⟩ ⟨rfl, rfl, trivial⟩ rfl (by kernel_rfl) (by kernel_rfl) (fun _ => rfl) (by kernel_rfl) (fun _ => rfl) rfl ⟨?_, ?_, ?_, ?_, ?_, ?_, ?_, ?_, ?_, ?_, ?_, ?_, trivial⟩ fun g63 => ?_
        · exact OpOK2.of (fun g63 => [(.tmp 2, BP b1 0)]) _ _ (fun g63 _ => g63) rfl rfl (fun _ => ⟨rfl, trivial⟩) (fun g63 => Pu.toOT (Pu.fieldB fo57_3 rfl)) (fun _ _ => ⟨rfl, rfl, ⟨rfl, rfl, trivial⟩⟩)
        · exact OpOK2.of (fun g63 => [(.tmp 41, BP b1 3)]) _ _ (fun g63 _ => g63) rfl rfl (fun _ => ⟨rfl, trivial⟩) (fun g63 => OT.loadB sc55 rfl) (fun _ _ => ⟨rfl, rfl, ⟨rfl, rfl, trivial⟩⟩)
        · exact OpOK2.of (fun g63 => [(.tmp 5, .int .i64 i34)]) _ _ (fun g63 _ => g63) rfl rfl (fun _ => ⟨rfl, trivial⟩) (fun g63 => Pu.toOT Pu.move) (fun _ _ => ⟨rfl, rfl, ⟨rfl, rfl, trivial⟩⟩)
        · exact OpOK2.of (fun g63 => [(.tmp 42, .slice a_0 (List.length p0.Puts) c_0), (.tmp 43, .int .i64 i34)]) _ _ (fun g63 _ => g63) rfl rfl (fun _ => ⟨rfl, rfl, trivial⟩) (fun g63 => OT.indexB ul55 sz49 hb_0 h64) (fun _ _ => ⟨rfl, rfl, ⟨rfl, rfl, trivial⟩⟩)
        · exact OpOK2.of (fun g63 => [(.tmp 44, EP a_0 i34 3 0)]) _ _ (fun g63 _ => g63) rfl rfl (fun _ => ⟨rfl, trivial⟩) (fun g63 => Pu.toOT (Pu.fieldE fo49_0 rfl)) (fun _ _ => ⟨rfl, rfl, ⟨rfl, rfl, trivial⟩⟩)
        · exact OpOK2.of (fun g63 => [(.tmp 45, EP a_0 i34 3 0)]) _ _ (fun g63 _ => g63) rfl rfl (fun _ => ⟨rfl, trivial⟩) (fun g63 => OT.loadN (v := .int .i64 ((gt p0.Puts i34).Page)) sc3 hn68 hlTChange rfl) (fun _ _ => ⟨rfl, rfl, ⟨rfl, rfl, trivial⟩⟩)
        · exact OpOK2.of (fun g63 => [(.tmp 3, BP b2 0)]) _ _ (fun g63 _ => g63) rfl rfl (fun _ => ⟨rfl, trivial⟩) (fun g63 => Pu.toOT (Pu.fieldB fo57_3 rfl)) (fun _ _ => ⟨rfl, rfl, ⟨rfl, rfl, trivial⟩⟩)
        · exact OpOK2.of (fun g63 => [(.tmp 47, BP b2 3)]) _ _ (fun g63 _ => g63) rfl rfl (fun _ => ⟨rfl, trivial⟩) (fun g63 => OT.loadB sc55 rfl) (fun _ _ => ⟨rfl, rfl, ⟨rfl, rfl, trivial⟩⟩)
        · exact OpOK2.of (fun g63 => [(.tmp 5, .int .i64 i34)]) _ _ (fun g63 _ => g63) rfl rfl (fun _ => ⟨rfl, trivial⟩) (fun g63 => Pu.toOT Pu.move) (fun _ _ => ⟨rfl, rfl, ⟨rfl, rfl, trivial⟩⟩)
        · exact OpOK2.of (fun g63 => [(.tmp 48, .slice a_1 (List.length p1.Puts) c_1), (.tmp 49, .int .i64 i34)]) _ _ (fun g63 _ => g63) rfl rfl (fun _ => ⟨rfl, rfl, trivial⟩) (fun g63 => OT.indexB ul55 sz49 hb_1 h69) (fun _ _ => ⟨rfl, rfl, ⟨rfl, rfl, trivial⟩⟩)
        · exact OpOK2.of (fun g63 => [(.tmp 50, EP a_1 i34 3 0)]) _ _ (fun g63 _ => g63) rfl rfl (fun _ => ⟨rfl, trivial⟩) (fun g63 => Pu.toOT (Pu.fieldE fo49_0 rfl)) (fun _ _ => ⟨rfl, rfl, ⟨rfl, rfl, trivial⟩⟩)
        · exact OpOK2.of (fun g63 => [(.tmp 51, EP a_1 i34 3 0)]) _ _ (fun g63 _ => g63) rfl rfl (fun _ => ⟨rfl, trivial⟩) (fun g63 => OT.loadN (v := .int .i64 ((gt p1.Puts i34).Page)) sc3 hn73 hlTChange rfl) (fun _ _ => ⟨rfl, rfl, ⟨rfl, rfl, trivial⟩⟩)
        refine HQ.keep [(2, _), (3, _), (4, _), (5, _), (46, _), (52, _)] ⟨rfl, rfl, rfl, rfl, rfl, rfl, trivial⟩ ?_
        refine HQ.keepR [(1, _), (2, _)] ⟨rfl, rfl, trivial⟩ rfl ?_
        refine HQ.dRun 2 rfl rfl (by kernel_rfl) (by kernel_rfl) ?_
        refine HQ.pu Pu.neq ⟨rfl, rfl, trivial⟩ rfl rfl rfl ?_
        refine HQ.pu Pu.move ⟨rfl, trivial⟩ rfl rfl rfl ?_
        refine HQ.done ?_
        obtain ⟨c89, h90, H⟩ := bnd H
        refine HQ.dMid (m' := 29) [(69, .bool c89), (2, BP b1 0), (3, BP b2 0), (4, .bool false), (5, .int .i64 i34)] [(1, Box b1 [.int .i64 p0.Seq, .int .i64 p0.Root, .int .i64 p0.Size, .slice a_0 (List.length p0.Puts) c_0]), (2, Box b2 [.int .i64 p1.Seq, .int .i64 p1.Root, .int .i64 p1.Size, .slice a_1 (List.length p1.Puts) c_1])] (fun hmid => ?_) ?_
        · clear H
          have H := h90
          rcases brk H with ⟨hg74, H⟩ | ⟨hg74, H⟩
          · obtain rfl := Option.some.inj H
            refine HQ.dPart [(2, BP b1 0), (3, BP b2 0), (4, .bool false), (5, .int .i64 i34), (54, .bool (!decide (((gt p0.Puts i34).Page) = ((gt p1.Puts i34).Page))))] 26 [⟨[], [], []⟩, ⟨[], [], []⟩, ⟨[], [], []⟩, ⟨[], [], []⟩, ⟨[], [], []⟩, ⟨[], [], []⟩, ⟨[], [], []⟩, ⟨[], [], []⟩, ⟨[], [], []⟩, ⟨[], [], []⟩, ⟨[], [], []⟩, ⟨[], [], []⟩, ⟨[], [], []⟩, ⟨[], [], []⟩, ⟨[], [], []⟩, ⟨[], [], []⟩, ⟨[], [], []⟩, ⟨[], [], []⟩, ⟨[], [], []⟩, ⟨[], [], []⟩, ⟨[], [], []⟩, ⟨[], [], []⟩, ⟨[], [], []⟩, ⟨[], [], []⟩, ⟨[], [], []⟩, ⟨[], [], []⟩] [] (fun (g88 : Unit) => [undef, undef, undef, undef, undef, undef, undef, undef, undef, undef, undef, undef, undef, undef, undef, undef, undef, undef, undef, undef, undef, undef, undef, undef, undef, undef]) (fun (g88 : Unit) => []) () [] [] [] ⟨rfl, rfl, rfl, rfl, rfl, trivial⟩ trivial rfl (by kernel_rfl) (by kernel_rfl) (fun _ => rfl) (by kernel_rfl) (fun _ => rfl) rfl ⟨?_, ?_, ?_, ?_, ?_, ?_, ?_, ?_, ?_, ?_, ?_, ?_, trivial⟩ fun g88 => ?_
            · exact OpOK2.off rfl rfl rfl hg74 rfl rfl (fun _ => ⟨rfl, trivial⟩)
            · exact OpOK2.off rfl rfl rfl hg74 rfl rfl (fun _ => ⟨rfl, trivial⟩)
            · exact OpOK2.off rfl rfl rfl hg74 rfl rfl (fun _ => ⟨rfl, trivial⟩)
            · exact OpOK2.off rfl rfl rfl hg74 rfl rfl (fun _ => ⟨rfl, trivial⟩)
            · exact OpOK2.off rfl rfl rfl hg74 rfl rfl (fun _ => ⟨rfl, trivial⟩)
            · exact OpOK2.off rfl rfl rfl hg74 rfl rfl (fun _ => ⟨rfl, trivial⟩)
            · exact OpOK2.off rfl rfl rfl hg74 rfl rfl (fun _ => ⟨rfl, trivial⟩)
            · exact OpOK2.off rfl rfl rfl hg74 rfl rfl (fun _ => ⟨rfl, trivial⟩)
            · exact OpOK2.off rfl rfl rfl hg74 rfl rfl (fun _ => ⟨rfl, trivial⟩)
            · exact OpOK2.off rfl rfl rfl hg74 rfl rfl (fun _ => ⟨rfl, trivial⟩)
            · exact OpOK2.off rfl rfl rfl hg74 rfl rfl (fun _ => ⟨rfl, trivial⟩)
            · exact OpOK2.off rfl rfl rfl hg74 rfl rfl (fun _ => ⟨rfl, trivial⟩)
            refine HQ.keep [(2, _), (3, _), (4, _), (5, _), (54, _), (55, _), (56, _), (57, _), (58, _), (59, _), (60, _), (61, _), (62, _), (63, _), (64, _), (65, _), (66, _)] ⟨rfl, rfl, rfl, rfl, rfl, rfl, rfl, rfl, rfl, rfl, rfl, rfl, rfl, rfl, rfl, rfl, rfl, trivial⟩ ?_
            refine HQ.keepR [(1, _), (2, _)] ⟨rfl, rfl, trivial⟩ rfl ?_
            refine HQ.dRun 2 rfl rfl (by kernel_rfl) (by kernel_rfl) ?_
            refine HQ.off rfl rfl hg74 rfl ?_
            refine HQ.off rfl rfl hg74 rfl ?_
            refine HQ.done ?_
            refine HQ.dRun 1 rfl rfl (by kernel_rfl) (by kernel_rfl) ?_
            refine HQ.pu (Pu.pickC1 hg74) ⟨rfl, rfl, trivial⟩ rfl rfl rfl ?_
            refine HQ.done ?_
            exact HQ.dUse hmid ⟨rfl, rfl, rfl, rfl, rfl, trivial⟩ ⟨rfl, rfl, trivial⟩ rfl
          · obtain ⟨h76, H⟩ := asr H
            obtain ⟨h81, H⟩ := asr H
            obtain ⟨⟨a77, c78⟩, hb79, hn80⟩ := BorS.nest hb_0 h76
            obtain ⟨⟨a82, c83⟩, hb84, hn85⟩ := BorS.nest hb_1 h81
            refine HQ.dPart [(2, BP b1 0), (3, BP b2 0), (4, .bool false), (5, .int .i64 i34), (54, .bool (!decide (((gt p0.Puts i34).Page) = ((gt p1.Puts i34).Page))))] 26 [⟨[], [], []⟩, ⟨[], [], []⟩, ⟨[], [], []⟩, ⟨[], [], []⟩, ⟨[], [], []⟩, ⟨[], [], []⟩, ⟨[], [], []⟩, ⟨[], [], []⟩, ⟨[], [], []⟩, ⟨[], [], []⟩, ⟨[], [], []⟩, ⟨[], [], []⟩, ⟨[], [], []⟩, ⟨[], [], []⟩, ⟨[], [], []⟩, ⟨[0], [0], [14]⟩, ⟨[], [], []⟩, ⟨[], [], [15, 16]⟩, ⟨[], [], [17]⟩, ⟨[], [], [18]⟩, ⟨[], [], []⟩, ⟨[1], [1], [20]⟩, ⟨[], [], []⟩, ⟨[], [], [21, 22]⟩, ⟨[], [], [23]⟩, ⟨[], [], [24]⟩] [⟨none, none⟩, ⟨none, none⟩] (fun (g75 : Unit) => [undef, undef, undef, undef, undef, undef, undef, undef, undef, undef, undef, undef, undef, undef, BP b1 3, .slice a_0 (List.length p0.Puts) c_0, .int .i64 i34, EP a_0 i34 3 0, EP a_0 i34 3 1, .agg #[.bool ((gt p0.Puts i34).N.Leaf), .slice a77 (List.length ((gt p0.Puts i34).N.L)) c78], BP b2 3, .slice a_1 (List.length p1.Puts) c_1, .int .i64 i34, EP a_1 i34 3 0, EP a_1 i34 3 1, .agg #[.bool ((gt p1.Puts i34).N.Leaf), .slice a82 (List.length ((gt p1.Puts i34).N.L)) c83]]) (fun (g75 : Unit) => [Box b1 [.int .i64 p0.Seq, .int .i64 p0.Root, .int .i64 p0.Size, .slice a_0 (List.length p0.Puts) c_0], Box b2 [.int .i64 p1.Seq, .int .i64 p1.Root, .int .i64 p1.Size, .slice a_1 (List.length p1.Puts) c_1]]) () [1, 2] [1, 2] [] ⟨rfl, rfl, rfl, rfl, rfl, trivial⟩ ⟨rfl, rfl, trivial⟩ rfl (by kernel_rfl) (by kernel_rfl) (fun _ => rfl) (by kernel_rfl) (fun _ => rfl) rfl ⟨?_, ?_, ?_, ?_, ?_, ?_, ?_, ?_, ?_, ?_, ?_, ?_, trivial⟩ fun g75 => ?_
            · exact OpOK2.on (fun g75 => [(.tmp 2, BP b1 0)]) _ _ (fun g75 _ => g75) rfl rfl rfl hg74 (fun _ => ⟨rfl, trivial⟩) (fun g75 => Pu.toOT (Pu.fieldB fo57_3 rfl)) (fun _ _ => ⟨rfl, rfl, ⟨rfl, rfl, trivial⟩⟩)
            · exact OpOK2.on (fun g75 => [(.tmp 55, BP b1 3)]) _ _ (fun g75 _ => g75) rfl rfl rfl hg74 (fun _ => ⟨rfl, trivial⟩) (fun g75 => OT.loadB sc55 rfl) (fun _ _ => ⟨rfl, rfl, ⟨rfl, rfl, trivial⟩⟩)
            · exact OpOK2.on (fun g75 => [(.tmp 5, .int .i64 i34)]) _ _ (fun g75 _ => g75) rfl rfl rfl hg74 (fun _ => ⟨rfl, trivial⟩) (fun g75 => Pu.toOT Pu.move) (fun _ _ => ⟨rfl, rfl, ⟨rfl, rfl, trivial⟩⟩)
            · exact OpOK2.on (fun g75 => [(.tmp 56, .slice a_0 (List.length p0.Puts) c_0), (.tmp 57, .int .i64 i34)]) _ _ (fun g75 _ => g75) rfl rfl rfl hg74 (fun _ => ⟨rfl, rfl, trivial⟩) (fun g75 => OT.indexB ul55 sz49 hb_0 h76) (fun _ _ => ⟨rfl, rfl, ⟨rfl, rfl, trivial⟩⟩)
            · exact OpOK2.on (fun g75 => [(.tmp 58, EP a_0 i34 3 0)]) _ _ (fun g75 _ => g75) rfl rfl rfl hg74 (fun _ => ⟨rfl, trivial⟩) (fun g75 => Pu.toOT (Pu.fieldE fo49_1 rfl)) (fun _ _ => ⟨rfl, rfl, ⟨rfl, rfl, trivial⟩⟩)
            · exact OpOK2.on (fun g75 => [(.tmp 59, EP a_0 i34 3 1)]) _ _ (fun g75 _ => g75) rfl rfl rfl hg74 (fun _ => ⟨rfl, trivial⟩) (fun g75 => OT.loadNA (vs := [.bool ((gt p0.Puts i34).N.Leaf), .slice a77 (List.length ((gt p0.Puts i34).N.L)) c78]) ag47 sz47 hn80 hlTChange rfl rfl) (fun _ _ => ⟨rfl, rfl, ⟨rfl, rfl, trivial⟩⟩)
            · exact OpOK2.on (fun g75 => [(.tmp 3, BP b2 0)]) _ _ (fun g75 _ => g75) rfl rfl rfl hg74 (fun _ => ⟨rfl, trivial⟩) (fun g75 => Pu.toOT (Pu.fieldB fo57_3 rfl)) (fun _ _ => ⟨rfl, rfl, ⟨rfl, rfl, trivial⟩⟩)
            · exact OpOK2.on (fun g75 => [(.tmp 61, BP b2 3)]) _ _ (fun g75 _ => g75) rfl rfl rfl hg74 (fun _ => ⟨rfl, trivial⟩) (fun g75 => OT.loadB sc55 rfl) (fun _ _ => ⟨rfl, rfl, ⟨rfl, rfl, trivial⟩⟩)
            · exact OpOK2.on (fun g75 => [(.tmp 5, .int .i64 i34)]) _ _ (fun g75 _ => g75) rfl rfl rfl hg74 (fun _ => ⟨rfl, trivial⟩) (fun g75 => Pu.toOT Pu.move) (fun _ _ => ⟨rfl, rfl, ⟨rfl, rfl, trivial⟩⟩)
            · exact OpOK2.on (fun g75 => [(.tmp 62, .slice a_1 (List.length p1.Puts) c_1), (.tmp 63, .int .i64 i34)]) _ _ (fun g75 _ => g75) rfl rfl rfl hg74 (fun _ => ⟨rfl, rfl, trivial⟩) (fun g75 => OT.indexB ul55 sz49 hb_1 h81) (fun _ _ => ⟨rfl, rfl, ⟨rfl, rfl, trivial⟩⟩)
            · exact OpOK2.on (fun g75 => [(.tmp 64, EP a_1 i34 3 0)]) _ _ (fun g75 _ => g75) rfl rfl rfl hg74 (fun _ => ⟨rfl, trivial⟩) (fun g75 => Pu.toOT (Pu.fieldE fo49_1 rfl)) (fun _ _ => ⟨rfl, rfl, ⟨rfl, rfl, trivial⟩⟩)
            · exact OpOK2.on (fun g75 => [(.tmp 65, EP a_1 i34 3 1)]) _ _ (fun g75 _ => g75) rfl rfl rfl hg74 (fun _ => ⟨rfl, trivial⟩) (fun g75 => OT.loadNA (vs := [.bool ((gt p1.Puts i34).N.Leaf), .slice a82 (List.length ((gt p1.Puts i34).N.L)) c83]) ag47 sz47 hn85 hlTChange rfl rfl) (fun _ _ => ⟨rfl, rfl, ⟨rfl, rfl, trivial⟩⟩)
            refine HQ.keep [(2, _), (3, _), (4, _), (5, _), (54, _), (55, _), (56, _), (57, _), (58, _), (59, _), (60, _), (61, _), (62, _), (63, _), (64, _), (65, _), (66, _)] ⟨rfl, rfl, rfl, rfl, rfl, rfl, rfl, rfl, rfl, rfl, rfl, rfl, rfl, rfl, rfl, rfl, rfl, trivial⟩ ?_
            refine HQ.keepR [(1, _), (2, _)] ⟨rfl, rfl, trivial⟩ rfl ?_
            refine HQ.dRun 2 rfl rfl (by kernel_rfl) (by kernel_rfl) ?_
            refine HQ.on rfl rfl hg74 ?_
            obtain ⟨t86, h87, H⟩ := bnd H
            refine HQ.op [] [] (OT.call (us := [_, _]) (Pre := []) [.tmp 60, .tmp 66] Try.call37 rfl rfl fun w F hs hF hp => impl_SameNode_c (p0 := (gt p0.Puts i34).N) (p1 := (gt p1.Puts i34).N) (hb79.pass hp) (hb84.pass hp) h87) ⟨rfl, rfl, rfl, trivial⟩ trivial rfl rfl rfl rfl (fun _ => rfl) fun _ => ?_
            refine HQ.on rfl rfl hg74 ?_
            refine HQ.pu Pu.not ⟨rfl, trivial⟩ rfl rfl rfl ?_
            refine HQ.done ?_
            obtain rfl := Option.some.inj H
            refine HQ.dRun 1 rfl rfl (by kernel_rfl) (by kernel_rfl) ?_
            refine HQ.pu (Pu.pickC0 hg74) ⟨rfl, rfl, trivial⟩ rfl rfl rfl ?_
            refine HQ.done ?_
            exact HQ.dUse hmid ⟨rfl, rfl, rfl, rfl, rfl, trivial⟩ ⟨rfl, rfl, trivial⟩ rfl
        refine HQ.dEnd rfl ?_
        refine HQ.thenN ?_
        refine HQ.keep [(69, _), (2, _), (3, _), (4, _), (5, _)] ⟨rfl, rfl, rfl, rfl, rfl, trivial⟩ ?_
        rcases brk H with ⟨hc, H⟩ | ⟨hc, H⟩
        · refine HQ.condT rfl hc ?_
          clear hc
          refine HQ.rseq ?_
          refine HQ.pu Pu.assign ⟨rfl, trivial⟩ rfl rfl rfl ?_
          refine HQ.done ?_
          refine HQ.keep [(2, _), (3, _), (4, _), (5, _)] ⟨rfl, rfl, rfl, rfl, trivial⟩ ?_
          refine HQ.ret ?_
          refine HQ.blkR ?_
          refine HQ.thenR ?_
          obtain rfl := Option.some.inj H
          refine HQ.retL ?_
          exact HQ.fin (vs := [_]) Try.results66 () ⟨rfl, trivial⟩ rfl [] trivial rfl
        · refine HQ.condF rfl hc ?_
          clear hc
          refine HQ.skip ?_
          refine HQ.blkN ?_
          refine HQ.thenN ?_
          refine HQ.regionQ ?_
          refine HQ.pu Pu.move ⟨rfl, trivial⟩ rfl rfl rfl ?_
          refine HQ.pu Pu.add ⟨rfl, rfl, trivial⟩ rfl rfl rfl ?_
          refine HQ.pu Pu.assign ⟨rfl, trivial⟩ rfl rfl rfl ?_
          refine HQ.done ?_
          refine HQ.keep [(2, _), (3, _), (4, _), (5, _)] ⟨rfl, rfl, rfl, rfl, trivial⟩ ?_
          obtain rfl := Option.some.inj H
          exact HQ.next () ⟨rfl, rfl, rfl, rfl, trivial⟩ ⟨rfl, rfl, trivial⟩ rfl
      · refine HQ.condF rfl hc ?_
        clear hc
        refine HQ.exit ?_
        refine HQ.thenE ?_
        obtain rfl := Option.some.inj H
        exact HQ.out () ⟨rfl, rfl, rfl, rfl, trivial⟩ ⟨rfl, rfl, trivial⟩ rfl
    · rintro i92 rfl _
      clear h93
      replace H := H
      refine HQ.keep [(2, _), (3, _), (4, _), (5, _)] ⟨rfl, rfl, rfl, rfl, trivial⟩ ?_
      refine HQ.keepR [(1, _), (2, _)] ⟨rfl, rfl, trivial⟩ rfl ?_
      refine HQ.blkE ?_
      refine HQ.thenN ?_
      refine HQ.rseq ?_
      refine HQ.pu Pu.assign ⟨rfl, trivial⟩ rfl rfl rfl ?_
      refine HQ.done ?_
      refine HQ.keep [(4, _)] ⟨rfl, trivial⟩ ?_
      refine HQ.ret ?_
      obtain rfl := Option.some.inj H
      exact HQ.fin (vs := [_]) Try.results66 () ⟨rfl, trivial⟩ rfl [] trivial rfl
    · rintro r rfl a w hr
      obtain rfl := Option.some.inj H
      exact hr

/-! laws.same -/
theorem laws_same_c {w : World} {k : Nat} {p0 : (List Int)} {p1 : (List Int)} {a_0 : Option Addr} {c_0 : Nat} {a_1 : Option Addr} {c_1 : Nat} (hb_0 : BorS kU8 a_0 c_0 p0 w.heap (Lt w Nil)) (hb_1 : BorS kU8 a_1 c_1 p1 w.heap (Lt w Nil)) {r : Bool} (H : laws_same k p0 p1 = some r) :
    Calls Try.prog 23 #[.slice a_0 (List.length p0) c_0, .slice a_1 (List.length p1) c_1] w (Rt w Nil (fun _ : Unit => .bool r) (fun _ => [])) := by
  rw [laws_same] at H
  refine Calls.enter0 (N := 26) (us := [_, _]) Try.func23 rfl rfl rfl ?_
  refine HQ.rseq ?_
  refine HQ.pu Pu.assign ⟨rfl, trivial⟩ rfl rfl rfl ?_
  refine HQ.done ?_
  refine HQ.keep [(0, _), (1, _), (4, _)] ⟨rfl, rfl, rfl, trivial⟩ ?_
  refine HQ.seq ?_
  refine HQ.rseq ?_
  refine HQ.pu Pu.move ⟨rfl, trivial⟩ rfl rfl rfl ?_
  refine HQ.pu (Pu.len ul22) ⟨rfl, trivial⟩ rfl rfl rfl ?_
  refine HQ.pu Pu.move ⟨rfl, trivial⟩ rfl rfl rfl ?_
  refine HQ.pu (Pu.len ul22) ⟨rfl, trivial⟩ rfl rfl rfl ?_
  refine HQ.pu Pu.neq ⟨rfl, rfl, trivial⟩ rfl rfl rfl ?_
  refine HQ.done ?_
  refine HQ.keep [(0, _), (1, _), (4, _), (10, _)] ⟨rfl, rfl, rfl, rfl, trivial⟩ ?_
  rcases brk H with ⟨hc, H⟩ | ⟨hc, H⟩
  · refine HQ.condT rfl hc ?_
    clear hc
    refine HQ.rseq ?_
    refine HQ.pu Pu.assign ⟨rfl, trivial⟩ rfl rfl rfl ?_
    refine HQ.done ?_
    refine HQ.keep [(0, _), (1, _), (4, _)] ⟨rfl, rfl, rfl, trivial⟩ ?_
    refine HQ.ret ?_
    refine HQ.thenR ?_
    obtain rfl := Option.some.inj H
    exact HQ.fin (vs := [_]) Try.results23 () ⟨rfl, trivial⟩ rfl [] trivial rfl
  · refine HQ.condF rfl hc ?_
    clear hc
    refine HQ.skipThen ?_
    refine HQ.seq ?_
    refine HQ.rseq ?_
    refine HQ.pu Pu.assign ⟨rfl, trivial⟩ rfl rfl rfl ?_
    refine HQ.done ?_
    refine HQ.keep [(0, _), (1, _), (4, _), (5, _)] ⟨rfl, rfl, rfl, rfl, trivial⟩ ?_
    refine HQ.block ?_
    obtain ⟨o11, h13, H⟩ := bnd H
    refine HQ.loop h13 0 (fun (s : Int) (g : Unit) => match s, g with | i4, () => [(0, .slice a_0 (List.length p0) c_0), (1, .slice a_1 (List.length p1) c_1), (4, .bool false), (5, .int .i64 i4)]) (fun (s : Int) (g : Unit) => match s, g with | i4, () => []) (fun r => bodyPost Try.prog Try.f23 (Rt w Nil (fun _ : Unit => .bool r) (fun _ => [])) .ret) () ⟨rfl, rfl, rfl, rfl, trivial⟩ trivial rfl ?_ ?_ ?_
    · clear H h13
      rintro i4 _ o H
      rw [laws_same_b0] at H
      refine HQ.keep [(0, _), (1, _), (4, _), (5, _)] ⟨rfl, rfl, rfl, rfl, trivial⟩ ?_
      refine HQ.keepR [] trivial rfl ?_
      refine HQ.seq ?_
      refine HQ.rseq ?_
      refine HQ.pu Pu.move ⟨rfl, trivial⟩ rfl rfl rfl ?_
      refine HQ.pu Pu.move ⟨rfl, trivial⟩ rfl rfl rfl ?_
      refine HQ.pu (Pu.len ul22) ⟨rfl, trivial⟩ rfl rfl rfl ?_
      refine HQ.pu Pu.lss ⟨rfl, rfl, trivial⟩ rfl rfl rfl ?_
      refine HQ.done ?_
      refine HQ.keep [(0, _), (1, _), (4, _), (5, _), (14, _)] ⟨rfl, rfl, rfl, rfl, rfl, trivial⟩ ?_
      rcases brk H with ⟨hc, H⟩ | ⟨hc, H⟩
      · refine HQ.condT rfl hc ?_
        clear hc
        refine HQ.skipThen ?_
        refine HQ.seq ?_
        refine HQ.block ?_
        obtain ⟨h9, H⟩ := asr H
        obtain ⟨h10, H⟩ := asr H
        refine HQ.drawS mixd [(0, .slice a_0 (List.length p0) c_0), (1, .slice a_1 (List.length p1) c_1), (4, .bool false), (5, .int .i64 i4)] 8 [⟨[], [], []⟩, ⟨[], [], []⟩, ⟨[], [], [0, 1]⟩, ⟨[], [], [2]⟩, ⟨[], [], []⟩, ⟨[], [], []⟩, ⟨[], [], [4, 5]⟩, ⟨[], [], [6]⟩] [] (fun (g8 : Unit) => [.slice a_0 (List.length p0) c_0, .int .i64 i4, EP a_0 i4 1 0, .int .u8 (gt p0 i4), .slice a_1 (List.length p1) c_1, .int .i64 i4, EP a_1 i4 1 0, .int .u8 (gt p1 i4)]) (fun (g8 : Unit) => []) () [] [] [] ⟨rfl, rfl, rfl, rfl, trivial⟩ trivial rfl (by kernel_rfl) (fun _ => rfl) (by kernel_rfl) (fun _ => rfl) ⟨?_, ?_, ?_, ?_, ?_, ?_, ?_, ?_, trivial⟩ fun g8 => ?_
        · exact OpOK.of (fun g8 => [(.tmp 0, .slice a_0 (List.length p0) c_0)]) _ _ (fun g8 _ => g8) rfl rfl (fun _ => ⟨rfl, trivial⟩) (fun g8 => Pu.toOT Pu.move) (fun _ _ => ⟨rfl, rfl, trivial⟩)
        · exact OpOK.of (fun g8 => [(.tmp 5, .int .i64 i4)]) _ _ (fun g8 _ => g8) rfl rfl (fun _ => ⟨rfl, trivial⟩) (fun g8 => Pu.toOT Pu.move) (fun _ _ => ⟨rfl, rfl, trivial⟩)
        · exact OpOK.of (fun g8 => [(.tmp 17, .slice a_0 (List.length p0) c_0), (.tmp 18, .int .i64 i4)]) _ _ (fun g8 _ => g8) rfl rfl (fun _ => ⟨rfl, rfl, trivial⟩) (fun g8 => OT.indexB ul22 sz5 hb_0 h9) (fun _ _ => ⟨rfl, rfl, trivial⟩)
        · exact OpOK.of (fun g8 => [(.tmp 19, EP a_0 i4 1 0)]) _ _ (fun g8 _ => g8) rfl rfl (fun _ => ⟨rfl, trivial⟩) (fun g8 => OT.loadF sc5 hb_0 h9 rfl) (fun _ _ => ⟨rfl, rfl, trivial⟩)
        · exact OpOK.of (fun g8 => [(.tmp 1, .slice a_1 (List.length p1) c_1)]) _ _ (fun g8 _ => g8) rfl rfl (fun _ => ⟨rfl, trivial⟩) (fun g8 => Pu.toOT Pu.move) (fun _ _ => ⟨rfl, rfl, trivial⟩)
        · exact OpOK.of (fun g8 => [(.tmp 5, .int .i64 i4)]) _ _ (fun g8 _ => g8) rfl rfl (fun _ => ⟨rfl, trivial⟩) (fun g8 => Pu.toOT Pu.move) (fun _ _ => ⟨rfl, rfl, trivial⟩)
        · exact OpOK.of (fun g8 => [(.tmp 21, .slice a_1 (List.length p1) c_1), (.tmp 22, .int .i64 i4)]) _ _ (fun g8 _ => g8) rfl rfl (fun _ => ⟨rfl, rfl, trivial⟩) (fun g8 => OT.indexB ul22 sz5 hb_1 h10) (fun _ _ => ⟨rfl, rfl, trivial⟩)
        · exact OpOK.of (fun g8 => [(.tmp 23, EP a_1 i4 1 0)]) _ _ (fun g8 _ => g8) rfl rfl (fun _ => ⟨rfl, trivial⟩) (fun g8 => OT.loadF sc5 hb_1 h10 rfl) (fun _ _ => ⟨rfl, rfl, trivial⟩)
        refine HQ.keep [(0, _), (1, _), (4, _), (5, _), (20, _), (24, _)] ⟨rfl, rfl, rfl, rfl, rfl, rfl, trivial⟩ ?_
        refine HQ.keepR [] trivial rfl ?_
        refine HQ.pu Pu.neq ⟨rfl, rfl, trivial⟩ rfl rfl rfl ?_
        refine HQ.done ?_
        refine HQ.keep [(0, _), (1, _), (4, _), (5, _), (25, _)] ⟨rfl, rfl, rfl, rfl, rfl, trivial⟩ ?_
        rcases brk H with ⟨hc, H⟩ | ⟨hc, H⟩
        · refine HQ.condT rfl hc ?_
          clear hc
          refine HQ.rseq ?_
          refine HQ.pu Pu.assign ⟨rfl, trivial⟩ rfl rfl rfl ?_
          refine HQ.done ?_
          refine HQ.keep [(0, _), (1, _), (4, _), (5, _)] ⟨rfl, rfl, rfl, rfl, trivial⟩ ?_
          refine HQ.ret ?_
          refine HQ.blkR ?_
          refine HQ.thenR ?_
          obtain rfl := Option.some.inj H
          refine HQ.retL ?_
          exact HQ.fin (vs := [_]) Try.results23 () ⟨rfl, trivial⟩ rfl [] trivial rfl
        · refine HQ.condF rfl hc ?_
          clear hc
          refine HQ.skip ?_
          refine HQ.blkN ?_
          refine HQ.thenN ?_
          refine HQ.regionQ ?_
          refine HQ.pu Pu.move ⟨rfl, trivial⟩ rfl rfl rfl ?_
          refine HQ.pu Pu.add ⟨rfl, rfl, trivial⟩ rfl rfl rfl ?_
          refine HQ.pu Pu.assign ⟨rfl, trivial⟩ rfl rfl rfl ?_
          refine HQ.done ?_
          refine HQ.keep [(0, _), (1, _), (4, _), (5, _)] ⟨rfl, rfl, rfl, rfl, trivial⟩ ?_
          obtain rfl := Option.some.inj H
          exact HQ.next () ⟨rfl, rfl, rfl, rfl, trivial⟩ trivial rfl
      · refine HQ.condF rfl hc ?_
        clear hc
        refine HQ.exit ?_
        refine HQ.thenE ?_
        obtain rfl := Option.some.inj H
        exact HQ.out () ⟨rfl, rfl, rfl, rfl, trivial⟩ trivial rfl
    · rintro i12 rfl _
      clear h13
      replace H := H
      refine HQ.keep [(0, _), (1, _), (4, _), (5, _)] ⟨rfl, rfl, rfl, rfl, trivial⟩ ?_
      refine HQ.keepR [] trivial rfl ?_
      refine HQ.blkE ?_
      refine HQ.thenN ?_
      refine HQ.rseq ?_
      refine HQ.pu Pu.assign ⟨rfl, trivial⟩ rfl rfl rfl ?_
      refine HQ.done ?_
      refine HQ.keep [(4, _)] ⟨rfl, trivial⟩ ?_
      refine HQ.ret ?_
      obtain rfl := Option.some.inj H
      exact HQ.fin (vs := [_]) Try.results23 () ⟨rfl, trivial⟩ rfl [] trivial rfl
    · rintro r rfl a w hr
      obtain rfl := Option.some.inj H
      exact hr

end Go.Proofs.Sx
