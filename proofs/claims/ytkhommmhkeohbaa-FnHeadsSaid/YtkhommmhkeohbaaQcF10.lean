import Derived.Test.YtkhommmhkeohbaaQcF9
import Derived.KernelRfl
namespace Go.Proofs.Sx
open Go.RowKit
set_option linter.unusedVariables false
set_option linter.unusedSimpArgs false
set_option maxRecDepth 20000
set_option maxHeartbeats 1000000
/-! laws.sameDisk -/
theorem laws_sameDisk_c {w : World} {k : Nat} {p0 : TDisk} {p1 : TDisk} {a_0 : Option Addr} {c_0 : Nat} {a_1 : Option Addr} {c_1 : Nat} {a_2 : Option Addr} {c_2 : Nat} {a_3 : Option Addr} {c_3 : Nat} (hb_0 : BorS kTCell a_0 c_0 p0.Cells w.heap (Lt w Nil)) (hb_1 : BorS kTWet a_1 c_1 p0.Wet w.heap (Lt w Nil)) (hb_2 : BorS kTCell a_2 c_2 p1.Cells w.heap (Lt w Nil)) (hb_3 : BorS kTWet a_3 c_3 p1.Wet w.heap (Lt w Nil)) {r : Bool} (H : laws_sameDisk k p0 p1 = some r) :
    Calls Try.prog 19 #[.agg #[.slice a_0 (List.length p0.Cells) c_0, .slice a_1 (List.length p0.Wet) c_1, .int .i64 p0.Fuse, .bool p0.Dead], .agg #[.slice a_2 (List.length p1.Cells) c_2, .slice a_3 (List.length p1.Wet) c_3, .int .i64 p1.Fuse, .bool p1.Dead]] w (Rt w Nil (fun _ : Unit => .bool r) (fun _ => [])) := by
  rw [laws_sameDisk] at H
  refine Calls.enter0 (N := 109) (us := [_, _]) Try.func19 rfl rfl rfl ?_
  refine HQ.rseq ?_
  refine HQ.op [] [1] (OT.box (cs := [.slice a_0 (List.length p0.Cells) c_0, .slice a_1 (List.length p0.Wet) c_1, .int .i64 p0.Fuse, .bool p0.Dead]) rfl) ⟨rfl, trivial⟩ trivial rfl rfl rfl rfl (fun _ => rfl) fun b1 => ?_
  refine HQ.op [] [2] (OT.box (cs := [.slice a_2 (List.length p1.Cells) c_2, .slice a_3 (List.length p1.Wet) c_3, .int .i64 p1.Fuse, .bool p1.Dead]) rfl) ⟨rfl, trivial⟩ trivial rfl rfl rfl rfl (fun _ => rfl) fun b2 => ?_
  refine HQ.pu Pu.assign ⟨rfl, trivial⟩ rfl rfl rfl ?_
  refine HQ.done ?_
  refine HQ.keep [(2, _), (3, _), (4, _)] ⟨rfl, rfl, rfl, trivial⟩ ?_
  refine HQ.seq ?_
  refine HQ.rseq ?_
  refine HQ.pu (Pu.fieldB fo27_0 rfl) ⟨rfl, trivial⟩ rfl rfl rfl ?_
  refine HQ.op [1] [1] (OT.loadB sc24 rfl) ⟨rfl, trivial⟩ ⟨rfl, trivial⟩ rfl rfl rfl rfl (fun _ => rfl) fun _ => ?_
  refine HQ.pu (Pu.len ul24) ⟨rfl, trivial⟩ rfl rfl rfl ?_
  refine HQ.pu (Pu.fieldB fo27_0 rfl) ⟨rfl, trivial⟩ rfl rfl rfl ?_
  refine HQ.op [2] [2] (OT.loadB sc24 rfl) ⟨rfl, trivial⟩ ⟨rfl, trivial⟩ rfl rfl rfl rfl (fun _ => rfl) fun _ => ?_
  refine HQ.pu (Pu.len ul24) ⟨rfl, trivial⟩ rfl rfl rfl ?_
  refine HQ.pu Pu.neq ⟨rfl, rfl, trivial⟩ rfl rfl rfl ?_
  refine HQ.pu Pu.move ⟨rfl, trivial⟩ rfl rfl rfl ?_
  refine HQ.cutAt 8 [(22, .bool ((!decide (((List.length p0.Cells : Nat) : Int) = ((List.length p1.Cells : Nat) : Int))) || (!decide (((List.length p0.Wet : Nat) : Int) = ((List.length p1.Wet : Nat) : Int))))), (2, BP b1 0), (3, BP b2 0), (4, .bool false)] [(1, Box b1 [.slice a_0 (List.length p0.Cells) c_0, .slice a_1 (List.length p0.Wet) c_1, .int .i64 p0.Fuse, .bool p0.Dead]), (2, Box b2 [.slice a_2 (List.length p1.Cells) c_2, .slice a_3 (List.length p1.Wet) c_3, .int .i64 p1.Fuse, .bool p1.Dead])] ?_ ?_
  · rcases Bool.eq_false_or_eq_true (!decide (((List.length p0.Cells : Nat) : Int) = ((List.length p1.Cells : Nat) : Int))) with hg3 | hg3
    · refine HQ.off rfl rfl hg3 rfl ?_
      refine HQ.off rfl rfl hg3 rfl ?_
      refine HQ.off rfl rfl hg3 rfl ?_
      refine HQ.off rfl rfl hg3 rfl ?_
      refine HQ.off rfl rfl hg3 rfl ?_
      refine HQ.off rfl rfl hg3 rfl ?_
      refine HQ.off rfl rfl hg3 rfl ?_
      refine HQ.pu (Pu.pickOT (u := (!decide (((List.length p0.Wet : Nat) : Int) = ((List.length p1.Wet : Nat) : Int)))) hg3) ⟨rfl, rfl, trivial⟩ rfl rfl rfl ?_
      exact HQ.mid ⟨rfl, rfl, rfl, rfl, trivial⟩ ⟨rfl, rfl, trivial⟩ rfl
    · refine HQ.on rfl rfl hg3 ?_
      refine HQ.pu (Pu.fieldB fo27_1 rfl) ⟨rfl, trivial⟩ rfl rfl rfl ?_
      refine HQ.on rfl rfl hg3 ?_
      refine HQ.op [1] [1] (OT.loadB sc25 rfl) ⟨rfl, trivial⟩ ⟨rfl, trivial⟩ rfl rfl rfl rfl (fun _ => rfl) fun _ => ?_
      refine HQ.on rfl rfl hg3 ?_
      refine HQ.pu (Pu.len ul25) ⟨rfl, trivial⟩ rfl rfl rfl ?_
      refine HQ.on rfl rfl hg3 ?_
      refine HQ.pu (Pu.fieldB fo27_1 rfl) ⟨rfl, trivial⟩ rfl rfl rfl ?_
      refine HQ.on rfl rfl hg3 ?_
      refine HQ.op [2] [2] (OT.loadB sc25 rfl) ⟨rfl, trivial⟩ ⟨rfl, trivial⟩ rfl rfl rfl rfl (fun _ => rfl) fun _ => ?_
      refine HQ.on rfl rfl hg3 ?_
      refine HQ.pu (Pu.len ul25) ⟨rfl, trivial⟩ rfl rfl rfl ?_
      refine HQ.on rfl rfl hg3 ?_
      refine HQ.pu Pu.neq ⟨rfl, rfl, trivial⟩ rfl rfl rfl ?_
      refine HQ.pu (Pu.pickOF hg3) ⟨rfl, rfl, trivial⟩ rfl rfl rfl ?_
      exact HQ.mid ⟨rfl, rfl, rfl, rfl, trivial⟩ ⟨rfl, rfl, trivial⟩ rfl
  refine HQ.pu Pu.move ⟨rfl, trivial⟩ rfl rfl rfl ?_
  refine HQ.cutAt 6 [(29, .bool (((!decide (((List.length p0.Cells : Nat) : Int) = ((List.length p1.Cells : Nat) : Int))) || (!decide (((List.length p0.Wet : Nat) : Int) = ((List.length p1.Wet : Nat) : Int)))) || (!decide (p0.Fuse = p1.Fuse)))), (2, BP b1 0), (3, BP b2 0), (4, .bool false)] [(1, Box b1 [.slice a_0 (List.length p0.Cells) c_0, .slice a_1 (List.length p0.Wet) c_1, .int .i64 p0.Fuse, .bool p0.Dead]), (2, Box b2 [.slice a_2 (List.length p1.Cells) c_2, .slice a_3 (List.length p1.Wet) c_3, .int .i64 p1.Fuse, .bool p1.Dead])] ?_ ?_
  · rcases Bool.eq_false_or_eq_true ((!decide (((List.length p0.Cells : Nat) : Int) = ((List.length p1.Cells : Nat) : Int))) || (!decide (((List.length p0.Wet : Nat) : Int) = ((List.length p1.Wet : Nat) : Int)))) with hg4 | hg4
    · refine HQ.off rfl rfl hg4 rfl ?_
      refine HQ.off rfl rfl hg4 rfl ?_
      refine HQ.off rfl rfl hg4 rfl ?_
      refine HQ.off rfl rfl hg4 rfl ?_
      refine HQ.off rfl rfl hg4 rfl ?_
      refine HQ.pu (Pu.pickOT (u := (!decide (p0.Fuse = p1.Fuse))) hg4) ⟨rfl, rfl, trivial⟩ rfl rfl rfl ?_
      exact HQ.mid ⟨rfl, rfl, rfl, rfl, trivial⟩ ⟨rfl, rfl, trivial⟩ rfl
    · refine HQ.on rfl rfl hg4 ?_
      refine HQ.pu (Pu.fieldB fo27_2 rfl) ⟨rfl, trivial⟩ rfl rfl rfl ?_
      refine HQ.on rfl rfl hg4 ?_
      refine HQ.op [1] [1] (OT.loadB sc3 rfl) ⟨rfl, trivial⟩ ⟨rfl, trivial⟩ rfl rfl rfl rfl (fun _ => rfl) fun _ => ?_
      refine HQ.on rfl rfl hg4 ?_
      refine HQ.pu (Pu.fieldB fo27_2 rfl) ⟨rfl, trivial⟩ rfl rfl rfl ?_
      refine HQ.on rfl rfl hg4 ?_
      refine HQ.op [2] [2] (OT.loadB sc3 rfl) ⟨rfl, trivial⟩ ⟨rfl, trivial⟩ rfl rfl rfl rfl (fun _ => rfl) fun _ => ?_
      refine HQ.on rfl rfl hg4 ?_
      refine HQ.pu Pu.neq ⟨rfl, rfl, trivial⟩ rfl rfl rfl ?_
      refine HQ.pu (Pu.pickOF hg4) ⟨rfl, rfl, trivial⟩ rfl rfl rfl ?_
      exact HQ.mid ⟨rfl, rfl, rfl, rfl, trivial⟩ ⟨rfl, rfl, trivial⟩ rfl
  refine HQ.pu Pu.move ⟨rfl, trivial⟩ rfl rfl rfl ?_
  refine HQ.cutAt 6 [(36, .bool ((((!decide (((List.length p0.Cells : Nat) : Int) = ((List.length p1.Cells : Nat) : Int))) || (!decide (((List.length p0.Wet : Nat) : Int) = ((List.length p1.Wet : Nat) : Int)))) || (!decide (p0.Fuse = p1.Fuse))) || (!(p0.Dead == p1.Dead)))), (2, BP b1 0), (3, BP b2 0), (4, .bool false)] [(1, Box b1 [.slice a_0 (List.length p0.Cells) c_0, .slice a_1 (List.length p0.Wet) c_1, .int .i64 p0.Fuse, .bool p0.Dead]), (2, Box b2 [.slice a_2 (List.length p1.Cells) c_2, .slice a_3 (List.length p1.Wet) c_3, .int .i64 p1.Fuse, .bool p1.Dead])] ?_ ?_
  · rcases Bool.eq_false_or_eq_true (((!decide (((List.length p0.Cells : Nat) : Int) = ((List.length p1.Cells : Nat) : Int))) || (!decide (((List.length p0.Wet : Nat) : Int) = ((List.length p1.Wet : Nat) : Int)))) || (!decide (p0.Fuse = p1.Fuse))) with hg5 | hg5
    · refine HQ.off rfl rfl hg5 rfl ?_
      refine HQ.off rfl rfl hg5 rfl ?_
      refine HQ.off rfl rfl hg5 rfl ?_
      refine HQ.off rfl rfl hg5 rfl ?_
      refine HQ.off rfl rfl hg5 rfl ?_
      refine HQ.pu (Pu.pickOT (u := (!(p0.Dead == p1.Dead))) hg5) ⟨rfl, rfl, trivial⟩ rfl rfl rfl ?_
      exact HQ.mid ⟨rfl, rfl, rfl, rfl, trivial⟩ ⟨rfl, rfl, trivial⟩ rfl
    · refine HQ.on rfl rfl hg5 ?_
      refine HQ.pu (Pu.fieldB fo27_3 rfl) ⟨rfl, trivial⟩ rfl rfl rfl ?_
      refine HQ.on rfl rfl hg5 ?_
      refine HQ.op [1] [1] (OT.loadB sc4 rfl) ⟨rfl, trivial⟩ ⟨rfl, trivial⟩ rfl rfl rfl rfl (fun _ => rfl) fun _ => ?_
      refine HQ.on rfl rfl hg5 ?_
      refine HQ.pu (Pu.fieldB fo27_3 rfl) ⟨rfl, trivial⟩ rfl rfl rfl ?_
      refine HQ.on rfl rfl hg5 ?_
      refine HQ.op [2] [2] (OT.loadB sc4 rfl) ⟨rfl, trivial⟩ ⟨rfl, trivial⟩ rfl rfl rfl rfl (fun _ => rfl) fun _ => ?_
      refine HQ.on rfl rfl hg5 ?_
      refine HQ.pu (Pu.neqB ul4) ⟨rfl, rfl, trivial⟩ rfl rfl rfl ?_
      refine HQ.pu (Pu.pickOF hg5) ⟨rfl, rfl, trivial⟩ rfl rfl rfl ?_
      exact HQ.mid ⟨rfl, rfl, rfl, rfl, trivial⟩ ⟨rfl, rfl, trivial⟩ rfl
  refine HQ.done ?_
  refine HQ.keep [(36, _), (2, _), (3, _), (4, _)] ⟨rfl, rfl, rfl, rfl, trivial⟩ ?_
  rcases brk H with ⟨hc, H⟩ | ⟨hc, H⟩
  · refine HQ.condT rfl hc ?_
    clear hc
    refine HQ.rseq ?_
    refine HQ.pu Pu.assign ⟨rfl, trivial⟩ rfl rfl rfl ?_
    refine HQ.done ?_
    refine HQ.keep [(2, _), (3, _), (4, _)] ⟨rfl, rfl, rfl, trivial⟩ ?_
    refine HQ.ret ?_
    refine HQ.thenR ?_
    obtain rfl := Option.some.inj H
    exact HQ.fin (vs := [_]) Try.results19 () ⟨rfl, trivial⟩ rfl [] trivial rfl
  · refine HQ.condF rfl hc ?_
    clear hc
    refine HQ.skipThen ?_
    refine HQ.seq ?_
    refine HQ.rseq ?_
    refine HQ.pu Pu.assign ⟨rfl, trivial⟩ rfl rfl rfl ?_
    refine HQ.done ?_
    refine HQ.keep [(2, _), (3, _), (4, _), (5, _)] ⟨rfl, rfl, rfl, rfl, trivial⟩ ?_
    refine HQ.block ?_
    obtain ⟨o91, h181, H⟩ := bnd H
    refine HQ.loop h181 0 (fun (s : Int) (g : Unit) => match s, g with | i34, () => [(2, BP b1 0), (3, BP b2 0), (4, .bool false), (5, .int .i64 i34)]) (fun (s : Int) (g : Unit) => match s, g with | i34, () => [(1, Box b1 [.slice a_0 (List.length p0.Cells) c_0, .slice a_1 (List.length p0.Wet) c_1, .int .i64 p0.Fuse, .bool p0.Dead]), (2, Box b2 [.slice a_2 (List.length p1.Cells) c_2, .slice a_3 (List.length p1.Wet) c_3, .int .i64 p1.Fuse, .bool p1.Dead])]) (fun r => bodyPost Try.prog Try.f19 (Rt w Nil (fun _ : Unit => .bool r) (fun _ => [])) .ret) () ⟨rfl, rfl, rfl, rfl, trivial⟩ ⟨rfl, rfl, trivial⟩ rfl ?_ ?_ ?_
    · clear H h181
      rintro i34 _ o H
      rw [laws_sameDisk_b0] at H
      refine HQ.keep [(2, _), (3, _), (4, _), (5, _)] ⟨rfl, rfl, rfl, rfl, trivial⟩ ?_
      refine HQ.keepR [(1, _), (2, _)] ⟨rfl, rfl, trivial⟩ rfl ?_
      refine HQ.seq ?_
      refine HQ.rseq ?_
      refine HQ.pu Pu.move ⟨rfl, trivial⟩ rfl rfl rfl ?_
      refine HQ.pu (Pu.fieldB fo27_0 rfl) ⟨rfl, trivial⟩ rfl rfl rfl ?_
      refine HQ.op [1] [1] (OT.loadB sc24 rfl) ⟨rfl, trivial⟩ ⟨rfl, trivial⟩ rfl rfl rfl rfl (fun _ => rfl) fun _ => ?_
      refine HQ.pu (Pu.len ul24) ⟨rfl, trivial⟩ rfl rfl rfl ?_
      refine HQ.pu Pu.lss ⟨rfl, rfl, trivial⟩ rfl rfl rfl ?_
      refine HQ.done ?_
      refine HQ.keep [(2, _), (3, _), (4, _), (5, _), (41, _)] ⟨rfl, rfl, rfl, rfl, rfl, trivial⟩ ?_
      rcases brk H with ⟨hc, H⟩ | ⟨hc, H⟩
      · refine HQ.condT rfl hc ?_
        clear hc
        refine HQ.skipThen ?_
        refine HQ.seq ?_
        refine HQ.block ?_
        refine HQ.seq ?_
        refine HQ.dStart mixd ?_
        obtain ⟨h64, H⟩ := asr H
        obtain ⟨h69, H⟩ := asr H
        obtain ⟨⟨a65, c66⟩, hb67, hn68⟩ := BorS.nest hb_0 h64
        obtain ⟨⟨a70, c71⟩, hb72, hn73⟩ := BorS.nest hb_2 h69
        refine HQ.dPart [(2, BP b1 0), (3, BP b2 0), (4, .bool false), (5, .int .i64 i34)] 12 [⟨[], [], []⟩, ⟨[0], [0], [0]⟩, ⟨[], [], []⟩, ⟨[], [], [1, 2]⟩, ⟨[], [], [3]⟩, ⟨[], [], [4]⟩, ⟨[], [], []⟩, ⟨[1], [1], [6]⟩, ⟨[], [], []⟩, ⟨[], [], [7, 8]⟩, ⟨[], [], [9]⟩, ⟨[], [], [10]⟩] [⟨none, none⟩, ⟨none, none⟩] (fun (g63 : Unit) => [BP b1 0, .slice a_0 (List.length p0.Cells) c_0, .int .i64 i34, EP a_0 i34 2 0, EP a_0 i34 2 0, .bool ((gt p0.Cells i34).Bad), BP b2 0, .slice a_2 (List.length p1.Cells) c_2, .int .i64 i34, EP a_2 i34 2 0, EP a_2 i34 2 0, .bool ((gt p1.Cells i34).Bad)]) (fun (g63 : Unit) => [Box b1 [.slice a_0 (List.length p0.Cells) c_0, .slice a_1 (List.length p0.Wet) c_1, .int .i64 p0.Fuse, .bool p0.Dead], Box b2 [.slice a_2 (List.length p1.Cells) c_2, .slice a_3 (List.length p1.Wet) c_3, .int .i64 p1.Fuse, .bool p1.Dead]]) () [1, 2] [1, 2] [] ⟨rfl, rfl, rfl, rfl, trivial⟩ ⟨rfl, rfl, trivial⟩ rfl (by kernel_rfl) (by kernel_rfl) (fun _ => rfl) (by kernel_rfl) (fun _ => rfl) rfl ⟨?_, ?_, ?_, ?_, ?_, ?_, ?_, ?_, ?_, ?_, ?_, ?_, trivial⟩ fun g63 => ?_
        · exact OpOK2.of (fun g63 => [(.tmp 2, BP b1 0)]) _ _ (fun g63 _ => g63) rfl rfl (fun _ => ⟨rfl, trivial⟩) (fun g63 => Pu.toOT (Pu.fieldB fo27_0 rfl)) (fun _ _ => ⟨rfl, rfl, ⟨rfl, rfl, trivial⟩⟩)
        · exact OpOK2.of (fun g63 => [(.tmp 44, BP b1 0)]) _ _ (fun g63 _ => g63) rfl rfl (fun _ => ⟨rfl, trivial⟩) (fun g63 => OT.loadB sc24 rfl) (fun _ _ => ⟨rfl, rfl, ⟨rfl, rfl, trivial⟩⟩)
        · exact OpOK2.of (fun g63 => [(.tmp 5, .int .i64 i34)]) _ _ (fun g63 _ => g63) rfl rfl (fun _ => ⟨rfl, trivial⟩) (fun g63 => Pu.toOT Pu.move) (fun _ _ => ⟨rfl, rfl, ⟨rfl, rfl, trivial⟩⟩)
        · exact OpOK2.of (fun g63 => [(.tmp 45, .slice a_0 (List.length p0.Cells) c_0), (.tmp 46, .int .i64 i34)]) _ _ (fun g63 _ => g63) rfl rfl (fun _ => ⟨rfl, rfl, trivial⟩) (fun g63 => OT.indexB ul24 sz113 hb_0 h64) (fun _ _ => ⟨rfl, rfl, ⟨rfl, rfl, trivial⟩⟩)
        · exact OpOK2.of (fun g63 => [(.tmp 47, EP a_0 i34 2 0)]) _ _ (fun g63 _ => g63) rfl rfl (fun _ => ⟨rfl, trivial⟩) (fun g63 => Pu.toOT (Pu.fieldE fo113_0 rfl)) (fun _ _ => ⟨rfl, rfl, ⟨rfl, rfl, trivial⟩⟩)
        · exact OpOK2.of (fun g63 => [(.tmp 48, EP a_0 i34 2 0)]) _ _ (fun g63 _ => g63) rfl rfl (fun _ => ⟨rfl, trivial⟩) (fun g63 => OT.loadN (v := .bool ((gt p0.Cells i34).Bad)) sc4 hn68 hlTCell rfl) (fun _ _ => ⟨rfl, rfl, ⟨rfl, rfl, trivial⟩⟩)
        · exact OpOK2.of (fun g63 => [(.tmp 3, BP b2 0)]) _ _ (fun g63 _ => g63) rfl rfl (fun _ => ⟨rfl, trivial⟩) (fun g63 => Pu.toOT (Pu.fieldB fo27_0 rfl)) (fun _ _ => ⟨rfl, rfl, ⟨rfl, rfl, trivial⟩⟩)
        · exact OpOK2.of (fun g63 => [(.tmp 50, BP b2 0)]) _ _ (fun g63 _ => g63) rfl rfl (fun _ => ⟨rfl, trivial⟩) (fun g63 => OT.loadB sc24 rfl) (fun _ _ => ⟨rfl, rfl, ⟨rfl, rfl, trivial⟩⟩)
        · exact OpOK2.of (fun g63 => [(.tmp 5, .int .i64 i34)]) _ _ (fun g63 _ => g63) rfl rfl (fun _ => ⟨rfl, trivial⟩) (fun g63 => Pu.toOT Pu.move) (fun _ _ => ⟨rfl, rfl, ⟨rfl, rfl, trivial⟩⟩)
        · exact OpOK2.of (fun g63 => [(.tmp 51, .slice a_2 (List.length p1.Cells) c_2), (.tmp 52, .int .i64 i34)]) _ _ (fun g63 _ => g63) rfl rfl (fun _ => ⟨rfl, rfl, trivial⟩) (fun g63 => OT.indexB ul24 sz113 hb_2 h69) (fun _ _ => ⟨rfl, rfl, ⟨rfl, rfl, trivial⟩⟩)
        · exact OpOK2.of (fun g63 => [(.tmp 53, EP a_2 i34 2 0)]) _ _ (fun g63 _ => g63) rfl rfl (fun _ => ⟨rfl, trivial⟩) (fun g63 => Pu.toOT (Pu.fieldE fo113_0 rfl)) (fun _ _ => ⟨rfl, rfl, ⟨rfl, rfl, trivial⟩⟩)
        · exact OpOK2.of (fun g63 => [(.tmp 54, EP a_2 i34 2 0)]) _ _ (fun g63 _ => g63) rfl rfl (fun _ => ⟨rfl, trivial⟩) (fun g63 => OT.loadN (v := .bool ((gt p1.Cells i34).Bad)) sc4 hn73 hlTCell rfl) (fun _ _ => ⟨rfl, rfl, ⟨rfl, rfl, trivial⟩⟩)
        refine HQ.keep [(2, _), (3, _), (4, _), (5, _), (49, _), (55, _)] ⟨rfl, rfl, rfl, rfl, rfl, rfl, trivial⟩ ?_
        refine HQ.keepR [(1, _), (2, _)] ⟨rfl, rfl, trivial⟩ rfl ?_
        refine HQ.dRun 2 rfl rfl (by kernel_rfl) (by kernel_rfl) ?_
        refine HQ.pu (Pu.neqB ul4) ⟨rfl, rfl, trivial⟩ rfl rfl rfl ?_
        refine HQ.pu Pu.move ⟨rfl, trivial⟩ rfl rfl rfl ?_
        refine HQ.done ?_
        obtain ⟨c89, h90, H⟩ := bnd H
        refine HQ.dMid (m' := 29) [(72, .bool c89), (2, BP b1 0), (3, BP b2 0), (4, .bool false), (5, .int .i64 i34)] [(1, Box b1 [.slice a_0 (List.length p0.Cells) c_0, .slice a_1 (List.length p0.Wet) c_1, .int .i64 p0.Fuse, .bool p0.Dead]), (2, Box b2 [.slice a_2 (List.length p1.Cells) c_2, .slice a_3 (List.length p1.Wet) c_3, .int .i64 p1.Fuse, .bool p1.Dead])] (fun hmid => ?_) ?_
        · clear H
          have H := h90
          rcases brk H with ⟨hg74, H⟩ | ⟨hg74, H⟩
          · obtain rfl := Option.some.inj H
            refine HQ.dPart [(2, BP b1 0), (3, BP b2 0), (4, .bool false), (5, .int .i64 i34), (57, .bool (!(((gt p0.Cells i34).Bad) == ((gt p1.Cells i34).Bad))))] 26 [⟨[], [], []⟩, ⟨[], [], []⟩, ⟨[], [], []⟩, ⟨[], [], []⟩, ⟨[], [], []⟩, ⟨[], [], []⟩, ⟨[], [], []⟩, ⟨[], [], []⟩, ⟨[], [], []⟩, ⟨[], [], []⟩, ⟨[], [], []⟩, ⟨[], [], []⟩, ⟨[], [], []⟩, ⟨[], [], []⟩, ⟨[], [], []⟩, ⟨[], [], []⟩, ⟨[], [], []⟩, ⟨[], [], []⟩, ⟨[], [], []⟩, ⟨[], [], []⟩, ⟨[], [], []⟩, ⟨[], [], []⟩, ⟨[], [], []⟩, ⟨[], [], []⟩, ⟨[], [], []⟩, ⟨[], [], []⟩] [] (fun (g88 : Unit) => [undef, undef, undef, undef, undef, undef, undef, undef, undef, undef, undef, undef, undef, undef, undef, undef, undef, undef, undef, undef, undef, undef, undef, undef, undef, undef]) (fun (g88 : Unit) => []) () [] [] [] ⟨rfl, rfl, rfl, rfl, rfl, trivial⟩ trivial rfl (by kernel_rfl) (by kernel_rfl) (fun _ => rfl) (by kernel_rfl) (fun _ => rfl) rfl ⟨?_, ?_, ?_, ?_, ?_, ?_, ?_, ?_, ?_, ?_, ?_, ?_, trivial⟩ fun g88 => ?_
            · exact OpOK2.off rfl rfl rfl hg74 rfl rfl (fun _ => ⟨rfl, trivial⟩)
            · exact OpOK2.off rfl rfl rfl hg74 rfl rfl (fun _ => ⟨rfl, trivial⟩)
            · exact OpOK2.off rfl rfl rfl hg74 rfl rfl (fun _ => ⟨rfl, trivial⟩)
            · exact OpOK2.off rfl rfl rfl hg74 rfl rfl (fun _ => ⟨rfl, trivial⟩)
            · exact OpOK2.off rfl rfl rfl hg74 rfl rfl (fun _ => ⟨rfl, trivial⟩)
            · exact OpOK2.off rfl rfl rfl hg74 rfl rfl (fun _ => ⟨rfl, trivial⟩)
            · exact OpOK2.off rfl rfl rfl hg74 rfl rfl (fun _ => ⟨rfl, trivial⟩)
            · exact OpOK2.off rfl rfl rfl hg74 rfl rfl (fun _ => ⟨rfl, trivial⟩)
            · exact OpOK2.off rfl rfl rfl hg74 rfl rfl (fun _ => ⟨rfl, trivial⟩)
            · exact OpOK2.off rfl rfl rfl hg74 rfl rfl (fun _ => ⟨rfl, trivial⟩)
            · exact OpOK2.off rfl rfl rfl hg74 rfl rfl (fun _ => ⟨rfl, trivial⟩)
            · exact OpOK2.off rfl rfl rfl hg74 rfl rfl (fun _ => ⟨rfl, trivial⟩)
            refine HQ.keep [(2, _), (3, _), (4, _), (5, _), (57, _), (58, _), (59, _), (60, _), (61, _), (62, _), (63, _), (64, _), (65, _), (66, _), (67, _), (68, _), (69, _)] ⟨rfl, rfl, rfl, rfl, rfl, rfl, rfl, rfl, rfl, rfl, rfl, rfl, rfl, rfl, rfl, rfl, rfl, trivial⟩ ?_
            refine HQ.keepR [(1, _), (2, _)] ⟨rfl, rfl, trivial⟩ rfl ?_
            refine HQ.dRun 2 rfl rfl (by kernel_rfl) (by kernel_rfl) ?_
            refine HQ.off rfl rfl hg74 rfl ?_
            refine HQ.off rfl rfl hg74 rfl ?_
            refine HQ.done ?_
            refine HQ.dRun 1 rfl rfl (by kernel_rfl) (by kernel_rfl) ?_
            refine HQ.pu (Pu.pickC1 hg74) ⟨rfl, rfl, trivial⟩ rfl rfl rfl ?_
            refine HQ.done ?_
            exact HQ.dUse hmid ⟨rfl, rfl, rfl, rfl, rfl, trivial⟩ ⟨rfl, rfl, trivial⟩ rfl
          · obtain ⟨h76, H⟩ := asr H
            obtain ⟨h81, H⟩ := asr H
            obtain ⟨⟨a77, c78⟩, hb79, hn80⟩ := BorS.nest hb_0 h76
            obtain ⟨⟨a82, c83⟩, hb84, hn85⟩ := BorS.nest hb_2 h81
            refine HQ.dPart [(2, BP b1 0), (3, BP b2 0), (4, .bool false), (5, .int .i64 i34), (57, .bool (!(((gt p0.Cells i34).Bad) == ((gt p1.Cells i34).Bad))))] 26 [⟨[], [], []⟩, ⟨[], [], []⟩, ⟨[], [], []⟩, ⟨[], [], []⟩, ⟨[], [], []⟩, ⟨[], [], []⟩, ⟨[], [], []⟩, ⟨[], [], []⟩, ⟨[], [], []⟩, ⟨[], [], []⟩, ⟨[], [], []⟩, ⟨[], [], []⟩, ⟨[], [], []⟩, ⟨[], [], []⟩, ⟨[], [], []⟩, ⟨[0], [0], [14]⟩, ⟨[], [], []⟩, ⟨[], [], [15, 16]⟩, ⟨[], [], [17]⟩, ⟨[], [], [18]⟩, ⟨[], [], []⟩, ⟨[1], [1], [20]⟩, ⟨[], [], []⟩, ⟨[], [], [21, 22]⟩, ⟨[], [], [23]⟩, ⟨[], [], [24]⟩] [⟨none, none⟩, ⟨none, none⟩] (fun (g75 : Unit) => [undef, undef, undef, undef, undef, undef, undef, undef, undef, undef, undef, undef, undef, undef, BP b1 0, .slice a_0 (List.length p0.Cells) c_0, .int .i64 i34, EP a_0 i34 2 0, EP a_0 i34 2 1, .slice a77 (List.length ((gt p0.Cells i34).B)) c78, BP b2 0, .slice a_2 (List.length p1.Cells) c_2, .int .i64 i34, EP a_2 i34 2 0, EP a_2 i34 2 1, .slice a82 (List.length ((gt p1.Cells i34).B)) c83]) (fun (g75 : Unit) => [Box b1 [.slice a_0 (List.length p0.Cells) c_0, .slice a_1 (List.length p0.Wet) c_1, .int .i64 p0.Fuse, .bool p0.Dead], Box b2 [.slice a_2 (List.length p1.Cells) c_2, .slice a_3 (List.length p1.Wet) c_3, .int .i64 p1.Fuse, .bool p1.Dead]]) () [1, 2] [1, 2] [] ⟨rfl, rfl, rfl, rfl, rfl, trivial⟩ ⟨rfl, rfl, trivial⟩ rfl (by kernel_rfl) (by kernel_rfl) (fun _ => rfl) (by kernel_rfl) (fun _ => rfl) rfl ⟨?_, ?_, ?_, ?_, ?_, ?_, ?_, ?_, ?_, ?_, ?_, ?_, trivial⟩ fun g75 => ?_
            · exact OpOK2.on (fun g75 => [(.tmp 2, BP b1 0)]) _ _ (fun g75 _ => g75) rfl rfl rfl hg74 (fun _ => ⟨rfl, trivial⟩) (fun g75 => Pu.toOT (Pu.fieldB fo27_0 rfl)) (fun _ _ => ⟨rfl, rfl, ⟨rfl, rfl, trivial⟩⟩)
            · exact OpOK2.on (fun g75 => [(.tmp 58, BP b1 0)]) _ _ (fun g75 _ => g75) rfl rfl rfl hg74 (fun _ => ⟨rfl, trivial⟩) (fun g75 => OT.loadB sc24 rfl) (fun _ _ => ⟨rfl, rfl, ⟨rfl, rfl, trivial⟩⟩)
            · exact OpOK2.on (fun g75 => [(.tmp 5, .int .i64 i34)]) _ _ (fun g75 _ => g75) rfl rfl rfl hg74 (fun _ => ⟨rfl, trivial⟩) (fun g75 => Pu.toOT Pu.move) (fun _ _ => ⟨rfl, rfl, ⟨rfl, rfl, trivial⟩⟩)
            · exact OpOK2.on (fun g75 => [(.tmp 59, .slice a_0 (List.length p0.Cells) c_0), (.tmp 60, .int .i64 i34)]) _ _ (fun g75 _ => g75) rfl rfl rfl hg74 (fun _ => ⟨rfl, rfl, trivial⟩) (fun g75 => OT.indexB ul24 sz113 hb_0 h76) (fun _ _ => ⟨rfl, rfl, ⟨rfl, rfl, trivial⟩⟩)
            · exact OpOK2.on (fun g75 => [(.tmp 61, EP a_0 i34 2 0)]) _ _ (fun g75 _ => g75) rfl rfl rfl hg74 (fun _ => ⟨rfl, trivial⟩) (fun g75 => Pu.toOT (Pu.fieldE fo113_1 rfl)) (fun _ _ => ⟨rfl, rfl, ⟨rfl, rfl, trivial⟩⟩)
            · exact OpOK2.on (fun g75 => [(.tmp 62, EP a_0 i34 2 1)]) _ _ (fun g75 _ => g75) rfl rfl rfl hg74 (fun _ => ⟨rfl, trivial⟩) (fun g75 => OT.loadN (v := .slice a77 (List.length ((gt p0.Cells i34).B)) c78) sc22 hn80 hlTCell rfl) (fun _ _ => ⟨rfl, rfl, ⟨rfl, rfl, trivial⟩⟩)
            · exact OpOK2.on (fun g75 => [(.tmp 3, BP b2 0)]) _ _ (fun g75 _ => g75) rfl rfl rfl hg74 (fun _ => ⟨rfl, trivial⟩) (fun g75 => Pu.toOT (Pu.fieldB fo27_0 rfl)) (fun _ _ => ⟨rfl, rfl, ⟨rfl, rfl, trivial⟩⟩)
            · exact OpOK2.on (fun g75 => [(.tmp 64, BP b2 0)]) _ _ (fun g75 _ => g75) rfl rfl rfl hg74 (fun _ => ⟨rfl, trivial⟩) (fun g75 => OT.loadB sc24 rfl) (fun _ _ => ⟨rfl, rfl, ⟨rfl, rfl, trivial⟩⟩)
            · exact OpOK2.on (fun g75 => [(.tmp 5, .int .i64 i34)]) _ _ (fun g75 _ => g75) rfl rfl rfl hg74 (fun _ => ⟨rfl, trivial⟩) (fun g75 => Pu.toOT Pu.move) (fun _ _ => ⟨rfl, rfl, ⟨rfl, rfl, trivial⟩⟩)
            · exact OpOK2.on (fun g75 => [(.tmp 65, .slice a_2 (List.length p1.Cells) c_2), (.tmp 66, .int .i64 i34)]) _ _ (fun g75 _ => g75) rfl rfl rfl hg74 (fun _ => ⟨rfl, rfl, trivial⟩) (fun g75 => OT.indexB ul24 sz113 hb_2 h81) (fun _ _ => ⟨rfl, rfl, ⟨rfl, rfl, trivial⟩⟩)
            · exact OpOK2.on (fun g75 => [(.tmp 67, EP a_2 i34 2 0)]) _ _ (fun g75 _ => g75) rfl rfl rfl hg74 (fun _ => ⟨rfl, trivial⟩) (fun g75 => Pu.toOT (Pu.fieldE fo113_1 rfl)) (fun _ _ => ⟨rfl, rfl, ⟨rfl, rfl, trivial⟩⟩)
            · exact OpOK2.on (fun g75 => [(.tmp 68, EP a_2 i34 2 1)]) _ _ (fun g75 _ => g75) rfl rfl rfl hg74 (fun _ => ⟨rfl, trivial⟩) (fun g75 => OT.loadN (v := .slice a82 (List.length ((gt p1.Cells i34).B)) c83) sc22 hn85 hlTCell rfl) (fun _ _ => ⟨rfl, rfl, ⟨rfl, rfl, trivial⟩⟩)
            refine HQ.keep [(2, _), (3, _), (4, _), (5, _), (57, _), (58, _), (59, _), (60, _), (61, _), (62, _), (63, _), (64, _), (65, _), (66, _), (67, _), (68, _), (69, _)] ⟨rfl, rfl, rfl, rfl, rfl, rfl, rfl, rfl, rfl, rfl, rfl, rfl, rfl, rfl, rfl, rfl, rfl, trivial⟩ ?_
            refine HQ.keepR [(1, _), (2, _)] ⟨rfl, rfl, trivial⟩ rfl ?_
            refine HQ.dRun 2 rfl rfl (by kernel_rfl) (by kernel_rfl) ?_
            refine HQ.on rfl rfl hg74 ?_
            obtain ⟨t86, h87, H⟩ := bnd H
            refine HQ.op [] [] (OT.call (us := [_, _]) (Pre := []) [.tmp 63, .tmp 69] Try.call23 rfl rfl fun w F hs hF hp => laws_same_c (hb79.pass hp) (hb84.pass hp) h87) ⟨rfl, rfl, rfl, trivial⟩ trivial rfl rfl rfl rfl (fun _ => rfl) fun _ => ?_
            refine HQ.on rfl rfl hg74 ?_
            refine HQ.pu Pu.not ⟨rfl, trivial⟩ rfl rfl rfl ?_
            refine HQ.done ?_
            obtain rfl := Option.some.inj H
            refine HQ.dRun 1 rfl rfl (by kernel_rfl) (by kernel_rfl) ?_
            refine HQ.pu (Pu.pickC0 hg74) ⟨rfl, rfl, trivial⟩ rfl rfl rfl ?_
            refine HQ.done ?_
            exact HQ.dUse hmid ⟨rfl, rfl, rfl, rfl, rfl, trivial⟩ ⟨rfl, rfl, trivial⟩ rfl
        refine HQ.dEnd rfl ?_
        refine HQ.thenN ?_
        refine HQ.keep [(72, _), (2, _), (3, _), (4, _), (5, _)] ⟨rfl, rfl, rfl, rfl, rfl, trivial⟩ ?_
        rcases brk H with ⟨hc, H⟩ | ⟨hc, H⟩
        · refine HQ.condT rfl hc ?_
          clear hc
          refine HQ.rseq ?_
          refine HQ.pu Pu.assign ⟨rfl, trivial⟩ rfl rfl rfl ?_
          refine HQ.done ?_
          refine HQ.keep [(2, _), (3, _), (4, _), (5, _)] ⟨rfl, rfl, rfl, rfl, trivial⟩ ?_
          refine HQ.ret ?_
          refine HQ.blkR ?_
          refine HQ.thenR ?_
          obtain rfl := Option.some.inj H
          refine HQ.retL ?_
          exact HQ.fin (vs := [_]) Try.results19 () ⟨rfl, trivial⟩ rfl [] trivial rfl
        · refine HQ.condF rfl hc ?_
          clear hc
          refine HQ.skip ?_
          refine HQ.blkN ?_
          refine HQ.thenN ?_
          refine HQ.regionQ ?_
          refine HQ.pu Pu.move ⟨rfl, trivial⟩ rfl rfl rfl ?_
          refine HQ.pu Pu.add ⟨rfl, rfl, trivial⟩ rfl rfl rfl ?_
          refine HQ.pu Pu.assign ⟨rfl, trivial⟩ rfl rfl rfl ?_
          refine HQ.done ?_
          refine HQ.keep [(2, _), (3, _), (4, _), (5, _)] ⟨rfl, rfl, rfl, rfl, trivial⟩ ?_
          obtain rfl := Option.some.inj H
          exact HQ.next () ⟨rfl, rfl, rfl, rfl, trivial⟩ ⟨rfl, rfl, trivial⟩ rfl
      · refine HQ.condF rfl hc ?_
        clear hc
        refine HQ.exit ?_
        refine HQ.thenE ?_
        obtain rfl := Option.some.inj H
        exact HQ.out () ⟨rfl, rfl, rfl, rfl, trivial⟩ ⟨rfl, rfl, trivial⟩ rfl
    · rintro i92 rfl _
      clear h181
      replace H := H
      refine HQ.keep [(2, _), (3, _), (4, _), (5, _)] ⟨rfl, rfl, rfl, rfl, trivial⟩ ?_
      refine HQ.keepR [(1, _), (2, _)] ⟨rfl, rfl, trivial⟩ rfl ?_
      refine HQ.blkE ?_
      refine HQ.thenN ?_
      refine HQ.seq ?_
      refine HQ.rseq ?_
      refine HQ.pu Pu.assign ⟨rfl, trivial⟩ rfl rfl rfl ?_
      refine HQ.done ?_
      refine HQ.keep [(2, _), (3, _), (4, _), (6, _)] ⟨rfl, rfl, rfl, rfl, trivial⟩ ?_
      refine HQ.block ?_
      obtain ⟨o178, h180, H⟩ := bnd H
      refine HQ.loop h180 2 (fun (s : Int) (g : Unit) => match s, g with | i121, () => [(2, BP b1 0), (3, BP b2 0), (4, .bool false), (6, .int .i64 i121)]) (fun (s : Int) (g : Unit) => match s, g with | i121, () => [(1, Box b1 [.slice a_0 (List.length p0.Cells) c_0, .slice a_1 (List.length p0.Wet) c_1, .int .i64 p0.Fuse, .bool p0.Dead]), (2, Box b2 [.slice a_2 (List.length p1.Cells) c_2, .slice a_3 (List.length p1.Wet) c_3, .int .i64 p1.Fuse, .bool p1.Dead])]) (fun r => bodyPost Try.prog Try.f19 (Rt w Nil (fun _ : Unit => .bool r) (fun _ => [])) .ret) () ⟨rfl, rfl, rfl, rfl, trivial⟩ ⟨rfl, rfl, trivial⟩ rfl ?_ ?_ ?_
      · clear H h180
        rintro i121 _ o H
        rw [laws_sameDisk_b1] at H
        refine HQ.keep [(2, _), (3, _), (4, _), (6, _)] ⟨rfl, rfl, rfl, rfl, trivial⟩ ?_
        refine HQ.keepR [(1, _), (2, _)] ⟨rfl, rfl, trivial⟩ rfl ?_
        refine HQ.seq ?_
        refine HQ.rseq ?_
        refine HQ.pu Pu.move ⟨rfl, trivial⟩ rfl rfl rfl ?_
        refine HQ.pu (Pu.fieldB fo27_1 rfl) ⟨rfl, trivial⟩ rfl rfl rfl ?_
        refine HQ.op [1] [1] (OT.loadB sc25 rfl) ⟨rfl, trivial⟩ ⟨rfl, trivial⟩ rfl rfl rfl rfl (fun _ => rfl) fun _ => ?_
        refine HQ.pu (Pu.len ul25) ⟨rfl, trivial⟩ rfl rfl rfl ?_
        refine HQ.pu Pu.lss ⟨rfl, rfl, trivial⟩ rfl rfl rfl ?_
        refine HQ.done ?_
        refine HQ.keep [(2, _), (3, _), (4, _), (6, _), (77, _)] ⟨rfl, rfl, rfl, rfl, rfl, trivial⟩ ?_
        rcases brk H with ⟨hc, H⟩ | ⟨hc, H⟩
        · refine HQ.condT rfl hc ?_
          clear hc
          refine HQ.skipThen ?_
          refine HQ.seq ?_
          refine HQ.block ?_
          refine HQ.seq ?_
          refine HQ.dStart mixd ?_
          obtain ⟨h151, H⟩ := asr H
          obtain ⟨h156, H⟩ := asr H
          obtain ⟨⟨a152, c153⟩, hb154, hn155⟩ := BorS.nest hb_1 h151
          obtain ⟨⟨a157, c158⟩, hb159, hn160⟩ := BorS.nest hb_3 h156
          refine HQ.dPart [(2, BP b1 0), (3, BP b2 0), (4, .bool false), (6, .int .i64 i121)] 12 [⟨[], [], []⟩, ⟨[0], [0], [0]⟩, ⟨[], [], []⟩, ⟨[], [], [1, 2]⟩, ⟨[], [], [3]⟩, ⟨[], [], [4]⟩, ⟨[], [], []⟩, ⟨[1], [1], [6]⟩, ⟨[], [], []⟩, ⟨[], [], [7, 8]⟩, ⟨[], [], [9]⟩, ⟨[], [], [10]⟩] [⟨none, none⟩, ⟨none, none⟩] (fun (g150 : Unit) => [BP b1 1, .slice a_1 (List.length p0.Wet) c_1, .int .i64 i121, EP a_1 i121 2 0, EP a_1 i121 2 0, .int .i64 ((gt p0.Wet i121).At), BP b2 1, .slice a_3 (List.length p1.Wet) c_3, .int .i64 i121, EP a_3 i121 2 0, EP a_3 i121 2 0, .int .i64 ((gt p1.Wet i121).At)]) (fun (g150 : Unit) => [Box b1 [.slice a_0 (List.length p0.Cells) c_0, .slice a_1 (List.length p0.Wet) c_1, .int .i64 p0.Fuse, .bool p0.Dead], Box b2 [.slice a_2 (List.length p1.Cells) c_2, .slice a_3 (List.length p1.Wet) c_3, .int .i64 p1.Fuse, .bool p1.Dead]]) () [1, 2] [1, 2] [] ⟨rfl, rfl, rfl, rfl, trivial⟩ ⟨rfl, rfl, trivial⟩ rfl (by kernel_rfl) (by kernel_rfl) (fun _ => rfl) (by kernel_rfl) (fun _ => rfl) rfl ⟨?_, ?_, ?_, ?_, ?_, ?_, ?_, ?_, ?_, ?_, ?_, ?_, trivial⟩ fun g150 => ?_
          · exact OpOK2.of (fun g150 => [(.tmp 2, BP b1 0)]) _ _ (fun g150 _ => g150) rfl rfl (fun _ => ⟨rfl, trivial⟩) (fun g150 => Pu.toOT (Pu.fieldB fo27_1 rfl)) (fun _ _ => ⟨rfl, rfl, ⟨rfl, rfl, trivial⟩⟩)
          · exact OpOK2.of (fun g150 => [(.tmp 80, BP b1 1)]) _ _ (fun g150 _ => g150) rfl rfl (fun _ => ⟨rfl, trivial⟩) (fun g150 => OT.loadB sc25 rfl) (fun _ _ => ⟨rfl, rfl, ⟨rfl, rfl, trivial⟩⟩)
          · exact OpOK2.of (fun g150 => [(.tmp 6, .int .i64 i121)]) _ _ (fun g150 _ => g150) rfl rfl (fun _ => ⟨rfl, trivial⟩) (fun g150 => Pu.toOT Pu.move) (fun _ _ => ⟨rfl, rfl, ⟨rfl, rfl, trivial⟩⟩)
          · exact OpOK2.of (fun g150 => [(.tmp 81, .slice a_1 (List.length p0.Wet) c_1), (.tmp 82, .int .i64 i121)]) _ _ (fun g150 _ => g150) rfl rfl (fun _ => ⟨rfl, rfl, trivial⟩) (fun g150 => OT.indexB ul25 sz110 hb_1 h151) (fun _ _ => ⟨rfl, rfl, ⟨rfl, rfl, trivial⟩⟩)
          · exact OpOK2.of (fun g150 => [(.tmp 83, EP a_1 i121 2 0)]) _ _ (fun g150 _ => g150) rfl rfl (fun _ => ⟨rfl, trivial⟩) (fun g150 => Pu.toOT (Pu.fieldE fo110_0 rfl)) (fun _ _ => ⟨rfl, rfl, ⟨rfl, rfl, trivial⟩⟩)
          · exact OpOK2.of (fun g150 => [(.tmp 84, EP a_1 i121 2 0)]) _ _ (fun g150 _ => g150) rfl rfl (fun _ => ⟨rfl, trivial⟩) (fun g150 => OT.loadN (v := .int .i64 ((gt p0.Wet i121).At)) sc3 hn155 hlTWet rfl) (fun _ _ => ⟨rfl, rfl, ⟨rfl, rfl, trivial⟩⟩)
          · exact OpOK2.of (fun g150 => [(.tmp 3, BP b2 0)]) _ _ (fun g150 _ => g150) rfl rfl (fun _ => ⟨rfl, trivial⟩) (fun g150 => Pu.toOT (Pu.fieldB fo27_1 rfl)) (fun _ _ => ⟨rfl, rfl, ⟨rfl, rfl, trivial⟩⟩)
          · exact OpOK2.of (fun g150 => [(.tmp 86, BP b2 1)]) _ _ (fun g150 _ => g150) rfl rfl (fun _ => ⟨rfl, trivial⟩) (fun g150 => OT.loadB sc25 rfl) (fun _ _ => ⟨rfl, rfl, ⟨rfl, rfl, trivial⟩⟩)
          · exact OpOK2.of (fun g150 => [(.tmp 6, .int .i64 i121)]) _ _ (fun g150 _ => g150) rfl rfl (fun _ => ⟨rfl, trivial⟩) (fun g150 => Pu.toOT Pu.move) (fun _ _ => ⟨rfl, rfl, ⟨rfl, rfl, trivial⟩⟩)
          · exact OpOK2.of (fun g150 => [(.tmp 87, .slice a_3 (List.length p1.Wet) c_3), (.tmp 88, .int .i64 i121)]) _ _ (fun g150 _ => g150) rfl rfl (fun _ => ⟨rfl, rfl, trivial⟩) (fun g150 => OT.indexB ul25 sz110 hb_3 h156) (fun _ _ => ⟨rfl, rfl, ⟨rfl, rfl, trivial⟩⟩)
          · exact OpOK2.of (fun g150 => [(.tmp 89, EP a_3 i121 2 0)]) _ _ (fun g150 _ => g150) rfl rfl (fun _ => ⟨rfl, trivial⟩) (fun g150 => Pu.toOT (Pu.fieldE fo110_0 rfl)) (fun _ _ => ⟨rfl, rfl, ⟨rfl, rfl, trivial⟩⟩)
          · exact OpOK2.of (fun g150 => [(.tmp 90, EP a_3 i121 2 0)]) _ _ (fun g150 _ => g150) rfl rfl (fun _ => ⟨rfl, trivial⟩) (fun g150 => OT.loadN (v := .int .i64 ((gt p1.Wet i121).At)) sc3 hn160 hlTWet rfl) (fun _ _ => ⟨rfl, rfl, ⟨rfl, rfl, trivial⟩⟩)
          refine HQ.keep [(2, _), (3, _), (4, _), (6, _), (85, _), (91, _)] ⟨rfl, rfl, rfl, rfl, rfl, rfl, trivial⟩ ?_
          refine HQ.keepR [(1, _), (2, _)] ⟨rfl, rfl, trivial⟩ rfl ?_
          refine HQ.dRun 2 rfl rfl (by kernel_rfl) (by kernel_rfl) ?_
          refine HQ.pu Pu.neq ⟨rfl, rfl, trivial⟩ rfl rfl rfl ?_
          refine HQ.pu Pu.move ⟨rfl, trivial⟩ rfl rfl rfl ?_
          refine HQ.done ?_
          obtain ⟨c176, h177, H⟩ := bnd H
          refine HQ.dMid (m' := 29) [(108, .bool c176), (2, BP b1 0), (3, BP b2 0), (4, .bool false), (6, .int .i64 i121)] [(1, Box b1 [.slice a_0 (List.length p0.Cells) c_0, .slice a_1 (List.length p0.Wet) c_1, .int .i64 p0.Fuse, .bool p0.Dead]), (2, Box b2 [.slice a_2 (List.length p1.Cells) c_2, .slice a_3 (List.length p1.Wet) c_3, .int .i64 p1.Fuse, .bool p1.Dead])] (fun hmid => ?_) ?_
          · clear H
            have H := h177
            rcases brk H with ⟨hg161, H⟩ | ⟨hg161, H⟩
            · obtain rfl := Option.some.inj H
              refine HQ.dPart [(2, BP b1 0), (3, BP b2 0), (4, .bool false), (6, .int .i64 i121), (93, .bool (!decide (((gt p0.Wet i121).At) = ((gt p1.Wet i121).At))))] 26 [⟨[], [], []⟩, ⟨[], [], []⟩, ⟨[], [], []⟩, ⟨[], [], []⟩, ⟨[], [], []⟩, ⟨[], [], []⟩, ⟨[], [], []⟩, ⟨[], [], []⟩, ⟨[], [], []⟩, ⟨[], [], []⟩, ⟨[], [], []⟩, ⟨[], [], []⟩, ⟨[], [], []⟩, ⟨[], [], []⟩, ⟨[], [], []⟩, ⟨[], [], []⟩, ⟨[], [], []⟩, ⟨[], [], []⟩, ⟨[], [], []⟩, ⟨[], [], []⟩, ⟨[], [], []⟩, ⟨[], [], []⟩, ⟨[], [], []⟩, ⟨[], [], []⟩, ⟨[], [], []⟩, ⟨[], [], []⟩] [] (fun (g175 : Unit) => [undef, undef, undef, undef, undef, undef, undef, undef, undef, undef, undef, undef, undef, undef, undef, undef, undef, undef, undef, undef, undef, undef, undef, undef, undef, undef]) (fun (g175 : Unit) => []) () [] [] [] ⟨rfl, rfl, rfl, rfl, rfl, trivial⟩ trivial rfl (by kernel_rfl) (by kernel_rfl) (fun _ => rfl) (by kernel_rfl) (fun _ => rfl) rfl ⟨?_, ?_, ?_, ?_, ?_, ?_, ?_, ?_, ?_, ?_, ?_, ?_, trivial⟩ fun g175 => ?_
              · exact OpOK2.off rfl rfl rfl hg161 rfl rfl (fun _ => ⟨rfl, trivial⟩)
              · exact OpOK2.off rfl rfl rfl hg161 rfl rfl (fun _ => ⟨rfl, trivial⟩)
              · exact OpOK2.off rfl rfl rfl hg161 rfl rfl (fun _ => ⟨rfl, trivial⟩)
              · exact OpOK2.off rfl rfl rfl hg161 rfl rfl (fun _ => ⟨rfl, trivial⟩)
              · exact OpOK2.off rfl rfl rfl hg161 rfl rfl (fun _ => ⟨rfl, trivial⟩)
              · exact OpOK2.off rfl rfl rfl hg161 rfl rfl (fun _ => ⟨rfl, trivial⟩)
              · exact OpOK2.off rfl rfl rfl hg161 rfl rfl (fun _ => ⟨rfl, trivial⟩)
              · exact OpOK2.off rfl rfl rfl hg161 rfl rfl (fun _ => ⟨rfl, trivial⟩)
              · exact OpOK2.off rfl rfl rfl hg161 rfl rfl (fun _ => ⟨rfl, trivial⟩)
              · exact OpOK2.off rfl rfl rfl hg161 rfl rfl (fun _ => ⟨rfl, trivial⟩)
              · exact OpOK2.off rfl rfl rfl hg161 rfl rfl (fun _ => ⟨rfl, trivial⟩)
              · exact OpOK2.off rfl rfl rfl hg161 rfl rfl (fun _ => ⟨rfl, trivial⟩)
              refine HQ.keep [(2, _), (3, _), (4, _), (6, _), (93, _), (94, _), (95, _), (96, _), (97, _), (98, _), (99, _), (100, _), (101, _), (102, _), (103, _), (104, _), (105, _)] ⟨rfl, rfl, rfl, rfl, rfl, rfl, rfl, rfl, rfl, rfl, rfl, rfl, rfl, rfl, rfl, rfl, rfl, trivial⟩ ?_
              refine HQ.keepR [(1, _), (2, _)] ⟨rfl, rfl, trivial⟩ rfl ?_
              refine HQ.dRun 2 rfl rfl (by kernel_rfl) (by kernel_rfl) ?_
              refine HQ.off rfl rfl hg161 rfl ?_
              refine HQ.off rfl rfl hg161 rfl ?_
              refine HQ.done ?_
              refine HQ.dRun 1 rfl rfl (by kernel_rfl) (by kernel_rfl) ?_
              refine HQ.pu (Pu.pickC1 hg161) ⟨rfl, rfl, trivial⟩ rfl rfl rfl ?_
              refine HQ.done ?_
              exact HQ.dUse hmid ⟨rfl, rfl, rfl, rfl, rfl, trivial⟩ ⟨rfl, rfl, trivial⟩ rfl
            · obtain ⟨h163, H⟩ := asr H
              obtain ⟨h168, H⟩ := asr H
              obtain ⟨⟨a164, c165⟩, hb166, hn167⟩ := BorS.nest hb_1 h163
              obtain ⟨⟨a169, c170⟩, hb171, hn172⟩ := BorS.nest hb_3 h168
              refine HQ.dPart [(2, BP b1 0), (3, BP b2 0), (4, .bool false), (6, .int .i64 i121), (93, .bool (!decide (((gt p0.Wet i121).At) = ((gt p1.Wet i121).At))))] 26 [⟨[], [], []⟩, ⟨[], [], []⟩, ⟨[], [], []⟩, ⟨[], [], []⟩, ⟨[], [], []⟩, ⟨[], [], []⟩, ⟨[], [], []⟩, ⟨[], [], []⟩, ⟨[], [], []⟩, ⟨[], [], []⟩, ⟨[], [], []⟩, ⟨[], [], []⟩, ⟨[], [], []⟩, ⟨[], [], []⟩, ⟨[], [], []⟩, ⟨[0], [0], [14]⟩, ⟨[], [], []⟩, ⟨[], [], [15, 16]⟩, ⟨[], [], [17]⟩, ⟨[], [], [18]⟩, ⟨[], [], []⟩, ⟨[1], [1], [20]⟩, ⟨[], [], []⟩, ⟨[], [], [21, 22]⟩, ⟨[], [], [23]⟩, ⟨[], [], [24]⟩] [⟨none, none⟩, ⟨none, none⟩] (fun (g162 : Unit) => [undef, undef, undef, undef, undef, undef, undef, undef, undef, undef, undef, undef, undef, undef, BP b1 1, .slice a_1 (List.length p0.Wet) c_1, .int .i64 i121, EP a_1 i121 2 0, EP a_1 i121 2 1, .slice a164 (List.length ((gt p0.Wet i121).B)) c165, BP b2 1, .slice a_3 (List.length p1.Wet) c_3, .int .i64 i121, EP a_3 i121 2 0, EP a_3 i121 2 1, .slice a169 (List.length ((gt p1.Wet i121).B)) c170]) (fun (g162 : Unit) => [Box b1 [.slice a_0 (List.length p0.Cells) c_0, .slice a_1 (List.length p0.Wet) c_1, .int .i64 p0.Fuse, .bool p0.Dead], Box b2 [.slice a_2 (List.length p1.Cells) c_2, .slice a_3 (List.length p1.Wet) c_3, .int .i64 p1.Fuse, .bool p1.Dead]]) () [1, 2] [1, 2] [] ⟨rfl, rfl, rfl, rfl, rfl, trivial⟩ ⟨rfl, rfl, trivial⟩ rfl (by kernel_rfl) (by kernel_rfl) (fun _ => rfl) (by kernel_rfl) (fun _ => rfl) rfl ⟨?_, ?_, ?_, ?_, ?_, ?_, ?_, ?_, ?_, ?_, ?_, ?_, trivial⟩ fun g162 => ?_
              · exact OpOK2.on (fun g162 => [(.tmp 2, BP b1 0)]) _ _ (fun g162 _ => g162) rfl rfl rfl hg161 (fun _ => ⟨rfl, trivial⟩) (fun g162 => Pu.toOT (Pu.fieldB fo27_1 rfl)) (fun _ _ => ⟨rfl, rfl, ⟨rfl, rfl, trivial⟩⟩)
              · exact OpOK2.on (fun g162 => [(.tmp 94, BP b1 1)]) _ _ (fun g162 _ => g162) rfl rfl rfl hg161 (fun _ => ⟨rfl, trivial⟩) (fun g162 => OT.loadB sc25 rfl) (fun _ _ => ⟨rfl, rfl, ⟨rfl, rfl, trivial⟩⟩)
              · exact OpOK2.on (fun g162 => [(.tmp 6, .int .i64 i121)]) _ _ (fun g162 _ => g162) rfl rfl rfl hg161 (fun _ => ⟨rfl, trivial⟩) (fun g162 => Pu.toOT Pu.move) (fun _ _ => ⟨rfl, rfl, ⟨rfl, rfl, trivial⟩⟩)
              · exact OpOK2.on (fun g162 => [(.tmp 95, .slice a_1 (List.length p0.Wet) c_1), (.tmp 96, .int .i64 i121)]) _ _ (fun g162 _ => g162) rfl rfl rfl hg161 (fun _ => ⟨rfl, rfl, trivial⟩) (fun g162 => OT.indexB ul25 sz110 hb_1 h163) (fun _ _ => ⟨rfl, rfl, ⟨rfl, rfl, trivial⟩⟩)
              · exact OpOK2.on (fun g162 => [(.tmp 97, EP a_1 i121 2 0)]) _ _ (fun g162 _ => g162) rfl rfl rfl hg161 (fun _ => ⟨rfl, trivial⟩) (fun g162 => Pu.toOT (Pu.fieldE fo110_1 rfl)) (fun _ _ => ⟨rfl, rfl, ⟨rfl, rfl, trivial⟩⟩)
              · exact OpOK2.on (fun g162 => [(.tmp 98, EP a_1 i121 2 1)]) _ _ (fun g162 _ => g162) rfl rfl rfl hg161 (fun _ => ⟨rfl, trivial⟩) (fun g162 => OT.loadN (v := .slice a164 (List.length ((gt p0.Wet i121).B)) c165) sc22 hn167 hlTWet rfl) (fun _ _ => ⟨rfl, rfl, ⟨rfl, rfl, trivial⟩⟩)
              · exact OpOK2.on (fun g162 => [(.tmp 3, BP b2 0)]) _ _ (fun g162 _ => g162) rfl rfl rfl hg161 (fun _ => ⟨rfl, trivial⟩) (fun g162 => Pu.toOT (Pu.fieldB fo27_1 rfl)) (fun _ _ => ⟨rfl, rfl, ⟨rfl, rfl, trivial⟩⟩)
              · exact OpOK2.on (fun g162 => [(.tmp 100, BP b2 1)]) _ _ (fun g162 _ => g162) rfl rfl rfl hg161 (fun _ => ⟨rfl, trivial⟩) (fun g162 => OT.loadB sc25 rfl) (fun _ _ => ⟨rfl, rfl, ⟨rfl, rfl, trivial⟩⟩)
              · exact OpOK2.on (fun g162 => [(.tmp 6, .int .i64 i121)]) _ _ (fun g162 _ => g162) rfl rfl rfl hg161 (fun _ => ⟨rfl, trivial⟩) (fun g162 => Pu.toOT Pu.move) (fun _ _ => ⟨rfl, rfl, ⟨rfl, rfl, trivial⟩⟩)
              · exact OpOK2.on (fun g162 => [(.tmp 101, .slice a_3 (List.length p1.Wet) c_3), (.tmp 102, .int .i64 i121)]) _ _ (fun g162 _ => g162) rfl rfl rfl hg161 (fun _ => ⟨rfl, rfl, trivial⟩) (fun g162 => OT.indexB ul25 sz110 hb_3 h168) (fun _ _ => ⟨rfl, rfl, ⟨rfl, rfl, trivial⟩⟩)
              · exact OpOK2.on (fun g162 => [(.tmp 103, EP a_3 i121 2 0)]) _ _ (fun g162 _ => g162) rfl rfl rfl hg161 (fun _ => ⟨rfl, trivial⟩) (fun g162 => Pu.toOT (Pu.fieldE fo110_1 rfl)) (fun _ _ => ⟨rfl, rfl, ⟨rfl, rfl, trivial⟩⟩)
              · exact OpOK2.on (fun g162 => [(.tmp 104, EP a_3 i121 2 1)]) _ _ (fun g162 _ => g162) rfl rfl rfl hg161 (fun _ => ⟨rfl, trivial⟩) (fun g162 => OT.loadN (v := .slice a169 (List.length ((gt p1.Wet i121).B)) c170) sc22 hn172 hlTWet rfl) (fun _ _ => ⟨rfl, rfl, ⟨rfl, rfl, trivial⟩⟩)
              refine HQ.keep [(2, _), (3, _), (4, _), (6, _), (93, _), (94, _), (95, _), (96, _), (97, _), (98, _), (99, _), (100, _), (101, _), (102, _), (103, _), (104, _), (105, _)] ⟨rfl, rfl, rfl, rfl, rfl, rfl, rfl, rfl, rfl, rfl, rfl, rfl, rfl, rfl, rfl, rfl, rfl, trivial⟩ ?_
              refine HQ.keepR [(1, _), (2, _)] ⟨rfl, rfl, trivial⟩ rfl ?_
              refine HQ.dRun 2 rfl rfl (by kernel_rfl) (by kernel_rfl) ?_
              refine HQ.on rfl rfl hg161 ?_
              obtain ⟨t173, h174, H⟩ := bnd H
              refine HQ.op [] [] (OT.call (us := [_, _]) (Pre := []) [.tmp 99, .tmp 105] Try.call23 rfl rfl fun w F hs hF hp => laws_same_c (hb166.pass hp) (hb171.pass hp) h174) ⟨rfl, rfl, rfl, trivial⟩ trivial rfl rfl rfl rfl (fun _ => rfl) fun _ => ?_
              refine HQ.on rfl rfl hg161 ?_
              refine HQ.pu Pu.not ⟨rfl, trivial⟩ rfl rfl rfl ?_
              refine HQ.done ?_
              obtain rfl := Option.some.inj H
              refine HQ.dRun 1 rfl rfl (by kernel_rfl) (by kernel_rfl) ?_
              refine HQ.pu (Pu.pickC0 hg161) ⟨rfl, rfl, trivial⟩ rfl rfl rfl ?_
              refine HQ.done ?_
              exact HQ.dUse hmid ⟨rfl, rfl, rfl, rfl, rfl, trivial⟩ ⟨rfl, rfl, trivial⟩ rfl
          refine HQ.dEnd rfl ?_
          refine HQ.thenN ?_
          refine HQ.keep [(108, _), (2, _), (3, _), (4, _), (6, _)] ⟨rfl, rfl, rfl, rfl, rfl, trivial⟩ ?_
          rcases brk H with ⟨hc, H⟩ | ⟨hc, H⟩
          · refine HQ.condT rfl hc ?_
            clear hc
            refine HQ.rseq ?_
            refine HQ.pu Pu.assign ⟨rfl, trivial⟩ rfl rfl rfl ?_
            refine HQ.done ?_
            refine HQ.keep [(2, _), (3, _), (4, _), (6, _)] ⟨rfl, rfl, rfl, rfl, trivial⟩ ?_
            refine HQ.ret ?_
            refine HQ.blkR ?_
            refine HQ.thenR ?_
            obtain rfl := Option.some.inj H
            refine HQ.retL ?_
            exact HQ.fin (vs := [_]) Try.results19 () ⟨rfl, trivial⟩ rfl [] trivial rfl
          · refine HQ.condF rfl hc ?_
            clear hc
            refine HQ.skip ?_
            refine HQ.blkN ?_
            refine HQ.thenN ?_
            refine HQ.regionQ ?_
            refine HQ.pu Pu.move ⟨rfl, trivial⟩ rfl rfl rfl ?_
            refine HQ.pu Pu.add ⟨rfl, rfl, trivial⟩ rfl rfl rfl ?_
            refine HQ.pu Pu.assign ⟨rfl, trivial⟩ rfl rfl rfl ?_
            refine HQ.done ?_
            refine HQ.keep [(2, _), (3, _), (4, _), (6, _)] ⟨rfl, rfl, rfl, rfl, trivial⟩ ?_
            obtain rfl := Option.some.inj H
            exact HQ.next () ⟨rfl, rfl, rfl, rfl, trivial⟩ ⟨rfl, rfl, trivial⟩ rfl
        · refine HQ.condF rfl hc ?_
          clear hc
          refine HQ.exit ?_
          refine HQ.thenE ?_
          obtain rfl := Option.some.inj H
          exact HQ.out () ⟨rfl, rfl, rfl, rfl, trivial⟩ ⟨rfl, rfl, trivial⟩ rfl
      · rintro i179 rfl _
        clear h180
        replace H := H
        refine HQ.keep [(2, _), (3, _), (4, _), (6, _)] ⟨rfl, rfl, rfl, rfl, trivial⟩ ?_
        refine HQ.keepR [(1, _), (2, _)] ⟨rfl, rfl, trivial⟩ rfl ?_
        refine HQ.blkE ?_
        refine HQ.thenN ?_
        refine HQ.rseq ?_
        refine HQ.pu Pu.assign ⟨rfl, trivial⟩ rfl rfl rfl ?_
        refine HQ.done ?_
        refine HQ.keep [(4, _)] ⟨rfl, trivial⟩ ?_
        refine HQ.ret ?_
        obtain rfl := Option.some.inj H
        exact HQ.fin (vs := [_]) Try.results19 () ⟨rfl, trivial⟩ rfl [] trivial rfl
      · rintro r rfl a w hr
        obtain rfl := Option.some.inj H
        exact hr
    · rintro r rfl a w hr
      obtain rfl := Option.some.inj H
      exact hr

/-! impl.DiskNew -/
theorem impl_DiskNew_c {w : World}   {r : TDisk} (H : impl_DiskNew = some r) :
    Calls Try.prog 25 #[] w (Rt w Nil (fun g : (Option Addr × Nat) × (Option Addr × Nat) => .agg #[.slice g.1.1 (List.length r.Cells) g.1.2, .slice g.2.1 (List.length r.Wet) g.2.2, .int .i64 r.Fuse, .bool r.Dead]) (fun g => [OwnS kTCell g.1.1 g.1.2 r.Cells, OwnS kTWet g.2.1 g.2.2 r.Wet])) := by
  rw [impl_DiskNew] at H
  refine Calls.enter0 (N := 2) (us := []) Try.func25 rfl rfl rfl ?_
  refine HQ.rseq ?_
  refine HQ.op [] [1] (OT.alloc zc27) trivial trivial rfl rfl rfl rfl (fun _ => rfl) fun b1 => ?_
  refine HQ.done ?_
  refine HQ.keep [(0, _)] ⟨rfl, trivial⟩ ?_
  refine HQ.rseq ?_
  refine HQ.pu (Pu.build (us := [.int .i64 (-1)]) (cs := [.slice none 0 0, .slice none 0 0, .int .i64 (-1), .bool false]) [(2, .const (.int .i64 (-1)))] st27 rfl rfl rfl) ⟨rfl, trivial⟩ rfl rfl rfl ?_
  refine HQ.opN [1] [1] [] (OT.storeC (cs' := [.slice none 0 0, .slice none 0 0, .int .i64 (-1), .bool false]) sz27 rfl rfl rfl rfl rfl) ⟨rfl, rfl, trivial⟩ ⟨rfl, trivial⟩ rfl rfl rfl (fun _ => rfl) fun _ => ?_
  refine HQ.done ?_
  refine HQ.keep [(0, _)] ⟨rfl, trivial⟩ ?_
  refine HQ.ret ?_
  obtain rfl := Option.some.inj H
  refine HQ.nil kTCell 2 rfl ?_
  refine HQ.nil kTWet 3 rfl ?_
  exact HQ.fin (vs := [_]) Try.results25 ((none, 0), (none, 0)) ⟨⟨_, _, 1, rfl, rfl, ag27, sz27, rfl⟩, trivial⟩ rfl [2, 3] ⟨rfl, rfl, trivial⟩ rfl

/-! (*impl.Disk).store -/
theorem impl_Disk_store_c {w : World} {k : Nat} {p0 : TDisk} {p1 : Int} {p2 : TCell} {β_0 : Nat} {a_0 : Option Addr} {c_0 : Nat} {a_1 : Option Addr} {c_1 : Nat} {a_2 : Option Addr} {c_2 : Nat} {F0 : Fp} (hs0 : Sat [Box β_0 [.slice a_0 (List.length p0.Cells) c_0, .slice a_1 (List.length p0.Wet) c_1, .int .i64 p0.Fuse, .bool p0.Dead], OwnS kTCell a_0 c_0 p0.Cells, OwnS kU8 a_2 c_2 p2.B] w.heap F0) (hF0 : ∀ b, F0 b → b < w.heap.size)  {r : TDisk} (H : impl_Disk_store k p0 p1 p2 = some r) :
    Calls Try.prog 84 #[BP β_0 0, .int .i64 p1, .agg #[.bool p2.Bad, .slice a_2 (List.length p2.B) c_2]] w (Rt w F0 (fun g : Option Addr × Nat => .tuple #[]) (fun g => [Box β_0 [.slice g.1 (List.length r.Cells) g.2, .slice a_1 (List.length p0.Wet) c_1, .int .i64 r.Fuse, .bool r.Dead], OwnS kTCell g.1 g.2 r.Cells])) := by
  rw [impl_Disk_store] at H
  refine Calls.enter (N := 33) (us := [_, _, _]) (F0 := F0) (Γ0 := [(2, Box β_0 [.slice a_0 (List.length p0.Cells) c_0, .slice a_1 (List.length p0.Wet) c_1, .int .i64 p0.Fuse, .bool p0.Dead]), (1, OwnS kTCell a_0 c_0 p0.Cells), (3, OwnS kU8 a_2 c_2 p2.B)]) Try.func84 rfl rfl rfl hs0 hF0 ?_
  refine HQ.rseq ?_
  refine HQ.op [] [4] (OT.box (cs := [.bool p2.Bad, .slice a_2 (List.length p2.B) c_2]) rfl) ⟨rfl, trivial⟩ trivial rfl rfl rfl rfl (fun _ => rfl) fun b1 => ?_
  refine HQ.done ?_
  refine HQ.keep [(0, _), (1, _), (5, _)] ⟨rfl, rfl, rfl, trivial⟩ ?_
  refine HQ.seq ?_
  refine HQ.rseq ?_
  refine HQ.pu Pu.move ⟨rfl, trivial⟩ rfl rfl rfl ?_
  obtain ⟨t2, h3, H⟩ := bnd H
  refine HQ.op [] [] (OT.call (us := [_, _, _]) (Pre := []) [.tmp 6, .const (.int .i64 0), .const (.int .i64 113)] Try.call83 rfl rfl fun w F hs hF hp => impl_in_c h3) ⟨rfl, rfl, rfl, rfl, trivial⟩ trivial rfl rfl rfl rfl (fun _ => rfl) fun _ => ?_
  refine HQ.pu Pu.not ⟨rfl, trivial⟩ rfl rfl rfl ?_
  refine HQ.done ?_
  refine HQ.keep [(0, _), (1, _), (5, _), (8, _)] ⟨rfl, rfl, rfl, rfl, trivial⟩ ?_
  rcases brk H with ⟨hc, H⟩ | ⟨hc, H⟩
  · refine HQ.condT rfl hc ?_
    clear hc
    refine HQ.ret ?_
    refine HQ.thenR ?_
    obtain rfl := Option.some.inj H
    exact HQ.fin (vs := []) Try.results84 (a_0, c_0) trivial rfl [2, 1] ⟨rfl, rfl, trivial⟩ rfl
  · refine HQ.condF rfl hc ?_
    clear hc
    refine HQ.skipThen ?_
    refine HQ.seq ?_
    refine HQ.block ?_
    obtain ⟨o22, h31, H⟩ := bnd H
    refine HQ.loop h31 0 (fun (s : (List TCell)) (g : Option Addr × Nat) => match s, g with | l9, (a10, c11) => [(0, BP β_0 0), (1, .int .i64 p1), (5, BP b1 0)]) (fun (s : (List TCell)) (g : Option Addr × Nat) => match s, g with | l9, (a10, c11) => [(2, Box β_0 [.slice a10 (List.length l9) c11, .slice a_1 (List.length p0.Wet) c_1, .int .i64 p0.Fuse, .bool p0.Dead]), (4, Box b1 [.bool p2.Bad, .slice a_2 (List.length p2.B) c_2]), (1, OwnS kTCell a10 c11 l9), (3, OwnS kU8 a_2 c_2 p2.B)]) (fun _ _ _ => False) (a_0, c_0) ⟨rfl, rfl, rfl, trivial⟩ ⟨rfl, rfl, rfl, rfl, trivial⟩ rfl ?_ ?_ ?_
    · clear H h31
      rintro l9 ⟨a10, c11⟩ o H
      rw [impl_Disk_store_b0] at H
      refine HQ.keep [(0, _), (1, _), (5, _)] ⟨rfl, rfl, rfl, trivial⟩ ?_
      refine HQ.keepR [(2, _), (4, _), (1, _), (3, _)] ⟨rfl, rfl, rfl, rfl, trivial⟩ rfl ?_
      refine HQ.seq ?_
      refine HQ.rseq ?_
      refine HQ.pu Pu.move ⟨rfl, trivial⟩ rfl rfl rfl ?_
      refine HQ.pu Pu.nilCheck ⟨rfl, trivial⟩ rfl rfl rfl ?_
      refine HQ.pu (Pu.fieldB fo27_0 rfl) ⟨rfl, trivial⟩ rfl rfl rfl ?_
      refine HQ.op [2] [2] (OT.loadB sc24 rfl) ⟨rfl, trivial⟩ ⟨rfl, trivial⟩ rfl rfl rfl rfl (fun _ => rfl) fun _ => ?_
      refine HQ.pu (Pu.len ul24) ⟨rfl, trivial⟩ rfl rfl rfl ?_
      refine HQ.pu Pu.move ⟨rfl, trivial⟩ rfl rfl rfl ?_
      refine HQ.pu Pu.leq ⟨rfl, rfl, trivial⟩ rfl rfl rfl ?_
      refine HQ.done ?_
      refine HQ.keep [(0, _), (1, _), (5, _), (15, _)] ⟨rfl, rfl, rfl, rfl, trivial⟩ ?_
      rcases brk H with ⟨hc, H⟩ | ⟨hc, H⟩
      · refine HQ.condT rfl hc ?_
        clear hc
        refine HQ.skipThen ?_
        refine HQ.block ?_
        refine HQ.regionQ ?_
        refine HQ.pu Pu.move ⟨rfl, trivial⟩ rfl rfl rfl ?_
        refine HQ.pu Pu.move ⟨rfl, trivial⟩ rfl rfl rfl ?_
        refine HQ.pu Pu.nilCheck ⟨rfl, trivial⟩ rfl rfl rfl ?_
        refine HQ.pu (Pu.fieldB fo27_0 rfl) ⟨rfl, trivial⟩ rfl rfl rfl ?_
        refine HQ.op [2] [2] (OT.loadB sc24 rfl) ⟨rfl, trivial⟩ ⟨rfl, trivial⟩ rfl rfl rfl rfl (fun _ => rfl) fun _ => ?_
        refine HQ.pu (Pu.build (us := []) (cs := [.bool false, .slice none 0 0]) [] st113 rfl rfl rfl) trivial rfl rfl rfl ?_
        refine HQ.nil kU8 9 rfl ?_
        refine HQ.opD [9] [10] [9] (OT.buildO (u := .agg #[.bool false, .slice none 0 0]) (enc := encTCell) (hl := hlTCell) (sub := fun (x : TCell) => x.B) (.tmp 21) (⟨false, ([] : (List Int))⟩ : TCell) sl24.ul sl24.szE sl24.zc rfl rfl rfl rfl) ⟨rfl, trivial⟩ ⟨rfl, trivial⟩ rfl rfl rfl rfl (fun _ => rfl) fun ⟨a17, c18⟩ => ?_
        obtain ⟨h21, H⟩ := asr H
        refine HQ.opD [1, 10] [1] [10] (OT.appendO (K := kTCell) sl24 ul24 h21) ⟨rfl, rfl, trivial⟩ ⟨rfl, rfl, trivial⟩ rfl rfl rfl rfl (fun _ => rfl) fun ⟨a19, c20⟩ => ?_
        refine HQ.pu Pu.nilCheck ⟨rfl, trivial⟩ rfl rfl rfl ?_
        refine HQ.pu (Pu.fieldB fo27_0 rfl) ⟨rfl, trivial⟩ rfl rfl rfl ?_
        refine HQ.opN [2] [2] [] (OT.storeC (cs' := [.slice a19 (List.length (l9 ++ ([(⟨false, ([] : (List Int))⟩ : TCell)] : (List TCell)))) c20, .slice a_1 (List.length p0.Wet) c_1, .int .i64 p0.Fuse, .bool p0.Dead]) sz24 rfl rfl rfl rfl rfl) ⟨rfl, rfl, trivial⟩ ⟨rfl, trivial⟩ rfl rfl rfl (fun _ => rfl) fun _ => ?_
        refine HQ.done ?_
        refine HQ.keep [(0, _), (1, _), (5, _)] ⟨rfl, rfl, rfl, trivial⟩ ?_
        refine HQ.blkN ?_
        obtain rfl := Option.some.inj H
        exact HQ.next (a19, c20) ⟨rfl, rfl, rfl, trivial⟩ ⟨rfl, rfl, rfl, rfl, trivial⟩ rfl
      · refine HQ.condF rfl hc ?_
        clear hc
        refine HQ.exit ?_
        refine HQ.thenE ?_
        obtain rfl := Option.some.inj H
        exact HQ.out (a10, c11) ⟨rfl, rfl, rfl, trivial⟩ ⟨rfl, rfl, rfl, rfl, trivial⟩ rfl
    · rintro l23 rfl ⟨a24, c25⟩
      clear h31
      replace H := H
      refine HQ.keep [(0, _), (1, _), (5, _)] ⟨rfl, rfl, rfl, trivial⟩ ?_
      refine HQ.keepR [(2, _), (4, _), (1, _), (3, _)] ⟨rfl, rfl, rfl, rfl, trivial⟩ rfl ?_
      refine HQ.blkE ?_
      refine HQ.thenN ?_
      refine HQ.draw mixd [(0, BP β_0 0), (1, .int .i64 p1), (5, BP b1 0)] 6 [⟨[], [], []⟩, ⟨[], [], [0]⟩, ⟨[], [], [1]⟩, ⟨[0], [0], [2]⟩, ⟨[], [], []⟩, ⟨[1], [1], []⟩] [⟨none, none⟩, ⟨none, none⟩] (fun (g26 : Unit) => [BP β_0 0, BP β_0 0, BP β_0 0, .slice a24 (List.length l23) c25, .int .i64 p1, .agg #[.bool p2.Bad, .slice a_2 (List.length p2.B) c_2]]) (fun (g26 : Unit) => [Box β_0 [.slice a24 (List.length l23) c25, .slice a_1 (List.length p0.Wet) c_1, .int .i64 p0.Fuse, .bool p0.Dead], Box b1 [.bool p2.Bad, .slice a_2 (List.length p2.B) c_2]]) () [2, 4] [2, 4] [] ⟨rfl, rfl, rfl, trivial⟩ ⟨rfl, rfl, trivial⟩ rfl (by kernel_rfl) (fun _ => rfl) (by kernel_rfl) (fun _ => rfl) ⟨?_, ?_, ?_, ?_, ?_, ?_, trivial⟩ fun g26 => ?_
      · exact OpOK.of (fun g26 => [(.tmp 0, BP β_0 0)]) _ _ (fun g26 _ => g26) rfl rfl (fun _ => ⟨rfl, trivial⟩) (fun g26 => Pu.toOT Pu.move) (fun _ _ => ⟨rfl, rfl, ⟨rfl, rfl, trivial⟩⟩)
      · exact OpOK.of (fun g26 => [(.tmp 26, BP β_0 0)]) _ _ (fun g26 _ => g26) rfl rfl (fun _ => ⟨rfl, trivial⟩) (fun g26 => Pu.toOT Pu.nilCheck) (fun _ _ => ⟨rfl, rfl, ⟨rfl, rfl, trivial⟩⟩)
      · exact OpOK.of (fun g26 => [(.tmp 27, BP β_0 0)]) _ _ (fun g26 _ => g26) rfl rfl (fun _ => ⟨rfl, trivial⟩) (fun g26 => Pu.toOT (Pu.fieldB fo27_0 rfl)) (fun _ _ => ⟨rfl, rfl, ⟨rfl, rfl, trivial⟩⟩)
      · exact OpOK.of (fun g26 => [(.tmp 28, BP β_0 0)]) _ _ (fun g26 _ => g26) rfl rfl (fun _ => ⟨rfl, trivial⟩) (fun g26 => OT.loadB sc24 rfl) (fun _ _ => ⟨rfl, rfl, ⟨rfl, rfl, trivial⟩⟩)
      · exact OpOK.of (fun g26 => [(.tmp 1, .int .i64 p1)]) _ _ (fun g26 _ => g26) rfl rfl (fun _ => ⟨rfl, trivial⟩) (fun g26 => Pu.toOT Pu.move) (fun _ _ => ⟨rfl, rfl, ⟨rfl, rfl, trivial⟩⟩)
      · exact OpOK.of (fun g26 => [(.tmp 5, BP b1 0)]) _ _ (fun g26 _ => g26) rfl rfl (fun _ => ⟨rfl, trivial⟩) (fun g26 => OT.loadBA (vs := [.bool p2.Bad, .slice a_2 (List.length p2.B) c_2]) ag113 sz113 rfl rfl) (fun _ _ => ⟨rfl, rfl, ⟨rfl, rfl, trivial⟩⟩)
      refine HQ.keep [(29, _), (30, _), (31, _)] ⟨rfl, rfl, rfl, trivial⟩ ?_
      refine HQ.keepR [(2, _), (4, _), (1, _), (3, _)] ⟨rfl, rfl, rfl, rfl, trivial⟩ rfl ?_
      obtain ⟨h27, H⟩ := asr H
      refine HQ.op [1] [1] (OT.indexO ul24 sz113 h27) ⟨rfl, rfl, trivial⟩ ⟨rfl, trivial⟩ rfl rfl rfl rfl (fun _ => rfl) fun _ => ?_
      refine HQ.opN [1, 3] [1] [3] (OT.storeW p2 sz113 rfl rfl rfl h27 rfl (fun _ => rfl) rfl) ⟨rfl, rfl, trivial⟩ ⟨rfl, rfl, trivial⟩ rfl rfl rfl (fun _ => rfl) fun _ => ?_
      obtain ⟨l28, h29, H⟩ := bnd H
      replace h29 := Option.some.inj h29
      refine HQ.reR (B := OwnS kTCell a24 c25 l28) 1 rfl (by intro _ _ hb; rw [← h29]; exact hb) ?_
      have h30 : List.length l28 = List.length l23 := by rw [← h29, List.length_set]
      refine HQ.re (v' := .slice a24 (List.length l28) c25) 29 rfl (by simp [h30]) ?_
      refine HQ.reR (B := Box β_0 [.slice a24 (List.length l28) c25, .slice a_1 (List.length p0.Wet) c_1, .int .i64 p0.Fuse, .bool p0.Dead]) 2 rfl (fun _ _ hb => by rw [show List.length l28 = List.length l23 from (by simp [h30])]; exact hb) ?_
      refine HQ.done ?_
      refine HQ.keep [] trivial ?_
      obtain rfl := Option.some.inj H
      exact HQ.fin (vs := []) Try.results84 (a24, c25) trivial rfl [2, 1] ⟨rfl, rfl, trivial⟩ rfl
    · exact fun r h a w hf => hf.elim

end Go.Proofs.Sx
