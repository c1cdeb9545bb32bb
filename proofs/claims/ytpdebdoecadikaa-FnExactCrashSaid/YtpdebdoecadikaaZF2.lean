import Derived.Test.YtpdebdoecadikaaZF1
import Derived.KernelRfl
namespace Go.Proofs.Sx
open Go.RowKit
set_option linter.unusedVariables false
set_option linter.unusedSimpArgs false
set_option maxRecDepth 20000
set_option maxHeartbeats 1000000
/-! spec.l18Copy -/
theorem spec_l18Copy_c {w : World} {k : Nat} {p0 : TDisk} {a_0 : Option Addr} {c_0 : Nat} {a_1 : Option Addr} {c_1 : Nat} (hb_0 : BorS kTCell a_0 c_0 p0.Cells w.heap (Lt w Nil)) (hb_1 : BorS kTWet a_1 c_1 p0.Wet w.heap (Lt w Nil)) {r : TDisk} (H : spec_l18Copy k p0 = some r) :
    Calls Try.prog 42 #[.agg #[.slice a_0 (List.length p0.Cells) c_0, .slice a_1 (List.length p0.Wet) c_1, .int .i64 p0.Fuse, .bool p0.Dead]] w (Rt w Nil (fun g : (Option Addr × Nat) × (Option Addr × Nat) => .agg #[.slice g.1.1 (List.length r.Cells) g.1.2, .slice g.2.1 (List.length r.Wet) g.2.2, .int .i64 r.Fuse, .bool r.Dead]) (fun g => [OwnS kTCell g.1.1 g.1.2 r.Cells, OwnS kTWet g.2.1 g.2.2 r.Wet])) := by
  rw [spec_l18Copy] at H
  refine Calls.enter0 (N := 66) (us := [_]) Try.func42 rfl rfl rfl ?_
  refine HQ.rseq ?_
  refine HQ.op [] [1] (OT.box (cs := [.slice a_0 (List.length p0.Cells) c_0, .slice a_1 (List.length p0.Wet) c_1, .int .i64 p0.Fuse, .bool p0.Dead]) rfl) ⟨rfl, trivial⟩ trivial rfl rfl rfl rfl (fun _ => rfl) fun b1 => ?_
  refine HQ.op [] [2] (OT.alloc zc30) trivial trivial rfl rfl rfl rfl (fun _ => rfl) fun b2 => ?_
  refine HQ.done ?_
  refine HQ.keep [(1, _), (2, _)] ⟨rfl, rfl, trivial⟩ ?_
  refine HQ.rseq ?_
  refine HQ.pu (Pu.fieldB fo30_2 rfl) ⟨rfl, trivial⟩ rfl rfl rfl ?_
  refine HQ.op [1] [1] (OT.loadB sc3 rfl) ⟨rfl, trivial⟩ ⟨rfl, trivial⟩ rfl rfl rfl rfl (fun _ => rfl) fun _ => ?_
  refine HQ.pu (Pu.fieldB fo30_3 rfl) ⟨rfl, trivial⟩ rfl rfl rfl ?_
  refine HQ.op [1] [1] (OT.loadB sc4 rfl) ⟨rfl, trivial⟩ ⟨rfl, trivial⟩ rfl rfl rfl rfl (fun _ => rfl) fun _ => ?_
  refine HQ.pu (Pu.build (us := [.int .i64 p0.Fuse, .bool p0.Dead]) (cs := [.slice none 0 0, .slice none 0 0, .int .i64 p0.Fuse, .bool p0.Dead]) [(2, .tmp 7), (3, .tmp 9)] st30 rfl rfl rfl) ⟨rfl, rfl, trivial⟩ rfl rfl rfl ?_
  refine HQ.op [] [3] (OT.alloc zc30) trivial trivial rfl rfl rfl rfl (fun _ => rfl) fun b3 => ?_
  refine HQ.opN [3] [3] [] (OT.storeC (cs' := [.slice none 0 0, .slice none 0 0, .int .i64 p0.Fuse, .bool p0.Dead]) sz30 rfl rfl rfl rfl rfl) ⟨rfl, rfl, trivial⟩ ⟨rfl, trivial⟩ rfl rfl rfl (fun _ => rfl) fun _ => ?_
  refine HQ.done ?_
  refine HQ.keep [(1, _), (2, _), (3, _)] ⟨rfl, rfl, rfl, trivial⟩ ?_
  refine HQ.seq ?_
  refine HQ.rseq ?_
  refine HQ.pu Pu.assign ⟨rfl, trivial⟩ rfl rfl rfl ?_
  refine HQ.done ?_
  refine HQ.keep [(1, _), (2, _), (3, _), (4, _)] ⟨rfl, rfl, rfl, rfl, trivial⟩ ?_
  refine HQ.block ?_
  refine HQ.nil kTCell 7 rfl ?_
  obtain ⟨o71, h149, H⟩ := bnd H
  refine HQ.loop h149 0 (fun (s : Int × (List TCell)) (g : Option Addr × Nat) => match s, g with | (i25, l26), (a27, c28) => [(1, BP b1 0), (2, BP b2 0), (3, BP b3 0), (4, .int .i64 i25)]) (fun (s : Int × (List TCell)) (g : Option Addr × Nat) => match s, g with | (i25, l26), (a27, c28) => [(1, Box b1 [.slice a_0 (List.length p0.Cells) c_0, .slice a_1 (List.length p0.Wet) c_1, .int .i64 p0.Fuse, .bool p0.Dead]), (2, Box b2 [.slice none 0 0, .slice none 0 0, .int .i64 0, .bool false]), (3, Box b3 [.slice a27 (List.length l26) c28, .slice none 0 0, .int .i64 p0.Fuse, .bool p0.Dead]), (7, OwnS kTCell a27 c28 l26)]) (fun _ _ _ => False) (none, 0) ⟨rfl, rfl, rfl, rfl, trivial⟩ ⟨rfl, rfl, rfl, rfl, trivial⟩ rfl ?_ ?_ ?_
  · clear H h149
    rintro ⟨i25, l26⟩ ⟨a27, c28⟩ o H
    rw [spec_l18Copy_b0] at H
    refine HQ.keep [(1, _), (2, _), (3, _), (4, _)] ⟨rfl, rfl, rfl, rfl, trivial⟩ ?_
    refine HQ.keepR [(1, _), (2, _), (3, _), (7, _)] ⟨rfl, rfl, rfl, rfl, trivial⟩ rfl ?_
    refine HQ.seq ?_
    refine HQ.rseq ?_
    refine HQ.pu Pu.move ⟨rfl, trivial⟩ rfl rfl rfl ?_
    refine HQ.pu (Pu.fieldB fo30_0 rfl) ⟨rfl, trivial⟩ rfl rfl rfl ?_
    refine HQ.op [1] [1] (OT.loadB sc27 rfl) ⟨rfl, trivial⟩ ⟨rfl, trivial⟩ rfl rfl rfl rfl (fun _ => rfl) fun _ => ?_
    refine HQ.pu (Pu.len ul27) ⟨rfl, trivial⟩ rfl rfl rfl ?_
    refine HQ.pu Pu.lss ⟨rfl, rfl, trivial⟩ rfl rfl rfl ?_
    refine HQ.done ?_
    refine HQ.keep [(1, _), (2, _), (3, _), (4, _), (15, _)] ⟨rfl, rfl, rfl, rfl, rfl, trivial⟩ ?_
    rcases brk H with ⟨hc, H⟩ | ⟨hc, H⟩
    · refine HQ.condT rfl hc ?_
      clear hc
      refine HQ.skipThen ?_
      refine HQ.seq ?_
      refine HQ.block ?_
      refine HQ.dStart mixd ?_
      obtain ⟨h51, H⟩ := asr H
      obtain ⟨h58, H⟩ := asr H
      obtain ⟨h65, H⟩ := asr H
      obtain ⟨⟨a52, c53⟩, hb54, hn55⟩ := BorS.nest hb_0 h51
      obtain ⟨⟨a59, c60⟩, hb61, hn62⟩ := BorS.nest hb_0 h58
      refine HQ.dPart [(1, BP b1 0), (2, BP b2 0), (3, BP b3 0), (4, .int .i64 i25)] 18 [⟨[], [], []⟩, ⟨[0], [0], [0]⟩, ⟨[], [], []⟩, ⟨[1], [1], [2]⟩, ⟨[], [], []⟩, ⟨[], [], [3, 4]⟩, ⟨[], [], [5]⟩, ⟨[], [], [6]⟩, ⟨[], [2], []⟩, ⟨[], [], []⟩, ⟨[1], [1], [9]⟩, ⟨[], [], []⟩, ⟨[], [], [10, 11]⟩, ⟨[], [], [12]⟩, ⟨[], [], [13]⟩, ⟨[2], [3], [8, 14]⟩, ⟨[], [], [7, 15]⟩, ⟨[3], [4], [16]⟩] [⟨none, none⟩, ⟨none, none⟩, ⟨some 8, some 15⟩, ⟨some 15, some 17⟩, ⟨some 17, none⟩] (fun (g50 : (Option Addr × Nat) × (Option Addr × Nat) × (Option Addr × Nat)) => [BP b3 0, .slice a27 (List.length l26) c28, BP b1 0, .slice a_0 (List.length p0.Cells) c_0, .int .i64 i25, EP a_0 i25 2 0, EP a_0 i25 2 0, .bool ((gt p0.Cells i25).Bad), .slice g50.1.1 (List.length ([] : (List Int))) g50.1.2, BP b1 0, .slice a_0 (List.length p0.Cells) c_0, .int .i64 i25, EP a_0 i25 2 0, EP a_0 i25 2 1, .slice a59 (List.length ((gt p0.Cells i25).B)) c60, .slice g50.2.1.1 (List.length (([] : (List Int)) ++ ((gt p0.Cells i25).B))) g50.2.1.2, .agg #[.bool ((gt p0.Cells i25).Bad), .slice g50.2.1.1 (List.length (([] : (List Int)) ++ ((gt p0.Cells i25).B))) g50.2.1.2], .slice g50.2.2.1 (List.length ([(⟨(gt p0.Cells i25).Bad, (([] : (List Int)) ++ ((gt p0.Cells i25).B))⟩ : TCell)] : (List TCell))) g50.2.2.2]) (fun (g50 : (Option Addr × Nat) × (Option Addr × Nat) × (Option Addr × Nat)) => [Box b3 [.slice a27 (List.length l26) c28, .slice none 0 0, .int .i64 p0.Fuse, .bool p0.Dead], Box b1 [.slice a_0 (List.length p0.Cells) c_0, .slice a_1 (List.length p0.Wet) c_1, .int .i64 p0.Fuse, .bool p0.Dead], OwnS kU8 g50.1.1 g50.1.2 ([] : (List Int)), OwnS kU8 g50.2.1.1 g50.2.1.2 (([] : (List Int)) ++ ((gt p0.Cells i25).B)), OwnS kTCell g50.2.2.1 g50.2.2.2 ([(⟨(gt p0.Cells i25).Bad, (([] : (List Int)) ++ ((gt p0.Cells i25).B))⟩ : TCell)] : (List TCell))]) ((none, 0), (none, 0), (none, 0)) [3, 1] [3, 1, 11] [] ⟨rfl, rfl, rfl, rfl, trivial⟩ ⟨rfl, rfl, trivial⟩ rfl (by kernel_rfl) (by kernel_rfl) (fun _ => rfl) (by kernel_rfl) (fun _ => rfl) rfl ⟨?_, ?_, ?_, ?_, ?_, ?_, ?_, ?_, ?_, ?_, ?_, ?_, ?_, ?_, ?_, ?_, ?_, ?_, trivial⟩ fun g50 => ?_
      · exact OpOK2.of (fun g50 => [(.tmp 3, BP b3 0)]) _ _ (fun g50 _ => g50) rfl rfl (fun _ => ⟨rfl, trivial⟩) (fun g50 => Pu.toOT (Pu.fieldB fo30_0 rfl)) (fun _ _ => ⟨rfl, rfl, ⟨rfl, rfl, rfl, rfl, rfl, trivial⟩⟩)
      · exact OpOK2.of (fun g50 => [(.tmp 18, BP b3 0)]) _ _ (fun g50 _ => g50) rfl rfl (fun _ => ⟨rfl, trivial⟩) (fun g50 => OT.loadB sc27 rfl) (fun _ _ => ⟨rfl, rfl, ⟨rfl, rfl, rfl, rfl, rfl, trivial⟩⟩)
      · exact OpOK2.of (fun g50 => [(.tmp 1, BP b1 0)]) _ _ (fun g50 _ => g50) rfl rfl (fun _ => ⟨rfl, trivial⟩) (fun g50 => Pu.toOT (Pu.fieldB fo30_0 rfl)) (fun _ _ => ⟨rfl, rfl, ⟨rfl, rfl, rfl, rfl, rfl, trivial⟩⟩)
      · exact OpOK2.of (fun g50 => [(.tmp 20, BP b1 0)]) _ _ (fun g50 _ => g50) rfl rfl (fun _ => ⟨rfl, trivial⟩) (fun g50 => OT.loadB sc27 rfl) (fun _ _ => ⟨rfl, rfl, ⟨rfl, rfl, rfl, rfl, rfl, trivial⟩⟩)
      · exact OpOK2.of (fun g50 => [(.tmp 4, .int .i64 i25)]) _ _ (fun g50 _ => g50) rfl rfl (fun _ => ⟨rfl, trivial⟩) (fun g50 => Pu.toOT Pu.move) (fun _ _ => ⟨rfl, rfl, ⟨rfl, rfl, rfl, rfl, rfl, trivial⟩⟩)
      · exact OpOK2.of (fun g50 => [(.tmp 21, .slice a_0 (List.length p0.Cells) c_0), (.tmp 22, .int .i64 i25)]) _ _ (fun g50 _ => g50) rfl rfl (fun _ => ⟨rfl, rfl, trivial⟩) (fun g50 => OT.indexB ul27 sz79 hb_0 h51) (fun _ _ => ⟨rfl, rfl, ⟨rfl, rfl, rfl, rfl, rfl, trivial⟩⟩)
      · exact OpOK2.of (fun g50 => [(.tmp 23, EP a_0 i25 2 0)]) _ _ (fun g50 _ => g50) rfl rfl (fun _ => ⟨rfl, trivial⟩) (fun g50 => Pu.toOT (Pu.fieldE fo79_0 rfl)) (fun _ _ => ⟨rfl, rfl, ⟨rfl, rfl, rfl, rfl, rfl, trivial⟩⟩)
      · exact OpOK2.of (fun g50 => [(.tmp 24, EP a_0 i25 2 0)]) _ _ (fun g50 _ => g50) rfl rfl (fun _ => ⟨rfl, trivial⟩) (fun g50 => OT.loadN (v := .bool ((gt p0.Cells i25).Bad)) sc4 hn55 hlTCell rfl) (fun _ _ => ⟨rfl, rfl, ⟨rfl, rfl, rfl, rfl, rfl, trivial⟩⟩)
      · exact OpOK2.of (fun g50 => []) _ _ (fun g50 x => (x, g50.2.1, g50.2.2)) rfl rfl (fun _ => trivial) (fun g50 => OT.buildF (us := []) (ys := ([] : (List Int))) (enc := (encI .u8)) (hl := fun _ => ⟨rfl, rfl⟩) [] sl63.ul sl63.szE sl63.zc rfl rfl rfl rfl rfl) (fun _ _ => ⟨rfl, rfl, ⟨rfl, rfl, rfl, rfl, rfl, trivial⟩⟩)
      · exact OpOK2.of (fun g50 => [(.tmp 1, BP b1 0)]) _ _ (fun g50 _ => g50) rfl rfl (fun _ => ⟨rfl, trivial⟩) (fun g50 => Pu.toOT (Pu.fieldB fo30_0 rfl)) (fun _ _ => ⟨rfl, rfl, ⟨rfl, rfl, rfl, rfl, rfl, trivial⟩⟩)
      · exact OpOK2.of (fun g50 => [(.tmp 27, BP b1 0)]) _ _ (fun g50 _ => g50) rfl rfl (fun _ => ⟨rfl, trivial⟩) (fun g50 => OT.loadB sc27 rfl) (fun _ _ => ⟨rfl, rfl, ⟨rfl, rfl, rfl, rfl, rfl, trivial⟩⟩)
      · exact OpOK2.of (fun g50 => [(.tmp 4, .int .i64 i25)]) _ _ (fun g50 _ => g50) rfl rfl (fun _ => ⟨rfl, trivial⟩) (fun g50 => Pu.toOT Pu.move) (fun _ _ => ⟨rfl, rfl, ⟨rfl, rfl, rfl, rfl, rfl, trivial⟩⟩)
      · exact OpOK2.of (fun g50 => [(.tmp 28, .slice a_0 (List.length p0.Cells) c_0), (.tmp 29, .int .i64 i25)]) _ _ (fun g50 _ => g50) rfl rfl (fun _ => ⟨rfl, rfl, trivial⟩) (fun g50 => OT.indexB ul27 sz79 hb_0 h58) (fun _ _ => ⟨rfl, rfl, ⟨rfl, rfl, rfl, rfl, rfl, trivial⟩⟩)
      · exact OpOK2.of (fun g50 => [(.tmp 30, EP a_0 i25 2 0)]) _ _ (fun g50 _ => g50) rfl rfl (fun _ => ⟨rfl, trivial⟩) (fun g50 => Pu.toOT (Pu.fieldE fo79_1 rfl)) (fun _ _ => ⟨rfl, rfl, ⟨rfl, rfl, rfl, rfl, rfl, trivial⟩⟩)
      · exact OpOK2.of (fun g50 => [(.tmp 31, EP a_0 i25 2 1)]) _ _ (fun g50 _ => g50) rfl rfl (fun _ => ⟨rfl, trivial⟩) (fun g50 => OT.loadN (v := .slice a59 (List.length ((gt p0.Cells i25).B)) c60) sc63 hn62 hlTCell rfl) (fun _ _ => ⟨rfl, rfl, ⟨rfl, rfl, rfl, rfl, rfl, trivial⟩⟩)
      · exact OpOK2.ofD [16] (by kernel_rfl) (fun g50 => [(.tmp 26, .slice g50.1.1 (List.length ([] : (List Int))) g50.1.2), (.tmp 32, .slice a59 (List.length ((gt p0.Cells i25).B)) c60)]) _ _ (fun g50 x => (g50.1, x, g50.2.2)) rfl rfl (fun _ => ⟨rfl, rfl, trivial⟩) (fun g50 => OT.appendF (enc := (encI .u8)) (hl := fun _ => ⟨rfl, rfl⟩) sl63 ul63 hb61 h65) (fun _ _ => ⟨⟨rfl, rfl, rfl, rfl, rfl, rfl, rfl, rfl, rfl, rfl, rfl, rfl, rfl, rfl, rfl, rfl, trivial, rfl, trivial⟩, rfl, ⟨rfl, rfl, rfl, rfl, rfl, trivial⟩⟩)
      · exact OpOK2.of (fun g50 => [(.tmp 25, .bool ((gt p0.Cells i25).Bad)), (.tmp 33, .slice g50.2.1.1 (List.length (([] : (List Int)) ++ ((gt p0.Cells i25).B))) g50.2.1.2)]) _ _ (fun g50 _ => g50) rfl rfl (fun _ => ⟨rfl, rfl, trivial⟩) (fun g50 => Pu.toOT (Pu.build (us := [.bool ((gt p0.Cells i25).Bad), .slice g50.2.1.1 (List.length (([] : (List Int)) ++ ((gt p0.Cells i25).B))) g50.2.1.2]) (cs := [.bool ((gt p0.Cells i25).Bad), .slice g50.2.1.1 (List.length (([] : (List Int)) ++ ((gt p0.Cells i25).B))) g50.2.1.2]) [(0, .tmp 25), (1, .tmp 33)] st79 rfl rfl rfl)) (fun _ _ => ⟨rfl, rfl, ⟨rfl, rfl, rfl, rfl, rfl, trivial⟩⟩)
      · exact OpOK2.of (fun g50 => [(.tmp 34, .agg #[.bool ((gt p0.Cells i25).Bad), .slice g50.2.1.1 (List.length (([] : (List Int)) ++ ((gt p0.Cells i25).B))) g50.2.1.2])]) _ _ (fun g50 x => (g50.1, g50.2.1, x)) rfl rfl (fun _ => ⟨rfl, trivial⟩) (fun g50 => OT.buildO (u := .agg #[.bool ((gt p0.Cells i25).Bad), .slice g50.2.1.1 (List.length (([] : (List Int)) ++ ((gt p0.Cells i25).B))) g50.2.1.2]) (enc := encTCell) (hl := hlTCell) (sub := fun (x : TCell) => x.B) (.tmp 34) (⟨(gt p0.Cells i25).Bad, (([] : (List Int)) ++ ((gt p0.Cells i25).B))⟩ : TCell) sl27.ul sl27.szE sl27.zc rfl rfl rfl rfl) (fun _ _ => ⟨rfl, rfl, ⟨rfl, rfl, rfl, rfl, rfl, trivial⟩⟩)
      refine HQ.keep [(1, _), (2, _), (3, _), (4, _), (19, _), (35, _)] ⟨rfl, rfl, rfl, rfl, rfl, rfl, trivial⟩ ?_
      refine HQ.keepR [(1, _), (2, _), (3, _), (7, _), (11, _)] ⟨rfl, rfl, rfl, rfl, rfl, trivial⟩ rfl ?_
      refine HQ.dRun 3 rfl rfl (by kernel_rfl) (by kernel_rfl) ?_
      obtain ⟨h70, H⟩ := asr H
      refine HQ.opD [7, 11] [7] [11] (OT.appendO (K := kTCell) sl27 ul27 h70) ⟨rfl, rfl, trivial⟩ ⟨rfl, rfl, trivial⟩ rfl rfl rfl rfl (fun _ => rfl) fun ⟨a68, c69⟩ => ?_
      refine HQ.pu (Pu.fieldB fo30_0 rfl) ⟨rfl, trivial⟩ rfl rfl rfl ?_
      refine HQ.opN [3] [3] [] (OT.storeC (cs' := [.slice a68 (List.length (l26 ++ ([(⟨(gt p0.Cells i25).Bad, (([] : (List Int)) ++ ((gt p0.Cells i25).B))⟩ : TCell)] : (List TCell)))) c69, .slice none 0 0, .int .i64 p0.Fuse, .bool p0.Dead]) sz27 rfl rfl rfl rfl rfl) ⟨rfl, rfl, trivial⟩ ⟨rfl, trivial⟩ rfl rfl rfl (fun _ => rfl) fun _ => ?_
      refine HQ.done ?_
      refine HQ.dEnd rfl ?_
      refine HQ.keep [(1, _), (2, _), (3, _), (4, _)] ⟨rfl, rfl, rfl, rfl, trivial⟩ ?_
      refine HQ.blkN ?_
      refine HQ.thenN ?_
      refine HQ.regionQ ?_
      refine HQ.pu Pu.move ⟨rfl, trivial⟩ rfl rfl rfl ?_
      refine HQ.pu Pu.add ⟨rfl, rfl, trivial⟩ rfl rfl rfl ?_
      refine HQ.pu Pu.assign ⟨rfl, trivial⟩ rfl rfl rfl ?_
      refine HQ.done ?_
      refine HQ.keep [(1, _), (2, _), (3, _), (4, _)] ⟨rfl, rfl, rfl, rfl, trivial⟩ ?_
      obtain rfl := Option.some.inj H
      exact HQ.next (a68, c69) ⟨rfl, rfl, rfl, rfl, trivial⟩ ⟨rfl, rfl, rfl, rfl, trivial⟩ rfl
    · refine HQ.condF rfl hc ?_
      clear hc
      refine HQ.exit ?_
      refine HQ.thenE ?_
      obtain rfl := Option.some.inj H
      exact HQ.out (a27, c28) ⟨rfl, rfl, rfl, rfl, trivial⟩ ⟨rfl, rfl, rfl, rfl, trivial⟩ rfl
  · rintro ⟨i72, l73⟩ rfl ⟨a74, c75⟩
    clear h149
    replace H := H
    refine HQ.keep [(1, _), (2, _), (3, _), (4, _)] ⟨rfl, rfl, rfl, rfl, trivial⟩ ?_
    refine HQ.keepR [(1, _), (2, _), (3, _), (7, _)] ⟨rfl, rfl, rfl, rfl, trivial⟩ rfl ?_
    refine HQ.blkE ?_
    refine HQ.thenN ?_
    refine HQ.seq ?_
    refine HQ.rseq ?_
    refine HQ.pu Pu.assign ⟨rfl, trivial⟩ rfl rfl rfl ?_
    refine HQ.done ?_
    refine HQ.keep [(1, _), (2, _), (3, _), (5, _)] ⟨rfl, rfl, rfl, rfl, trivial⟩ ?_
    refine HQ.block ?_
    refine HQ.nil kTWet 15 rfl ?_
    obtain ⟨o143, h148, H⟩ := bnd H
    refine HQ.loop h148 2 (fun (s : Int × (List TWet)) (g : Option Addr × Nat) => match s, g with | (i97, l98), (a99, c100) => [(1, BP b1 0), (2, BP b2 0), (3, BP b3 0), (5, .int .i64 i97)]) (fun (s : Int × (List TWet)) (g : Option Addr × Nat) => match s, g with | (i97, l98), (a99, c100) => [(1, Box b1 [.slice a_0 (List.length p0.Cells) c_0, .slice a_1 (List.length p0.Wet) c_1, .int .i64 p0.Fuse, .bool p0.Dead]), (2, Box b2 [.slice none 0 0, .slice none 0 0, .int .i64 0, .bool false]), (3, Box b3 [.slice a74 (List.length l73) c75, .slice a99 (List.length l98) c100, .int .i64 p0.Fuse, .bool p0.Dead]), (7, OwnS kTCell a74 c75 l73), (15, OwnS kTWet a99 c100 l98)]) (fun _ _ _ => False) (none, 0) ⟨rfl, rfl, rfl, rfl, trivial⟩ ⟨rfl, rfl, rfl, rfl, rfl, trivial⟩ rfl ?_ ?_ ?_
    · clear H h148
      rintro ⟨i97, l98⟩ ⟨a99, c100⟩ o H
      rw [spec_l18Copy_b1] at H
      refine HQ.keep [(1, _), (2, _), (3, _), (5, _)] ⟨rfl, rfl, rfl, rfl, trivial⟩ ?_
      refine HQ.keepR [(1, _), (2, _), (3, _), (7, _), (15, _)] ⟨rfl, rfl, rfl, rfl, rfl, trivial⟩ rfl ?_
      refine HQ.seq ?_
      refine HQ.rseq ?_
      refine HQ.pu Pu.move ⟨rfl, trivial⟩ rfl rfl rfl ?_
      refine HQ.pu (Pu.fieldB fo30_1 rfl) ⟨rfl, trivial⟩ rfl rfl rfl ?_
      refine HQ.op [1] [1] (OT.loadB sc28 rfl) ⟨rfl, trivial⟩ ⟨rfl, trivial⟩ rfl rfl rfl rfl (fun _ => rfl) fun _ => ?_
      refine HQ.pu (Pu.len ul28) ⟨rfl, trivial⟩ rfl rfl rfl ?_
      refine HQ.pu Pu.lss ⟨rfl, rfl, trivial⟩ rfl rfl rfl ?_
      refine HQ.done ?_
      refine HQ.keep [(1, _), (2, _), (3, _), (5, _), (42, _)] ⟨rfl, rfl, rfl, rfl, rfl, trivial⟩ ?_
      rcases brk H with ⟨hc, H⟩ | ⟨hc, H⟩
      · refine HQ.condT rfl hc ?_
        clear hc
        refine HQ.skipThen ?_
        refine HQ.seq ?_
        refine HQ.block ?_
        refine HQ.dStart mixd ?_
        obtain ⟨h123, H⟩ := asr H
        obtain ⟨h130, H⟩ := asr H
        obtain ⟨h137, H⟩ := asr H
        obtain ⟨⟨a124, c125⟩, hb126, hn127⟩ := BorS.nest hb_1 h123
        obtain ⟨⟨a131, c132⟩, hb133, hn134⟩ := BorS.nest hb_1 h130
        refine HQ.dPart [(1, BP b1 0), (2, BP b2 0), (3, BP b3 0), (5, .int .i64 i97)] 18 [⟨[], [], []⟩, ⟨[0], [0], [0]⟩, ⟨[], [], []⟩, ⟨[1], [1], [2]⟩, ⟨[], [], []⟩, ⟨[], [], [3, 4]⟩, ⟨[], [], [5]⟩, ⟨[], [], [6]⟩, ⟨[], [2], []⟩, ⟨[], [], []⟩, ⟨[1], [1], [9]⟩, ⟨[], [], []⟩, ⟨[], [], [10, 11]⟩, ⟨[], [], [12]⟩, ⟨[], [], [13]⟩, ⟨[2], [3], [8, 14]⟩, ⟨[], [], [7, 15]⟩, ⟨[3], [4], [16]⟩] [⟨none, none⟩, ⟨none, none⟩, ⟨some 8, some 15⟩, ⟨some 15, some 17⟩, ⟨some 17, none⟩] (fun (g122 : (Option Addr × Nat) × (Option Addr × Nat) × (Option Addr × Nat)) => [BP b3 1, .slice a99 (List.length l98) c100, BP b1 1, .slice a_1 (List.length p0.Wet) c_1, .int .i64 i97, EP a_1 i97 2 0, EP a_1 i97 2 0, .int .i64 ((gt p0.Wet i97).At), .slice g122.1.1 (List.length ([] : (List Int))) g122.1.2, BP b1 1, .slice a_1 (List.length p0.Wet) c_1, .int .i64 i97, EP a_1 i97 2 0, EP a_1 i97 2 1, .slice a131 (List.length ((gt p0.Wet i97).B)) c132, .slice g122.2.1.1 (List.length (([] : (List Int)) ++ ((gt p0.Wet i97).B))) g122.2.1.2, .agg #[.int .i64 ((gt p0.Wet i97).At), .slice g122.2.1.1 (List.length (([] : (List Int)) ++ ((gt p0.Wet i97).B))) g122.2.1.2], .slice g122.2.2.1 (List.length ([(⟨(gt p0.Wet i97).At, (([] : (List Int)) ++ ((gt p0.Wet i97).B))⟩ : TWet)] : (List TWet))) g122.2.2.2]) (fun (g122 : (Option Addr × Nat) × (Option Addr × Nat) × (Option Addr × Nat)) => [Box b3 [.slice a74 (List.length l73) c75, .slice a99 (List.length l98) c100, .int .i64 p0.Fuse, .bool p0.Dead], Box b1 [.slice a_0 (List.length p0.Cells) c_0, .slice a_1 (List.length p0.Wet) c_1, .int .i64 p0.Fuse, .bool p0.Dead], OwnS kU8 g122.1.1 g122.1.2 ([] : (List Int)), OwnS kU8 g122.2.1.1 g122.2.1.2 (([] : (List Int)) ++ ((gt p0.Wet i97).B)), OwnS kTWet g122.2.2.1 g122.2.2.2 ([(⟨(gt p0.Wet i97).At, (([] : (List Int)) ++ ((gt p0.Wet i97).B))⟩ : TWet)] : (List TWet))]) ((none, 0), (none, 0), (none, 0)) [3, 1] [3, 1, 19] [] ⟨rfl, rfl, rfl, rfl, trivial⟩ ⟨rfl, rfl, trivial⟩ rfl (by kernel_rfl) (by kernel_rfl) (fun _ => rfl) (by kernel_rfl) (fun _ => rfl) rfl ⟨?_, ?_, ?_, ?_, ?_, ?_, ?_, ?_, ?_, ?_, ?_, ?_, ?_, ?_, ?_, ?_, ?_, ?_, trivial⟩ fun g122 => ?_
        · exact OpOK2.of (fun g122 => [(.tmp 3, BP b3 0)]) _ _ (fun g122 _ => g122) rfl rfl (fun _ => ⟨rfl, trivial⟩) (fun g122 => Pu.toOT (Pu.fieldB fo30_1 rfl)) (fun _ _ => ⟨rfl, rfl, ⟨rfl, rfl, rfl, rfl, rfl, trivial⟩⟩)
        · exact OpOK2.of (fun g122 => [(.tmp 45, BP b3 1)]) _ _ (fun g122 _ => g122) rfl rfl (fun _ => ⟨rfl, trivial⟩) (fun g122 => OT.loadB sc28 rfl) (fun _ _ => ⟨rfl, rfl, ⟨rfl, rfl, rfl, rfl, rfl, trivial⟩⟩)
        · exact OpOK2.of (fun g122 => [(.tmp 1, BP b1 0)]) _ _ (fun g122 _ => g122) rfl rfl (fun _ => ⟨rfl, trivial⟩) (fun g122 => Pu.toOT (Pu.fieldB fo30_1 rfl)) (fun _ _ => ⟨rfl, rfl, ⟨rfl, rfl, rfl, rfl, rfl, trivial⟩⟩)
        · exact OpOK2.of (fun g122 => [(.tmp 47, BP b1 1)]) _ _ (fun g122 _ => g122) rfl rfl (fun _ => ⟨rfl, trivial⟩) (fun g122 => OT.loadB sc28 rfl) (fun _ _ => ⟨rfl, rfl, ⟨rfl, rfl, rfl, rfl, rfl, trivial⟩⟩)
        · exact OpOK2.of (fun g122 => [(.tmp 5, .int .i64 i97)]) _ _ (fun g122 _ => g122) rfl rfl (fun _ => ⟨rfl, trivial⟩) (fun g122 => Pu.toOT Pu.move) (fun _ _ => ⟨rfl, rfl, ⟨rfl, rfl, rfl, rfl, rfl, trivial⟩⟩)
        · exact OpOK2.of (fun g122 => [(.tmp 48, .slice a_1 (List.length p0.Wet) c_1), (.tmp 49, .int .i64 i97)]) _ _ (fun g122 _ => g122) rfl rfl (fun _ => ⟨rfl, rfl, trivial⟩) (fun g122 => OT.indexB ul28 sz71 hb_1 h123) (fun _ _ => ⟨rfl, rfl, ⟨rfl, rfl, rfl, rfl, rfl, trivial⟩⟩)
        · exact OpOK2.of (fun g122 => [(.tmp 50, EP a_1 i97 2 0)]) _ _ (fun g122 _ => g122) rfl rfl (fun _ => ⟨rfl, trivial⟩) (fun g122 => Pu.toOT (Pu.fieldE fo71_0 rfl)) (fun _ _ => ⟨rfl, rfl, ⟨rfl, rfl, rfl, rfl, rfl, trivial⟩⟩)
        · exact OpOK2.of (fun g122 => [(.tmp 51, EP a_1 i97 2 0)]) _ _ (fun g122 _ => g122) rfl rfl (fun _ => ⟨rfl, trivial⟩) (fun g122 => OT.loadN (v := .int .i64 ((gt p0.Wet i97).At)) sc3 hn127 hlTWet rfl) (fun _ _ => ⟨rfl, rfl, ⟨rfl, rfl, rfl, rfl, rfl, trivial⟩⟩)
        · exact OpOK2.of (fun g122 => []) _ _ (fun g122 x => (x, g122.2.1, g122.2.2)) rfl rfl (fun _ => trivial) (fun g122 => OT.buildF (us := []) (ys := ([] : (List Int))) (enc := (encI .u8)) (hl := fun _ => ⟨rfl, rfl⟩) [] sl63.ul sl63.szE sl63.zc rfl rfl rfl rfl rfl) (fun _ _ => ⟨rfl, rfl, ⟨rfl, rfl, rfl, rfl, rfl, trivial⟩⟩)
        · exact OpOK2.of (fun g122 => [(.tmp 1, BP b1 0)]) _ _ (fun g122 _ => g122) rfl rfl (fun _ => ⟨rfl, trivial⟩) (fun g122 => Pu.toOT (Pu.fieldB fo30_1 rfl)) (fun _ _ => ⟨rfl, rfl, ⟨rfl, rfl, rfl, rfl, rfl, trivial⟩⟩)
        · exact OpOK2.of (fun g122 => [(.tmp 54, BP b1 1)]) _ _ (fun g122 _ => g122) rfl rfl (fun _ => ⟨rfl, trivial⟩) (fun g122 => OT.loadB sc28 rfl) (fun _ _ => ⟨rfl, rfl, ⟨rfl, rfl, rfl, rfl, rfl, trivial⟩⟩)
        · exact OpOK2.of (fun g122 => [(.tmp 5, .int .i64 i97)]) _ _ (fun g122 _ => g122) rfl rfl (fun _ => ⟨rfl, trivial⟩) (fun g122 => Pu.toOT Pu.move) (fun _ _ => ⟨rfl, rfl, ⟨rfl, rfl, rfl, rfl, rfl, trivial⟩⟩)
        · exact OpOK2.of (fun g122 => [(.tmp 55, .slice a_1 (List.length p0.Wet) c_1), (.tmp 56, .int .i64 i97)]) _ _ (fun g122 _ => g122) rfl rfl (fun _ => ⟨rfl, rfl, trivial⟩) (fun g122 => OT.indexB ul28 sz71 hb_1 h130) (fun _ _ => ⟨rfl, rfl, ⟨rfl, rfl, rfl, rfl, rfl, trivial⟩⟩)
        · exact OpOK2.of (fun g122 => [(.tmp 57, EP a_1 i97 2 0)]) _ _ (fun g122 _ => g122) rfl rfl (fun _ => ⟨rfl, trivial⟩) (fun g122 => Pu.toOT (Pu.fieldE fo71_1 rfl)) (fun _ _ => ⟨rfl, rfl, ⟨rfl, rfl, rfl, rfl, rfl, trivial⟩⟩)
        · exact OpOK2.of (fun g122 => [(.tmp 58, EP a_1 i97 2 1)]) _ _ (fun g122 _ => g122) rfl rfl (fun _ => ⟨rfl, trivial⟩) (fun g122 => OT.loadN (v := .slice a131 (List.length ((gt p0.Wet i97).B)) c132) sc63 hn134 hlTWet rfl) (fun _ _ => ⟨rfl, rfl, ⟨rfl, rfl, rfl, rfl, rfl, trivial⟩⟩)
        · exact OpOK2.ofD [16] (by kernel_rfl) (fun g122 => [(.tmp 53, .slice g122.1.1 (List.length ([] : (List Int))) g122.1.2), (.tmp 59, .slice a131 (List.length ((gt p0.Wet i97).B)) c132)]) _ _ (fun g122 x => (g122.1, x, g122.2.2)) rfl rfl (fun _ => ⟨rfl, rfl, trivial⟩) (fun g122 => OT.appendF (enc := (encI .u8)) (hl := fun _ => ⟨rfl, rfl⟩) sl63 ul63 hb133 h137) (fun _ _ => ⟨⟨rfl, rfl, rfl, rfl, rfl, rfl, rfl, rfl, rfl, rfl, rfl, rfl, rfl, rfl, rfl, rfl, trivial, rfl, trivial⟩, rfl, ⟨rfl, rfl, rfl, rfl, rfl, trivial⟩⟩)
        · exact OpOK2.of (fun g122 => [(.tmp 52, .int .i64 ((gt p0.Wet i97).At)), (.tmp 60, .slice g122.2.1.1 (List.length (([] : (List Int)) ++ ((gt p0.Wet i97).B))) g122.2.1.2)]) _ _ (fun g122 _ => g122) rfl rfl (fun _ => ⟨rfl, rfl, trivial⟩) (fun g122 => Pu.toOT (Pu.build (us := [.int .i64 ((gt p0.Wet i97).At), .slice g122.2.1.1 (List.length (([] : (List Int)) ++ ((gt p0.Wet i97).B))) g122.2.1.2]) (cs := [.int .i64 ((gt p0.Wet i97).At), .slice g122.2.1.1 (List.length (([] : (List Int)) ++ ((gt p0.Wet i97).B))) g122.2.1.2]) [(0, .tmp 52), (1, .tmp 60)] st71 rfl rfl rfl)) (fun _ _ => ⟨rfl, rfl, ⟨rfl, rfl, rfl, rfl, rfl, trivial⟩⟩)
        · exact OpOK2.of (fun g122 => [(.tmp 61, .agg #[.int .i64 ((gt p0.Wet i97).At), .slice g122.2.1.1 (List.length (([] : (List Int)) ++ ((gt p0.Wet i97).B))) g122.2.1.2])]) _ _ (fun g122 x => (g122.1, g122.2.1, x)) rfl rfl (fun _ => ⟨rfl, trivial⟩) (fun g122 => OT.buildO (u := .agg #[.int .i64 ((gt p0.Wet i97).At), .slice g122.2.1.1 (List.length (([] : (List Int)) ++ ((gt p0.Wet i97).B))) g122.2.1.2]) (enc := encTWet) (hl := hlTWet) (sub := fun (x : TWet) => x.B) (.tmp 61) (⟨(gt p0.Wet i97).At, (([] : (List Int)) ++ ((gt p0.Wet i97).B))⟩ : TWet) sl28.ul sl28.szE sl28.zc rfl rfl rfl rfl) (fun _ _ => ⟨rfl, rfl, ⟨rfl, rfl, rfl, rfl, rfl, trivial⟩⟩)
        refine HQ.keep [(1, _), (2, _), (3, _), (5, _), (46, _), (62, _)] ⟨rfl, rfl, rfl, rfl, rfl, rfl, trivial⟩ ?_
        refine HQ.keepR [(1, _), (2, _), (3, _), (7, _), (15, _), (19, _)] ⟨rfl, rfl, rfl, rfl, rfl, rfl, trivial⟩ rfl ?_
        refine HQ.dRun 3 rfl rfl (by kernel_rfl) (by kernel_rfl) ?_
        obtain ⟨h142, H⟩ := asr H
        refine HQ.opD [15, 19] [15] [19] (OT.appendO (K := kTWet) sl28 ul28 h142) ⟨rfl, rfl, trivial⟩ ⟨rfl, rfl, trivial⟩ rfl rfl rfl rfl (fun _ => rfl) fun ⟨a140, c141⟩ => ?_
        refine HQ.pu (Pu.fieldB fo30_1 rfl) ⟨rfl, trivial⟩ rfl rfl rfl ?_
        refine HQ.opN [3] [3] [] (OT.storeC (cs' := [.slice a74 (List.length l73) c75, .slice a140 (List.length (l98 ++ ([(⟨(gt p0.Wet i97).At, (([] : (List Int)) ++ ((gt p0.Wet i97).B))⟩ : TWet)] : (List TWet)))) c141, .int .i64 p0.Fuse, .bool p0.Dead]) sz28 rfl rfl rfl rfl rfl) ⟨rfl, rfl, trivial⟩ ⟨rfl, trivial⟩ rfl rfl rfl (fun _ => rfl) fun _ => ?_
        refine HQ.done ?_
        refine HQ.dEnd rfl ?_
        refine HQ.keep [(1, _), (2, _), (3, _), (5, _)] ⟨rfl, rfl, rfl, rfl, trivial⟩ ?_
        refine HQ.blkN ?_
        refine HQ.thenN ?_
        refine HQ.regionQ ?_
        refine HQ.pu Pu.move ⟨rfl, trivial⟩ rfl rfl rfl ?_
        refine HQ.pu Pu.add ⟨rfl, rfl, trivial⟩ rfl rfl rfl ?_
        refine HQ.pu Pu.assign ⟨rfl, trivial⟩ rfl rfl rfl ?_
        refine HQ.done ?_
        refine HQ.keep [(1, _), (2, _), (3, _), (5, _)] ⟨rfl, rfl, rfl, rfl, trivial⟩ ?_
        obtain rfl := Option.some.inj H
        exact HQ.next (a140, c141) ⟨rfl, rfl, rfl, rfl, trivial⟩ ⟨rfl, rfl, rfl, rfl, rfl, trivial⟩ rfl
      · refine HQ.condF rfl hc ?_
        clear hc
        refine HQ.exit ?_
        refine HQ.thenE ?_
        obtain rfl := Option.some.inj H
        exact HQ.out (a99, c100) ⟨rfl, rfl, rfl, rfl, trivial⟩ ⟨rfl, rfl, rfl, rfl, rfl, trivial⟩ rfl
    · rintro ⟨i144, l145⟩ rfl ⟨a146, c147⟩
      clear h148
      replace H := H
      refine HQ.keep [(1, _), (2, _), (3, _), (5, _)] ⟨rfl, rfl, rfl, rfl, trivial⟩ ?_
      refine HQ.keepR [(1, _), (2, _), (3, _), (7, _), (15, _)] ⟨rfl, rfl, rfl, rfl, rfl, trivial⟩ rfl ?_
      refine HQ.blkE ?_
      refine HQ.thenN ?_
      refine HQ.rseq ?_
      refine HQ.op [3] [3] (OT.loadBA (vs := [.slice a74 (List.length l73) c75, .slice a146 (List.length l145) c147, .int .i64 p0.Fuse, .bool p0.Dead]) ag30 sz30 rfl rfl) ⟨rfl, trivial⟩ ⟨rfl, trivial⟩ rfl rfl rfl rfl (fun _ => rfl) fun _ => ?_
      refine HQ.opN [2] [2] [] (OT.storeC (cs' := [.slice a74 (List.length l73) c75, .slice a146 (List.length l145) c147, .int .i64 p0.Fuse, .bool p0.Dead]) sz30 rfl rfl rfl rfl rfl) ⟨rfl, rfl, trivial⟩ ⟨rfl, trivial⟩ rfl rfl rfl (fun _ => rfl) fun _ => ?_
      refine HQ.done ?_
      refine HQ.keep [(2, _)] ⟨rfl, trivial⟩ ?_
      refine HQ.ret ?_
      obtain rfl := Option.some.inj H
      exact HQ.fin (vs := [_]) Try.results42 ((a74, c75), (a146, c147)) ⟨⟨_, _, 2, rfl, rfl, ag30, sz30, rfl⟩, trivial⟩ rfl [7, 15] ⟨rfl, rfl, trivial⟩ rfl
    · exact fun r h a w hf => hf.elim
  · exact fun r h a w hf => hf.elim

/-! spec.l1In -/
theorem spec_l1In_c {w : World} {p0 : Int} {p1 : Int} {p2 : Int}   {r : Bool} (H : spec_l1In p0 p1 p2 = some r) :
    Calls Try.prog 44 #[.int .i64 p0, .int .i64 p1, .int .i64 p2] w (Rt w Nil (fun _ : Unit => .bool r) (fun _ => [])) := by
  rw [spec_l1In] at H
  refine Calls.enter0 (N := 15) (us := [_, _, _]) Try.func44 rfl rfl rfl ?_
  refine HQ.rseq ?_
  refine HQ.pu Pu.assign ⟨rfl, trivial⟩ rfl rfl rfl ?_
  refine HQ.done ?_
  refine HQ.keep [(0, _), (1, _), (2, _), (6, _)] ⟨rfl, rfl, rfl, rfl, trivial⟩ ?_
  refine HQ.rseq ?_
  refine HQ.pu Pu.move ⟨rfl, trivial⟩ rfl rfl rfl ?_
  refine HQ.pu Pu.move ⟨rfl, trivial⟩ rfl rfl rfl ?_
  refine HQ.pu Pu.geq ⟨rfl, rfl, trivial⟩ rfl rfl rfl ?_
  refine HQ.pu Pu.move ⟨rfl, trivial⟩ rfl rfl rfl ?_
  refine HQ.cutAt 4 [(14, .bool ((decide (p0 ≥ p1)) && (decide (p0 ≤ p2)))), (6, .bool false)] [] ?_ ?_
  · rcases Bool.eq_false_or_eq_true (decide (p0 ≥ p1)) with hg1 | hg1
    · refine HQ.on rfl rfl hg1 ?_
      refine HQ.pu Pu.move ⟨rfl, trivial⟩ rfl rfl rfl ?_
      refine HQ.on rfl rfl hg1 ?_
      refine HQ.pu Pu.move ⟨rfl, trivial⟩ rfl rfl rfl ?_
      refine HQ.on rfl rfl hg1 ?_
      refine HQ.pu Pu.leq ⟨rfl, rfl, trivial⟩ rfl rfl rfl ?_
      refine HQ.pu (Pu.pickAT hg1) ⟨rfl, rfl, trivial⟩ rfl rfl rfl ?_
      exact HQ.mid ⟨rfl, rfl, trivial⟩ trivial rfl
    · refine HQ.off rfl rfl hg1 rfl ?_
      refine HQ.off rfl rfl hg1 rfl ?_
      refine HQ.off rfl rfl hg1 rfl ?_
      refine HQ.pu (Pu.pickAF (u := (decide (p0 ≤ p2))) hg1) ⟨rfl, rfl, trivial⟩ rfl rfl rfl ?_
      exact HQ.mid ⟨rfl, rfl, trivial⟩ trivial rfl
  refine HQ.pu Pu.assign ⟨rfl, trivial⟩ rfl rfl rfl ?_
  refine HQ.done ?_
  refine HQ.keep [(6, _)] ⟨rfl, trivial⟩ ?_
  refine HQ.ret ?_
  obtain rfl := Option.some.inj H
  exact HQ.fin (vs := [_]) Try.results44 () ⟨rfl, trivial⟩ rfl [] trivial rfl

/-! spec.l18Room -/
theorem spec_l18Room_c {w : World} {k : Nat} {p0 : TDisk} {p1 : Int} {β_0 : Nat} {a_0 : Option Addr} {c_0 : Nat} {a_1 : Option Addr} {c_1 : Nat} {F0 : Fp} (hs0 : Sat [Box β_0 [.slice a_0 (List.length p0.Cells) c_0, .slice a_1 (List.length p0.Wet) c_1, .int .i64 p0.Fuse, .bool p0.Dead], OwnS kTCell a_0 c_0 p0.Cells] w.heap F0) (hF0 : ∀ b, F0 b → b < w.heap.size)  {r : TDisk} (H : spec_l18Room k p0 p1 = some r) :
    Calls Try.prog 45 #[BP β_0 0, .int .i64 p1] w (Rt w F0 (fun g : Option Addr × Nat => .tuple #[]) (fun g => [Box β_0 [.slice g.1 (List.length r.Cells) g.2, .slice a_1 (List.length p0.Wet) c_1, .int .i64 r.Fuse, .bool r.Dead], OwnS kTCell g.1 g.2 r.Cells])) := by
  rw [spec_l18Room] at H
  refine Calls.enter (N := 21) (us := [_, _]) (F0 := F0) (Γ0 := [(2, Box β_0 [.slice a_0 (List.length p0.Cells) c_0, .slice a_1 (List.length p0.Wet) c_1, .int .i64 p0.Fuse, .bool p0.Dead]), (1, OwnS kTCell a_0 c_0 p0.Cells)]) Try.func45 rfl rfl rfl hs0 hF0 ?_
  refine HQ.block ?_
  obtain ⟨o19, h23, H⟩ := bnd H
  refine HQ.loop h23 0 (fun (s : (List TCell)) (g : Option Addr × Nat) => match s, g with | l6, (a7, c8) => [(0, BP β_0 0), (1, .int .i64 p1)]) (fun (s : (List TCell)) (g : Option Addr × Nat) => match s, g with | l6, (a7, c8) => [(2, Box β_0 [.slice a7 (List.length l6) c8, .slice a_1 (List.length p0.Wet) c_1, .int .i64 p0.Fuse, .bool p0.Dead]), (1, OwnS kTCell a7 c8 l6)]) (fun _ _ _ => False) (a_0, c_0) ⟨rfl, rfl, trivial⟩ ⟨rfl, rfl, trivial⟩ rfl ?_ ?_ ?_
  · clear H h23
    rintro l6 ⟨a7, c8⟩ o H
    rw [spec_l18Room_b0] at H
    refine HQ.keep [(0, _), (1, _)] ⟨rfl, rfl, trivial⟩ ?_
    refine HQ.keepR [(2, _), (1, _)] ⟨rfl, rfl, trivial⟩ rfl ?_
    refine HQ.seq ?_
    refine HQ.rseq ?_
    refine HQ.pu Pu.move ⟨rfl, trivial⟩ rfl rfl rfl ?_
    refine HQ.pu Pu.nilCheck ⟨rfl, trivial⟩ rfl rfl rfl ?_
    refine HQ.pu (Pu.fieldB fo30_0 rfl) ⟨rfl, trivial⟩ rfl rfl rfl ?_
    refine HQ.op [2] [2] (OT.loadB sc27 rfl) ⟨rfl, trivial⟩ ⟨rfl, trivial⟩ rfl rfl rfl rfl (fun _ => rfl) fun _ => ?_
    refine HQ.pu (Pu.len ul27) ⟨rfl, trivial⟩ rfl rfl rfl ?_
    refine HQ.pu Pu.move ⟨rfl, trivial⟩ rfl rfl rfl ?_
    refine HQ.pu Pu.leq ⟨rfl, rfl, trivial⟩ rfl rfl rfl ?_
    refine HQ.done ?_
    refine HQ.keep [(0, _), (1, _), (10, _)] ⟨rfl, rfl, rfl, trivial⟩ ?_
    rcases brk H with ⟨hc, H⟩ | ⟨hc, H⟩
    · refine HQ.condT rfl hc ?_
      clear hc
      refine HQ.skipThen ?_
      refine HQ.block ?_
      refine HQ.regionQ ?_
      refine HQ.pu Pu.move ⟨rfl, trivial⟩ rfl rfl rfl ?_
      refine HQ.pu Pu.move ⟨rfl, trivial⟩ rfl rfl rfl ?_
      refine HQ.pu Pu.nilCheck ⟨rfl, trivial⟩ rfl rfl rfl ?_
      refine HQ.pu (Pu.fieldB fo30_0 rfl) ⟨rfl, trivial⟩ rfl rfl rfl ?_
      refine HQ.op [2] [2] (OT.loadB sc27 rfl) ⟨rfl, trivial⟩ ⟨rfl, trivial⟩ rfl rfl rfl rfl (fun _ => rfl) fun _ => ?_
      refine HQ.pu (Pu.build (us := []) (cs := [.bool false, .slice none 0 0]) [] st79 rfl rfl rfl) trivial rfl rfl rfl ?_
      refine HQ.nil kU8 7 rfl ?_
      refine HQ.opD [7] [8] [7] (OT.buildO (u := .agg #[.bool false, .slice none 0 0]) (enc := encTCell) (hl := hlTCell) (sub := fun (x : TCell) => x.B) (.tmp 16) (⟨false, ([] : (List Int))⟩ : TCell) sl27.ul sl27.szE sl27.zc rfl rfl rfl rfl) ⟨rfl, trivial⟩ ⟨rfl, trivial⟩ rfl rfl rfl rfl (fun _ => rfl) fun ⟨a14, c15⟩ => ?_
      obtain ⟨h18, H⟩ := asr H
      refine HQ.opD [1, 8] [1] [8] (OT.appendO (K := kTCell) sl27 ul27 h18) ⟨rfl, rfl, trivial⟩ ⟨rfl, rfl, trivial⟩ rfl rfl rfl rfl (fun _ => rfl) fun ⟨a16, c17⟩ => ?_
      refine HQ.pu Pu.nilCheck ⟨rfl, trivial⟩ rfl rfl rfl ?_
      refine HQ.pu (Pu.fieldB fo30_0 rfl) ⟨rfl, trivial⟩ rfl rfl rfl ?_
      refine HQ.opN [2] [2] [] (OT.storeC (cs' := [.slice a16 (List.length (l6 ++ ([(⟨false, ([] : (List Int))⟩ : TCell)] : (List TCell)))) c17, .slice a_1 (List.length p0.Wet) c_1, .int .i64 p0.Fuse, .bool p0.Dead]) sz27 rfl rfl rfl rfl rfl) ⟨rfl, rfl, trivial⟩ ⟨rfl, trivial⟩ rfl rfl rfl (fun _ => rfl) fun _ => ?_
      refine HQ.done ?_
      refine HQ.keep [(0, _), (1, _)] ⟨rfl, rfl, trivial⟩ ?_
      refine HQ.blkN ?_
      obtain rfl := Option.some.inj H
      exact HQ.next (a16, c17) ⟨rfl, rfl, trivial⟩ ⟨rfl, rfl, trivial⟩ rfl
    · refine HQ.condF rfl hc ?_
      clear hc
      refine HQ.exit ?_
      refine HQ.thenE ?_
      obtain rfl := Option.some.inj H
      exact HQ.out (a7, c8) ⟨rfl, rfl, trivial⟩ ⟨rfl, rfl, trivial⟩ rfl
  · rintro l20 rfl ⟨a21, c22⟩
    clear h23
    replace H := H
    refine HQ.keep [(0, _), (1, _)] ⟨rfl, rfl, trivial⟩ ?_
    refine HQ.keepR [(2, _), (1, _)] ⟨rfl, rfl, trivial⟩ rfl ?_
    refine HQ.blkE ?_
    obtain rfl := Option.some.inj H
    exact HQ.fin (vs := []) Try.results45 (a21, c22) trivial rfl [2, 1] ⟨rfl, rfl, trivial⟩ rfl
  · exact fun r h a w hf => hf.elim

/-! spec.Most -/
theorem spec_Most_c {w : World} {p0 : Int} {p1 : Int}   {r : Int} (H : spec_Most p0 p1 = some r) :
    Calls Try.prog 57 #[.int .i64 p0, .int .i64 p1] w (Rt w Nil (fun _ : Unit => .int .i64 r) (fun _ => [])) := by
  rw [spec_Most] at H
  refine Calls.enter0 (N := 10) (us := [_, _]) Try.func57 rfl rfl rfl ?_
  refine HQ.rseq ?_
  refine HQ.pu Pu.assign ⟨rfl, trivial⟩ rfl rfl rfl ?_
  refine HQ.done ?_
  refine HQ.keep [(0, _), (1, _), (4, _)] ⟨rfl, rfl, rfl, trivial⟩ ?_
  refine HQ.seq ?_
  refine HQ.rseq ?_
  refine HQ.pu Pu.move ⟨rfl, trivial⟩ rfl rfl rfl ?_
  refine HQ.pu Pu.move ⟨rfl, trivial⟩ rfl rfl rfl ?_
  refine HQ.pu Pu.gtr ⟨rfl, rfl, trivial⟩ rfl rfl rfl ?_
  refine HQ.done ?_
  refine HQ.keep [(0, _), (1, _), (4, _), (7, _)] ⟨rfl, rfl, rfl, rfl, trivial⟩ ?_
  rcases brk H with ⟨hc, H⟩ | ⟨hc, H⟩
  · refine HQ.condT rfl hc ?_
    clear hc
    refine HQ.rseq ?_
    refine HQ.pu Pu.move ⟨rfl, trivial⟩ rfl rfl rfl ?_
    refine HQ.pu Pu.assign ⟨rfl, trivial⟩ rfl rfl rfl ?_
    refine HQ.done ?_
    refine HQ.keep [(0, _), (4, _)] ⟨rfl, rfl, trivial⟩ ?_
    refine HQ.ret ?_
    refine HQ.thenR ?_
    obtain rfl := Option.some.inj H
    exact HQ.fin (vs := [_]) Try.results57 () ⟨rfl, trivial⟩ rfl [] trivial rfl
  · refine HQ.condF rfl hc ?_
    clear hc
    refine HQ.skipThen ?_
    refine HQ.rseq ?_
    refine HQ.pu Pu.move ⟨rfl, trivial⟩ rfl rfl rfl ?_
    refine HQ.pu Pu.assign ⟨rfl, trivial⟩ rfl rfl rfl ?_
    refine HQ.done ?_
    refine HQ.keep [(4, _)] ⟨rfl, trivial⟩ ?_
    refine HQ.ret ?_
    obtain rfl := Option.some.inj H
    exact HQ.fin (vs := [_]) Try.results57 () ⟨rfl, trivial⟩ rfl [] trivial rfl

/-! spec.Crash -/
theorem spec_Crash_c {w : World} {k : Nat} {p0 : TDisk} {p1 : (List Int)} {p2 : Int} {a_0 : Option Addr} {c_0 : Nat} {a_1 : Option Addr} {c_1 : Nat} {a_2 : Option Addr} {c_2 : Nat} (hb_0 : BorS kTCell a_0 c_0 p0.Cells w.heap (Lt w Nil)) (hb_1 : BorS kTWet a_1 c_1 p0.Wet w.heap (Lt w Nil)) (hb_2 : BorS kI a_2 c_2 p1 w.heap (Lt w Nil)) {r : TDisk} (H : spec_Crash k p0 p1 p2 = some r) :
    Calls Try.prog 16 #[.agg #[.slice a_0 (List.length p0.Cells) c_0, .slice a_1 (List.length p0.Wet) c_1, .int .i64 p0.Fuse, .bool p0.Dead], .slice a_2 (List.length p1) c_2, .int .i64 p2] w (Rt w Nil (fun g : (Option Addr × Nat) × (Option Addr × Nat) => .agg #[.slice g.1.1 (List.length r.Cells) g.1.2, .slice g.2.1 (List.length r.Wet) g.2.2, .int .i64 r.Fuse, .bool r.Dead]) (fun g => [OwnS kTCell g.1.1 g.1.2 r.Cells, OwnS kTWet g.2.1 g.2.2 r.Wet])) := by
  rw [spec_Crash] at H
  refine Calls.enter0 (N := 69) (us := [_, _, _]) Try.func16 rfl rfl rfl ?_
  refine HQ.rseq ?_
  refine HQ.op [] [1] (OT.box (cs := [.slice a_0 (List.length p0.Cells) c_0, .slice a_1 (List.length p0.Wet) c_1, .int .i64 p0.Fuse, .bool p0.Dead]) rfl) ⟨rfl, trivial⟩ trivial rfl rfl rfl rfl (fun _ => rfl) fun b1 => ?_
  refine HQ.op [] [2] (OT.alloc zc30) trivial trivial rfl rfl rfl rfl (fun _ => rfl) fun b2 => ?_
  refine HQ.done ?_
  refine HQ.keep [(1, _), (2, _), (3, _), (6, _)] ⟨rfl, rfl, rfl, rfl, trivial⟩ ?_
  refine HQ.rseq ?_
  refine HQ.op [1] [1] (OT.loadBA (vs := [.slice a_0 (List.length p0.Cells) c_0, .slice a_1 (List.length p0.Wet) c_1, .int .i64 p0.Fuse, .bool p0.Dead]) ag30 sz30 rfl rfl) ⟨rfl, trivial⟩ ⟨rfl, trivial⟩ rfl rfl rfl rfl (fun _ => rfl) fun _ => ?_
  obtain ⟨t3, h4, H⟩ := bnd H
  refine HQ.op [] [3, 4] (OT.call (us := [_]) (Pre := []) [.tmp 10] Try.call42 rfl rfl fun w F hs hF hp => spec_l18Copy_c (hb_0.pass hp) (hb_1.pass hp) h4) ⟨rfl, rfl, trivial⟩ trivial rfl rfl rfl rfl (fun _ => rfl) fun ⟨⟨a5, c6⟩, ⟨a7, c8⟩⟩ => ?_
  refine HQ.op [] [5] (OT.alloc zc30) trivial trivial rfl rfl rfl rfl (fun _ => rfl) fun b9 => ?_
  refine HQ.opN [5] [5] [] (OT.storeC (cs' := [.slice a5 (List.length t3.Cells) c6, .slice a7 (List.length t3.Wet) c8, .int .i64 t3.Fuse, .bool t3.Dead]) sz30 rfl rfl rfl rfl rfl) ⟨rfl, rfl, trivial⟩ ⟨rfl, trivial⟩ rfl rfl rfl (fun _ => rfl) fun _ => ?_
  refine HQ.done ?_
  refine HQ.keep [(1, _), (2, _), (6, _), (7, _)] ⟨rfl, rfl, rfl, rfl, trivial⟩ ?_
  refine HQ.seq ?_
  refine HQ.rseq ?_
  refine HQ.pu Pu.assign ⟨rfl, trivial⟩ rfl rfl rfl ?_
  refine HQ.done ?_
  refine HQ.keep [(1, _), (2, _), (6, _), (7, _), (8, _)] ⟨rfl, rfl, rfl, rfl, rfl, trivial⟩ ?_
  refine HQ.block ?_
  refine HQ.toRob 4 rfl ?_
  obtain ⟨o98, h110, H⟩ := bnd H
  refine HQ.loop h110 0 (fun (s : Int × (List TCell) × Int × Bool × Int) (g : Option Addr × Nat) => match s, g with | (i37, l38, i41, q42, i43), (a39, c40) => [(1, .slice a_2 (List.length p1) c_2), (2, .int .i64 p2), (6, BP b2 0), (7, BP b9 0), (8, .int .i64 i37)]) (fun (s : Int × (List TCell) × Int × Bool × Int) (g : Option Addr × Nat) => match s, g with | (i37, l38, i41, q42, i43), (a39, c40) => [(2, Box b2 [.slice none 0 0, .slice none 0 0, .int .i64 0, .bool false]), (5, Box b9 [.slice a39 (List.length l38) c40, .slice a7 (List.length t3.Wet) c8, .int .i64 i41, .bool q42]), (3, OwnS kTCell a39 c40 l38), (4, RobS 2 encTWet hlTWet kU8 (fun x => x.B) a7 c8 t3.Wet i43)]) (fun _ _ _ => False) (a5, c6) ⟨rfl, rfl, rfl, rfl, rfl, trivial⟩ ⟨rfl, rfl, rfl, rfl, trivial⟩ rfl ?_ ?_ ?_
  · clear H h110
    rintro ⟨i37, l38, i41, q42, i43⟩ ⟨a39, c40⟩ o H
    rw [spec_Crash_b0] at H
    refine HQ.keep [(1, _), (2, _), (6, _), (7, _), (8, _)] ⟨rfl, rfl, rfl, rfl, rfl, trivial⟩ ?_
    refine HQ.keepR [(2, _), (5, _), (3, _), (4, _)] ⟨rfl, rfl, rfl, rfl, trivial⟩ rfl ?_
    refine HQ.seq ?_
    refine HQ.rseq ?_
    refine HQ.pu Pu.move ⟨rfl, trivial⟩ rfl rfl rfl ?_
    refine HQ.pu (Pu.fieldB fo30_1 rfl) ⟨rfl, trivial⟩ rfl rfl rfl ?_
    refine HQ.op [5] [5] (OT.loadB sc28 rfl) ⟨rfl, trivial⟩ ⟨rfl, trivial⟩ rfl rfl rfl rfl (fun _ => rfl) fun _ => ?_
    refine HQ.pu (Pu.len ul28) ⟨rfl, trivial⟩ rfl rfl rfl ?_
    refine HQ.pu Pu.lss ⟨rfl, rfl, trivial⟩ rfl rfl rfl ?_
    refine HQ.pu Pu.move ⟨rfl, trivial⟩ rfl rfl rfl ?_
    refine HQ.cutAt 5 [(22, .bool ((decide (i37 < ((List.length t3.Wet : Nat) : Int))) && (decide (i37 < ((List.length p1 : Nat) : Int))))), (1, .slice a_2 (List.length p1) c_2), (2, .int .i64 p2), (6, BP b2 0), (7, BP b9 0), (8, .int .i64 i37)] [(2, Box b2 [.slice none 0 0, .slice none 0 0, .int .i64 0, .bool false]), (5, Box b9 [.slice a39 (List.length l38) c40, .slice a7 (List.length t3.Wet) c8, .int .i64 i41, .bool q42]), (3, OwnS kTCell a39 c40 l38), (4, RobS 2 encTWet hlTWet kU8 (fun x => x.B) a7 c8 t3.Wet i43)] ?_ ?_
    · rcases Bool.eq_false_or_eq_true (decide (i37 < ((List.length t3.Wet : Nat) : Int))) with hg71 | hg71
      · refine HQ.on rfl rfl hg71 ?_
        refine HQ.pu Pu.move ⟨rfl, trivial⟩ rfl rfl rfl ?_
        refine HQ.on rfl rfl hg71 ?_
        refine HQ.pu Pu.move ⟨rfl, trivial⟩ rfl rfl rfl ?_
        refine HQ.on rfl rfl hg71 ?_
        refine HQ.pu (Pu.len ul36) ⟨rfl, trivial⟩ rfl rfl rfl ?_
        refine HQ.on rfl rfl hg71 ?_
        refine HQ.pu Pu.lss ⟨rfl, rfl, trivial⟩ rfl rfl rfl ?_
        refine HQ.pu (Pu.pickAT hg71) ⟨rfl, rfl, trivial⟩ rfl rfl rfl ?_
        exact HQ.mid ⟨rfl, rfl, rfl, rfl, rfl, rfl, trivial⟩ ⟨rfl, rfl, rfl, rfl, trivial⟩ rfl
      · refine HQ.off rfl rfl hg71 rfl ?_
        refine HQ.off rfl rfl hg71 rfl ?_
        refine HQ.off rfl rfl hg71 rfl ?_
        refine HQ.off rfl rfl hg71 rfl ?_
        refine HQ.pu (Pu.pickAF (u := (decide (i37 < ((List.length p1 : Nat) : Int)))) hg71) ⟨rfl, rfl, trivial⟩ rfl rfl rfl ?_
        exact HQ.mid ⟨rfl, rfl, rfl, rfl, rfl, rfl, trivial⟩ ⟨rfl, rfl, rfl, rfl, trivial⟩ rfl
    refine HQ.done ?_
    refine HQ.keep [(22, _), (1, _), (2, _), (6, _), (7, _), (8, _)] ⟨rfl, rfl, rfl, rfl, rfl, rfl, trivial⟩ ?_
    rcases brk H with ⟨hc, H⟩ | ⟨hc, H⟩
    · refine HQ.condT rfl hc ?_
      clear hc
      refine HQ.skipThen ?_
      refine HQ.seq ?_
      refine HQ.block ?_
      refine HQ.rseq ?_
      refine HQ.pu (Pu.fieldB fo30_1 rfl) ⟨rfl, trivial⟩ rfl rfl rfl ?_
      refine HQ.op [5] [5] (OT.loadB sc28 rfl) ⟨rfl, trivial⟩ ⟨rfl, trivial⟩ rfl rfl rfl rfl (fun _ => rfl) fun _ => ?_
      refine HQ.pu Pu.move ⟨rfl, trivial⟩ rfl rfl rfl ?_
      obtain ⟨h72, H⟩ := asr H
      refine HQ.op [4] [4] (OT.indexR ul28 sz71 h72) ⟨rfl, rfl, trivial⟩ ⟨rfl, trivial⟩ rfl rfl rfl rfl (fun _ => rfl) fun _ => ?_
      refine HQ.pu (Pu.fieldE fo71_0 rfl) ⟨rfl, trivial⟩ rfl rfl rfl ?_
      obtain ⟨h73, H⟩ := asr H
      refine HQ.op [4] [4] (OT.loadR sc3 h72 h73 (fun _ => rfl)) ⟨rfl, trivial⟩ ⟨rfl, trivial⟩ rfl rfl rfl rfl (fun _ => rfl) fun _ => ?_
      refine HQ.pu Pu.assign ⟨rfl, trivial⟩ rfl rfl rfl ?_
      refine HQ.done ?_
      refine HQ.keep [(1, _), (2, _), (6, _), (7, _), (8, _), (9, _)] ⟨rfl, rfl, rfl, rfl, rfl, rfl, trivial⟩ ?_
      refine HQ.seq ?_
      refine HQ.rseq ?_
      refine HQ.pu Pu.move ⟨rfl, trivial⟩ rfl rfl rfl ?_
      obtain ⟨t74, h75, H⟩ := bnd H
      refine HQ.op [] [] (OT.call (us := [_, _, _]) (Pre := []) [.tmp 31, .const (.int .i64 0), .const (.int .i64 113)] Try.call44 rfl rfl fun w F hs hF hp => spec_l1In_c h75) ⟨rfl, rfl, rfl, rfl, trivial⟩ trivial rfl rfl rfl rfl (fun _ => rfl) fun _ => ?_
      refine HQ.pu Pu.not ⟨rfl, trivial⟩ rfl rfl rfl ?_
      refine HQ.done ?_
      refine HQ.keep [(1, _), (2, _), (6, _), (7, _), (8, _), (9, _), (33, _)] ⟨rfl, rfl, rfl, rfl, rfl, rfl, rfl, trivial⟩ ?_
      rcases brk H with ⟨hc, H⟩ | ⟨hc, H⟩
      · refine HQ.condT rfl hc ?_
        clear hc
        refine HQ.exit ?_
        refine HQ.thenE ?_
        refine HQ.blkE ?_
        refine HQ.thenN ?_
        refine HQ.regionQ ?_
        refine HQ.pu Pu.move ⟨rfl, trivial⟩ rfl rfl rfl ?_
        refine HQ.pu Pu.add ⟨rfl, rfl, trivial⟩ rfl rfl rfl ?_
        refine HQ.pu Pu.assign ⟨rfl, trivial⟩ rfl rfl rfl ?_
        refine HQ.done ?_
        refine HQ.keep [(1, _), (2, _), (6, _), (7, _), (8, _)] ⟨rfl, rfl, rfl, rfl, rfl, trivial⟩ ?_
        obtain rfl := Option.some.inj H
        exact HQ.next (a39, c40) ⟨rfl, rfl, rfl, rfl, rfl, trivial⟩ ⟨rfl, rfl, rfl, rfl, trivial⟩ rfl
      · refine HQ.condF rfl hc ?_
        clear hc
        refine HQ.skipThen ?_
        refine HQ.rseq ?_
        refine HQ.pu Pu.move ⟨rfl, trivial⟩ rfl rfl rfl ?_
        refine HQ.pu Pu.move ⟨rfl, trivial⟩ rfl rfl rfl ?_
        obtain ⟨h76, H⟩ := asr H
        refine HQ.op [] [] (OT.indexB ul36 sz3 hb_2 h76) ⟨rfl, rfl, trivial⟩ trivial rfl rfl rfl rfl (fun _ => rfl) fun _ => ?_
        refine HQ.op [] [] (OT.loadF sc3 hb_2 h76 rfl) ⟨rfl, trivial⟩ trivial rfl rfl rfl rfl (fun _ => rfl) fun _ => ?_
        refine HQ.done ?_
        refine HQ.keep [(1, _), (2, _), (6, _), (7, _), (8, _), (9, _), (37, _)] ⟨rfl, rfl, rfl, rfl, rfl, rfl, rfl, trivial⟩ ?_
        refine HQ.block ?_
        refine HQ.rseq ?_
        refine HQ.pu Pu.eql ⟨rfl, rfl, trivial⟩ rfl rfl rfl ?_
        refine HQ.pu Pu.assign ⟨rfl, trivial⟩ rfl rfl rfl ?_
        refine HQ.done ?_
        refine HQ.keep [(1, _), (2, _), (6, _), (7, _), (8, _), (9, _), (37, _), (38, _)] ⟨rfl, rfl, rfl, rfl, rfl, rfl, rfl, rfl, trivial⟩ ?_
        rcases brk H with ⟨hc, H⟩ | ⟨hc, H⟩
        · refine HQ.condT rfl hc ?_
          clear hc
          refine HQ.rseq ?_
          refine HQ.pu Pu.move ⟨rfl, trivial⟩ rfl rfl rfl ?_
          obtain ⟨t77, h78, H⟩ := bnd H
          refine HQ.opD [5, 3] [5, 14] [3] (OT.callM (us := [_, _]) (PreX := [Box b9 [.slice a39 (List.length l38) c40, .slice a7 (List.length t3.Wet) c8, .int .i64 i41, .bool q42], OwnS kTCell a39 c40 l38]) (PreL := []) [.tmp 7, .tmp 40] Try.call45 rfl rfl fun w FX FL hs1 hF1 hs2 hF2 hp => spec_l18Room_c (p0 := (⟨l38, t3.Wet, i41, q42⟩ : TDisk)) (p1 := (gt t3.Wet i37).At) hs1 hF1 h78) ⟨rfl, rfl, rfl, trivial⟩ ⟨rfl, rfl, trivial⟩ rfl rfl rfl rfl (fun _ => rfl) fun ⟨a79, c80⟩ => ?_
          refine HQ.done ?_
          refine HQ.keep [(1, _), (2, _), (6, _), (7, _), (8, _), (9, _)] ⟨rfl, rfl, rfl, rfl, rfl, rfl, trivial⟩ ?_
          refine HQ.dStart mixd ?_
          obtain ⟨h82, H⟩ := asr H
          obtain ⟨h83, H⟩ := asr H
          refine HQ.dPart [(1, .slice a_2 (List.length p1) c_2), (2, .int .i64 p2), (6, BP b2 0), (7, BP b9 0), (8, .int .i64 i37), (9, .int .i64 ((gt t3.Wet i37).At))] 10 [⟨[], [], []⟩, ⟨[0], [0], [0]⟩, ⟨[], [], []⟩, ⟨[], [], []⟩, ⟨[0], [0], [3]⟩, ⟨[], [], []⟩, ⟨[1], [1], [4, 5]⟩, ⟨[], [], [6]⟩, ⟨[1], [2, 3], [7]⟩, ⟨[], [], [8]⟩] [⟨none, none⟩, ⟨none, some 8⟩, ⟨some 8, none⟩, ⟨some 8, none⟩] (fun (g81 : (Option Addr × Nat)) => [BP b9 0, .slice a79 (List.length t77.Cells) c80, .int .i64 ((gt t3.Wet i37).At), BP b9 1, .slice a7 (List.length t3.Wet) c8, .int .i64 i37, EP a7 i37 2 0, EP a7 i37 2 1, .slice g81.1 (List.length ((gt t3.Wet i37).B)) g81.2, .agg #[.bool false, .slice g81.1 (List.length ((gt t3.Wet i37).B)) g81.2]]) (fun (g81 : (Option Addr × Nat)) => [Box b9 [.slice a79 (List.length t77.Cells) c80, .slice a7 (List.length t3.Wet) c8, .int .i64 t77.Fuse, .bool t77.Dead], RobS 2 encTWet hlTWet kU8 (fun x => x.B) a7 c8 t3.Wet i43, RobS 2 encTWet hlTWet kU8 (fun x => x.B) a7 c8 t3.Wet (i37 + 1), OwnS kU8 g81.1 g81.2 ((gt t3.Wet i37).B)]) (none, 0) [5, 4] [5, 4, 15] [] ⟨rfl, rfl, rfl, rfl, rfl, rfl, trivial⟩ ⟨rfl, rfl, trivial⟩ rfl (by kernel_rfl) (by kernel_rfl) (fun _ => rfl) (by kernel_rfl) (fun _ => rfl) rfl ⟨?_, ?_, ?_, ?_, ?_, ?_, ?_, ?_, ?_, ?_, trivial⟩ fun g81 => ?_
          · exact OpOK2.of (fun g81 => [(.tmp 7, BP b9 0)]) _ _ (fun g81 _ => g81) rfl rfl (fun _ => ⟨rfl, trivial⟩) (fun g81 => Pu.toOT (Pu.fieldB fo30_0 rfl)) (fun _ _ => ⟨rfl, rfl, ⟨rfl, rfl, rfl, rfl, trivial⟩⟩)
          · exact OpOK2.of (fun g81 => [(.tmp 42, BP b9 0)]) _ _ (fun g81 _ => g81) rfl rfl (fun _ => ⟨rfl, trivial⟩) (fun g81 => OT.loadB sc27 rfl) (fun _ _ => ⟨rfl, rfl, ⟨rfl, rfl, rfl, rfl, trivial⟩⟩)
          · exact OpOK2.of (fun g81 => [(.tmp 9, .int .i64 ((gt t3.Wet i37).At))]) _ _ (fun g81 _ => g81) rfl rfl (fun _ => ⟨rfl, trivial⟩) (fun g81 => Pu.toOT Pu.move) (fun _ _ => ⟨rfl, rfl, ⟨rfl, rfl, rfl, rfl, trivial⟩⟩)
          · exact OpOK2.of (fun g81 => [(.tmp 7, BP b9 0)]) _ _ (fun g81 _ => g81) rfl rfl (fun _ => ⟨rfl, trivial⟩) (fun g81 => Pu.toOT (Pu.fieldB fo30_1 rfl)) (fun _ _ => ⟨rfl, rfl, ⟨rfl, rfl, rfl, rfl, trivial⟩⟩)
          · exact OpOK2.of (fun g81 => [(.tmp 45, BP b9 1)]) _ _ (fun g81 _ => g81) rfl rfl (fun _ => ⟨rfl, trivial⟩) (fun g81 => OT.loadB sc28 rfl) (fun _ _ => ⟨rfl, rfl, ⟨rfl, rfl, rfl, rfl, trivial⟩⟩)
          · exact OpOK2.of (fun g81 => [(.tmp 8, .int .i64 i37)]) _ _ (fun g81 _ => g81) rfl rfl (fun _ => ⟨rfl, trivial⟩) (fun g81 => Pu.toOT Pu.move) (fun _ _ => ⟨rfl, rfl, ⟨rfl, rfl, rfl, rfl, trivial⟩⟩)
          · exact OpOK2.of (fun g81 => [(.tmp 46, .slice a7 (List.length t3.Wet) c8), (.tmp 47, .int .i64 i37)]) _ _ (fun g81 _ => g81) rfl rfl (fun _ => ⟨rfl, rfl, trivial⟩) (fun g81 => OT.indexR ul28 sz71 h82) (fun _ _ => ⟨rfl, rfl, ⟨rfl, rfl, rfl, rfl, trivial⟩⟩)
          · exact OpOK2.of (fun g81 => [(.tmp 48, EP a7 i37 2 0)]) _ _ (fun g81 _ => g81) rfl rfl (fun _ => ⟨rfl, trivial⟩) (fun g81 => Pu.toOT (Pu.fieldE fo71_1 rfl)) (fun _ _ => ⟨rfl, rfl, ⟨rfl, rfl, rfl, rfl, trivial⟩⟩)
          · exact OpOK2.ofD [9] (by kernel_rfl) (fun g81 => [(.tmp 49, EP a7 i37 2 1)]) _ _ (fun g81 x => x) rfl rfl (fun _ => ⟨rfl, trivial⟩) (fun g81 => OT.rob (v := fun pa pc => .slice pa (List.length ((gt t3.Wet i37).B)) pc) sc63 h82 h83 (fun _ _ => rfl)) (fun _ _ => ⟨⟨rfl, rfl, rfl, rfl, rfl, rfl, rfl, rfl, rfl, trivial, trivial⟩, rfl, ⟨rfl, rfl, rfl, rfl, trivial⟩⟩)
          · exact OpOK2.of (fun g81 => [(.tmp 50, .slice g81.1 (List.length ((gt t3.Wet i37).B)) g81.2)]) _ _ (fun g81 _ => g81) rfl rfl (fun _ => ⟨rfl, trivial⟩) (fun g81 => Pu.toOT (Pu.build (us := [.slice g81.1 (List.length ((gt t3.Wet i37).B)) g81.2]) (cs := [.bool false, .slice g81.1 (List.length ((gt t3.Wet i37).B)) g81.2]) [(1, .tmp 50)] st79 rfl rfl rfl)) (fun _ _ => ⟨rfl, rfl, ⟨rfl, rfl, rfl, rfl, trivial⟩⟩)
          refine HQ.keep [(1, _), (2, _), (6, _), (7, _), (8, _), (43, _), (44, _), (51, _)] ⟨rfl, rfl, rfl, rfl, rfl, rfl, rfl, rfl, trivial⟩ ?_
          refine HQ.keepR [(2, _), (5, _), (4, _), (14, _), (15, _)] ⟨rfl, rfl, rfl, rfl, rfl, trivial⟩ rfl ?_
          refine HQ.dRun 2 rfl rfl (by kernel_rfl) (by kernel_rfl) ?_
          obtain ⟨h86, H⟩ := asr H
          refine HQ.op [14] [14] (OT.indexO ul27 sz79 h86) ⟨rfl, rfl, trivial⟩ ⟨rfl, trivial⟩ rfl rfl rfl rfl (fun _ => rfl) fun _ => ?_
          refine HQ.opN [14, 15] [14] [15] (OT.storeW (⟨false, (gt t3.Wet i37).B⟩ : TCell) sz79 rfl rfl rfl h86 rfl (fun _ => rfl) rfl) ⟨rfl, rfl, trivial⟩ ⟨rfl, rfl, trivial⟩ rfl rfl rfl (fun _ => rfl) fun _ => ?_
          obtain ⟨l87, h88, H⟩ := bnd H
          replace h88 := Option.some.inj h88
          refine HQ.reR (B := OwnS kTCell a79 c80 l87) 14 rfl (by intro _ _ hb; rw [← h88]; exact hb) ?_
          have h89 : List.length l87 = List.length t77.Cells := by rw [← h88, List.length_set]
          refine HQ.re (v' := .slice a79 (List.length l87) c80) 43 rfl (by simp [h89]) ?_
          refine HQ.reR (B := Box b9 [.slice a79 (List.length l87) c80, .slice a7 (List.length t3.Wet) c8, .int .i64 t77.Fuse, .bool t77.Dead]) 5 rfl (fun _ _ hb => by rw [show List.length l87 = List.length t77.Cells from (by simp [h89])]; exact hb) ?_
          refine HQ.done ?_
          refine HQ.dEnd rfl ?_
          refine HQ.keep [(1, _), (2, _), (6, _), (7, _), (8, _)] ⟨rfl, rfl, rfl, rfl, rfl, trivial⟩ ?_
          refine HQ.blkN ?_
          refine HQ.blkN ?_
          refine HQ.thenN ?_
          refine HQ.regionQ ?_
          refine HQ.pu Pu.move ⟨rfl, trivial⟩ rfl rfl rfl ?_
          refine HQ.pu Pu.add ⟨rfl, rfl, trivial⟩ rfl rfl rfl ?_
          refine HQ.pu Pu.assign ⟨rfl, trivial⟩ rfl rfl rfl ?_
          refine HQ.done ?_
          refine HQ.keep [(1, _), (2, _), (6, _), (7, _), (8, _)] ⟨rfl, rfl, rfl, rfl, rfl, trivial⟩ ?_
          refine HQ.mv 3 14 rfl rfl ?_
          obtain rfl := Option.some.inj H
          exact HQ.next (a79, c80) ⟨rfl, rfl, rfl, rfl, rfl, trivial⟩ ⟨rfl, rfl, rfl, rfl, trivial⟩ rfl
        · refine HQ.condF rfl hc ?_
          clear hc
          refine HQ.rseq ?_
          refine HQ.pu Pu.eql ⟨rfl, rfl, trivial⟩ rfl rfl rfl ?_
          refine HQ.pu Pu.assign ⟨rfl, trivial⟩ rfl rfl rfl ?_
          refine HQ.done ?_
          refine HQ.keep [(1, _), (2, _), (6, _), (7, _), (8, _), (9, _), (53, _)] ⟨rfl, rfl, rfl, rfl, rfl, rfl, rfl, trivial⟩ ?_
          rcases brk H with ⟨hc, H⟩ | ⟨hc, H⟩
          · refine HQ.condT rfl hc ?_
            clear hc
            refine HQ.rseq ?_
            refine HQ.pu Pu.move ⟨rfl, trivial⟩ rfl rfl rfl ?_
            obtain ⟨t90, h91, H⟩ := bnd H
            refine HQ.opD [5, 3] [5, 16] [3] (OT.callM (us := [_, _]) (PreX := [Box b9 [.slice a39 (List.length l38) c40, .slice a7 (List.length t3.Wet) c8, .int .i64 i41, .bool q42], OwnS kTCell a39 c40 l38]) (PreL := []) [.tmp 7, .tmp 55] Try.call45 rfl rfl fun w FX FL hs1 hF1 hs2 hF2 hp => spec_l18Room_c (p0 := (⟨l38, t3.Wet, i41, q42⟩ : TDisk)) (p1 := (gt t3.Wet i37).At) hs1 hF1 h91) ⟨rfl, rfl, rfl, trivial⟩ ⟨rfl, rfl, trivial⟩ rfl rfl rfl rfl (fun _ => rfl) fun ⟨a92, c93⟩ => ?_
            refine HQ.done ?_
            refine HQ.keep [(1, _), (2, _), (6, _), (7, _), (8, _), (9, _)] ⟨rfl, rfl, rfl, rfl, rfl, rfl, trivial⟩ ?_
            refine HQ.regionQ ?_
            refine HQ.pu (Pu.fieldB fo30_0 rfl) ⟨rfl, trivial⟩ rfl rfl rfl ?_
            refine HQ.op [5] [5] (OT.loadB sc27 rfl) ⟨rfl, trivial⟩ ⟨rfl, trivial⟩ rfl rfl rfl rfl (fun _ => rfl) fun _ => ?_
            refine HQ.pu Pu.move ⟨rfl, trivial⟩ rfl rfl rfl ?_
            refine HQ.pu (Pu.build (us := [.bool true]) (cs := [.bool true, .slice none 0 0]) [(0, .const (.bool true))] st79 rfl rfl rfl) ⟨rfl, trivial⟩ rfl rfl rfl ?_
            obtain ⟨h94, H⟩ := asr H
            refine HQ.op [16] [16] (OT.indexO ul27 sz79 h94) ⟨rfl, rfl, trivial⟩ ⟨rfl, trivial⟩ rfl rfl rfl rfl (fun _ => rfl) fun _ => ?_
            refine HQ.nil kU8 17 rfl ?_
            refine HQ.opN [16, 17] [16] [17] (OT.storeW (⟨true, ([] : (List Int))⟩ : TCell) sz79 rfl rfl rfl h94 rfl (fun _ => rfl) rfl) ⟨rfl, rfl, trivial⟩ ⟨rfl, rfl, trivial⟩ rfl rfl rfl (fun _ => rfl) fun _ => ?_
            obtain ⟨l95, h96, H⟩ := bnd H
            replace h96 := Option.some.inj h96
            refine HQ.reR (B := OwnS kTCell a92 c93 l95) 16 rfl (by intro _ _ hb; rw [← h96]; exact hb) ?_
            have h97 : List.length l95 = List.length t90.Cells := by rw [← h96, List.length_set]
            refine HQ.re (v' := .slice a92 (List.length l95) c93) 58 rfl (by simp [h97]) ?_
            refine HQ.reR (B := Box b9 [.slice a92 (List.length l95) c93, .slice a7 (List.length t3.Wet) c8, .int .i64 t90.Fuse, .bool t90.Dead]) 5 rfl (fun _ _ hb => by rw [show List.length l95 = List.length t90.Cells from (by simp [h97])]; exact hb) ?_
            refine HQ.done ?_
            refine HQ.keep [(1, _), (2, _), (6, _), (7, _), (8, _)] ⟨rfl, rfl, rfl, rfl, rfl, trivial⟩ ?_
            refine HQ.blkN ?_
            refine HQ.blkN ?_
            refine HQ.thenN ?_
            refine HQ.regionQ ?_
            refine HQ.pu Pu.move ⟨rfl, trivial⟩ rfl rfl rfl ?_
            refine HQ.pu Pu.add ⟨rfl, rfl, trivial⟩ rfl rfl rfl ?_
            refine HQ.pu Pu.assign ⟨rfl, trivial⟩ rfl rfl rfl ?_
            refine HQ.done ?_
            refine HQ.keep [(1, _), (2, _), (6, _), (7, _), (8, _)] ⟨rfl, rfl, rfl, rfl, rfl, trivial⟩ ?_
            refine HQ.mv 3 16 rfl rfl ?_
            obtain rfl := Option.some.inj H
            exact HQ.next (a92, c93) ⟨rfl, rfl, rfl, rfl, rfl, trivial⟩ ⟨rfl, rfl, rfl, rfl, trivial⟩ rfl
          · refine HQ.condF rfl hc ?_
            clear hc
            refine HQ.skip ?_
            refine HQ.blkN ?_
            refine HQ.blkN ?_
            refine HQ.thenN ?_
            refine HQ.regionQ ?_
            refine HQ.pu Pu.move ⟨rfl, trivial⟩ rfl rfl rfl ?_
            refine HQ.pu Pu.add ⟨rfl, rfl, trivial⟩ rfl rfl rfl ?_
            refine HQ.pu Pu.assign ⟨rfl, trivial⟩ rfl rfl rfl ?_
            refine HQ.done ?_
            refine HQ.keep [(1, _), (2, _), (6, _), (7, _), (8, _)] ⟨rfl, rfl, rfl, rfl, rfl, trivial⟩ ?_
            obtain rfl := Option.some.inj H
            exact HQ.next (a39, c40) ⟨rfl, rfl, rfl, rfl, rfl, trivial⟩ ⟨rfl, rfl, rfl, rfl, trivial⟩ rfl
    · refine HQ.condF rfl hc ?_
      clear hc
      refine HQ.exit ?_
      refine HQ.thenE ?_
      obtain rfl := Option.some.inj H
      exact HQ.out (a39, c40) ⟨rfl, rfl, rfl, rfl, rfl, trivial⟩ ⟨rfl, rfl, rfl, rfl, trivial⟩ rfl
  · rintro ⟨i99, l100, i103, q104, i105⟩ rfl ⟨a101, c102⟩
    clear h110
    replace H := H
    refine HQ.keep [(1, _), (2, _), (6, _), (7, _), (8, _)] ⟨rfl, rfl, rfl, rfl, rfl, trivial⟩ ?_
    refine HQ.keepR [(2, _), (5, _), (3, _), (4, _)] ⟨rfl, rfl, rfl, rfl, trivial⟩ rfl ?_
    refine HQ.blkE ?_
    refine HQ.thenN ?_
    refine HQ.rseq ?_
    refine HQ.op [] [18] (OT.buildE (K := kTWet) sl28.ul sl28.szE sl28.zc rfl rfl) trivial trivial rfl rfl rfl rfl (fun _ => rfl) fun ⟨a106, c107⟩ => ?_
    refine HQ.pu (Pu.fieldB fo30_1 rfl) ⟨rfl, trivial⟩ rfl rfl rfl ?_
    refine HQ.opN [5] [5] [] (OT.storeC (cs' := [.slice a101 (List.length l100) c102, .slice a106 (List.length ([] : (List TWet))) c107, .int .i64 i103, .bool q104]) sz28 rfl rfl rfl rfl rfl) ⟨rfl, rfl, trivial⟩ ⟨rfl, trivial⟩ rfl rfl rfl (fun _ => rfl) fun _ => ?_
    refine HQ.done ?_
    refine HQ.keep [(2, _), (6, _), (7, _)] ⟨rfl, rfl, rfl, trivial⟩ ?_
    refine HQ.rseq ?_
    refine HQ.pu (Pu.fieldB fo30_3 rfl) ⟨rfl, trivial⟩ rfl rfl rfl ?_
    refine HQ.opN [5] [5] [] (OT.storeC (cs' := [.slice a101 (List.length l100) c102, .slice a106 (List.length ([] : (List TWet))) c107, .int .i64 i103, .bool false]) sz4 rfl rfl rfl rfl rfl) ⟨rfl, rfl, trivial⟩ ⟨rfl, trivial⟩ rfl rfl rfl (fun _ => rfl) fun _ => ?_
    refine HQ.done ?_
    refine HQ.keep [(2, _), (6, _), (7, _)] ⟨rfl, rfl, rfl, trivial⟩ ?_
    refine HQ.rseq ?_
    refine HQ.pu Pu.move ⟨rfl, trivial⟩ rfl rfl rfl ?_
    obtain ⟨t108, h109, H⟩ := bnd H
    refine HQ.op [] [] (OT.call (us := [_, _]) (Pre := []) [.const (.int .i64 (-1)), .tmp 65] Try.call57 rfl rfl fun w F hs hF hp => spec_Most_c h109) ⟨rfl, rfl, rfl, trivial⟩ trivial rfl rfl rfl rfl (fun _ => rfl) fun _ => ?_
    refine HQ.pu (Pu.fieldB fo30_2 rfl) ⟨rfl, trivial⟩ rfl rfl rfl ?_
    refine HQ.opN [5] [5] [] (OT.storeC (cs' := [.slice a101 (List.length l100) c102, .slice a106 (List.length ([] : (List TWet))) c107, .int .i64 t108, .bool false]) sz3 rfl rfl rfl rfl rfl) ⟨rfl, rfl, trivial⟩ ⟨rfl, trivial⟩ rfl rfl rfl (fun _ => rfl) fun _ => ?_
    refine HQ.done ?_
    refine HQ.keep [(6, _), (7, _)] ⟨rfl, rfl, trivial⟩ ?_
    refine HQ.rseq ?_
    refine HQ.op [5] [5] (OT.loadBA (vs := [.slice a101 (List.length l100) c102, .slice a106 (List.length ([] : (List TWet))) c107, .int .i64 t108, .bool false]) ag30 sz30 rfl rfl) ⟨rfl, trivial⟩ ⟨rfl, trivial⟩ rfl rfl rfl rfl (fun _ => rfl) fun _ => ?_
    refine HQ.opN [2] [2] [] (OT.storeC (cs' := [.slice a101 (List.length l100) c102, .slice a106 (List.length ([] : (List TWet))) c107, .int .i64 t108, .bool false]) sz30 rfl rfl rfl rfl rfl) ⟨rfl, rfl, trivial⟩ ⟨rfl, trivial⟩ rfl rfl rfl (fun _ => rfl) fun _ => ?_
    refine HQ.done ?_
    refine HQ.keep [(6, _)] ⟨rfl, trivial⟩ ?_
    refine HQ.ret ?_
    obtain rfl := Option.some.inj H
    exact HQ.fin (vs := [_]) Try.results16 ((a101, c102), (a106, c107)) ⟨⟨_, _, 2, rfl, rfl, ag30, sz30, rfl⟩, trivial⟩ rfl [3, 18] ⟨rfl, rfl, trivial⟩ rfl
  · exact fun r h a w hf => hf.elim

end Go.Proofs.Sx
