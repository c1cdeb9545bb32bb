import Derived.Test.YtkhommmhkeohbaaQcF3
import Derived.KernelRfl
namespace Go.Proofs.Sx
open Go.RowKit
set_option linter.unusedVariables false
set_option linter.unusedSimpArgs false
set_option maxRecDepth 20000
set_option maxHeartbeats 1000000
/-! spec.DiskNew -/
theorem spec_DiskNew_c {w : World}   {r : TDisk} (H : spec_DiskNew = some r) :
    Calls Try.prog 115 #[] w (Rt w Nil (fun g : (Option Addr × Nat) × (Option Addr × Nat) => .agg #[.slice g.1.1 (List.length r.Cells) g.1.2, .slice g.2.1 (List.length r.Wet) g.2.2, .int .i64 r.Fuse, .bool r.Dead]) (fun g => [OwnS kTCell g.1.1 g.1.2 r.Cells, OwnS kTWet g.2.1 g.2.2 r.Wet])) := by
  rw [spec_DiskNew] at H
  refine Calls.enter0 (N := 2) (us := []) Try.func115 rfl rfl rfl ?_
  refine HQ.rseq ?_
  refine HQ.op [] [1] (OT.alloc zc27) trivial trivial rfl rfl rfl rfl (fun _ => rfl) fun b1 => ?_
  refine HQ.done ?_
  refine HQ.keep [(0, _)] ⟨rfl, trivial⟩ ?_
  refine HQ.rseq ?_
  refine HQ.pu (Pu.build (us := [.int .i64 (-1)]) (cs := [.slice none 0 0, .slice none 0 0, .int .i64 (-1), .bool false]) [(2, .const (.int .i64 (-1)))] st27 rfl rfl rfl) ⟨rfl, trivial⟩ rfl rfl rfl ?_
  refine HQ.opN [1] [1] [] (OT.storeC (cs' := [.slice none 0 0, .slice none 0 0, .int .i64 (-1), .bool false]) sz27 rfl rfl rfl rfl rfl) ⟨rfl, rfl, trivial⟩ ⟨rfl, trivial⟩ rfl rfl rfl (fun _ => rfl) fun _ => ?_
  refine HQ.done ?_
  refine HQ.keep [(0, _)] ⟨rfl, trivial⟩ ?_
  refine HQ.ret ?_
  obtain rfl := Option.some.inj H
  refine HQ.nil kTCell 2 rfl ?_
  refine HQ.nil kTWet 3 rfl ?_
  exact HQ.fin (vs := [_]) Try.results115 ((none, 0), (none, 0)) ⟨⟨_, _, 1, rfl, rfl, ag27, sz27, rfl⟩, trivial⟩ rfl [2, 3] ⟨rfl, rfl, trivial⟩ rfl

/-! spec.l18Copy -/
theorem spec_l18Copy_c {w : World} {k : Nat} {p0 : TDisk} {a_0 : Option Addr} {c_0 : Nat} {a_1 : Option Addr} {c_1 : Nat} (hb_0 : BorS kTCell a_0 c_0 p0.Cells w.heap (Lt w Nil)) (hb_1 : BorS kTWet a_1 c_1 p0.Wet w.heap (Lt w Nil)) {r : TDisk} (H : spec_l18Copy k p0 = some r) :
    Calls Try.prog 90 #[.agg #[.slice a_0 (List.length p0.Cells) c_0, .slice a_1 (List.length p0.Wet) c_1, .int .i64 p0.Fuse, .bool p0.Dead]] w (Rt w Nil (fun g : (Option Addr × Nat) × (Option Addr × Nat) => .agg #[.slice g.1.1 (List.length r.Cells) g.1.2, .slice g.2.1 (List.length r.Wet) g.2.2, .int .i64 r.Fuse, .bool r.Dead]) (fun g => [OwnS kTCell g.1.1 g.1.2 r.Cells, OwnS kTWet g.2.1 g.2.2 r.Wet])) := by
  rw [spec_l18Copy] at H
  refine Calls.enter0 (N := 66) (us := [_]) Try.func90 rfl rfl rfl ?_
  refine HQ.rseq ?_
  refine HQ.op [] [1] (OT.box (cs := [.slice a_0 (List.length p0.Cells) c_0, .slice a_1 (List.length p0.Wet) c_1, .int .i64 p0.Fuse, .bool p0.Dead]) rfl) ⟨rfl, trivial⟩ trivial rfl rfl rfl rfl (fun _ => rfl) fun b1 => ?_
  refine HQ.op [] [2] (OT.alloc zc27) trivial trivial rfl rfl rfl rfl (fun _ => rfl) fun b2 => ?_
  refine HQ.done ?_
  refine HQ.keep [(1, _), (2, _)] ⟨rfl, rfl, trivial⟩ ?_
  refine HQ.rseq ?_
  refine HQ.pu (Pu.fieldB fo27_2 rfl) ⟨rfl, trivial⟩ rfl rfl rfl ?_
  refine HQ.op [1] [1] (OT.loadB sc3 rfl) ⟨rfl, trivial⟩ ⟨rfl, trivial⟩ rfl rfl rfl rfl (fun _ => rfl) fun _ => ?_
  refine HQ.pu (Pu.fieldB fo27_3 rfl) ⟨rfl, trivial⟩ rfl rfl rfl ?_
  refine HQ.op [1] [1] (OT.loadB sc4 rfl) ⟨rfl, trivial⟩ ⟨rfl, trivial⟩ rfl rfl rfl rfl (fun _ => rfl) fun _ => ?_
  refine HQ.pu (Pu.build (us := [.int .i64 p0.Fuse, .bool p0.Dead]) (cs := [.slice none 0 0, .slice none 0 0, .int .i64 p0.Fuse, .bool p0.Dead]) [(2, .tmp 7), (3, .tmp 9)] st27 rfl rfl rfl) ⟨rfl, rfl, trivial⟩ rfl rfl rfl ?_
  refine HQ.op [] [3] (OT.alloc zc27) trivial trivial rfl rfl rfl rfl (fun _ => rfl) fun b3 => ?_
  refine HQ.opN [3] [3] [] (OT.storeC (cs' := [.slice none 0 0, .slice none 0 0, .int .i64 p0.Fuse, .bool p0.Dead]) sz27 rfl rfl rfl rfl rfl) ⟨rfl, rfl, trivial⟩ ⟨rfl, trivial⟩ rfl rfl rfl (fun _ => rfl) fun _ => ?_
  refine HQ.done ?_
  refine HQ.keep [(1, _), (2, _), (3, _)] ⟨rfl, rfl, rfl, trivial⟩ ?_
  refine HQ.seq ?_
  refine HQ.rseq ?_
  refine HQ.pu Pu.assign ⟨rfl, trivial⟩ rfl rfl rfl ?_
  refine HQ.done ?_
  refine HQ.keep [(1, _), (2, _), (3, _), (4, _)] ⟨rfl, rfl, rfl, rfl, trivial⟩ ?_
  refine HQ.block ?_
  refine HQ.nil kTCell 7 rfl ?_
  obtain ⟨o71, h149, H⟩ := bnd H
  refine HQ.loop h149 0 (fun (s : Int × (List TCell)) (g : Option Addr × Nat) => match s, g with | (i25, l26), (a27, c28) => [(1, BP b1 0), (2, BP b2 0), (3, BP b3 0), (4, .int .i64 i25)]) (fun (s : Int × (List TCell)) (g : Option Addr × Nat) => match s, g with | (i25, l26), (a27, c28) => [(1, Box b1 [.slice a_0 (List.length p0.Cells) c_0, .slice a_1 (List.length p0.Wet) c_1, .int .i64 p0.Fuse, .bool p0.Dead]), (2, Box b2 [.slice none 0 0, .slice none 0 0, .int .i64 0, .bool false]), (3, Box b3 [.slice a27 (List.length l26) c28, .slice none 0 0, .int .i64 p0.Fuse, .bool p0.Dead]), (7, OwnS kTCell a27 c28 l26)]) (fun _ _ _ => False) (none, 0) ⟨rfl, rfl, rfl, rfl, trivial⟩ ⟨rfl, rfl, rfl, rfl, trivial⟩ rfl ?_ ?_ ?_
  · clear H h149
    rintro ⟨i25, l26⟩ ⟨a27, c28⟩ o H
    rw [spec_l18Copy_b0] at H
    refine HQ.keep [(1, _), (2, _), (3, _), (4, _)] ⟨rfl, rfl, rfl, rfl, trivial⟩ ?_
    refine HQ.keepR [(1, _), (2, _), (3, _), (7, _)] ⟨rfl, rfl, rfl, rfl, trivial⟩ rfl ?_
    refine HQ.seq ?_
    refine HQ.rseq ?_
    refine HQ.pu Pu.move ⟨rfl, trivial⟩ rfl rfl rfl ?_
    refine HQ.pu (Pu.fieldB fo27_0 rfl) ⟨rfl, trivial⟩ rfl rfl rfl ?_
    refine HQ.op [1] [1] (OT.loadB sc24 rfl) ⟨rfl, trivial⟩ ⟨rfl, trivial⟩ rfl rfl rfl rfl (fun _ => rfl) fun _ => ?_
    refine HQ.pu (Pu.len ul24) ⟨rfl, trivial⟩ rfl rfl rfl ?_
    refine HQ.pu Pu.lss ⟨rfl, rfl, trivial⟩ rfl rfl rfl ?_
    refine HQ.done ?_
    refine HQ.keep [(1, _), (2, _), (3, _), (4, _), (15, _)] ⟨rfl, rfl, rfl, rfl, rfl, trivial⟩ ?_
    rcases brk H with ⟨hc, H⟩ | ⟨hc, H⟩
    · refine HQ.condT rfl hc ?_
      clear hc
      refine HQ.skipThen ?_
      refine HQ.seq ?_
      refine HQ.block ?_
      refine HQ.dStart mixd ?_
      obtain ⟨h51, H⟩ := asr H
      obtain ⟨h58, H⟩ := asr H
      obtain ⟨h65, H⟩ := asr H
      obtain ⟨⟨a52, c53⟩, hb54, hn55⟩ := BorS.nest hb_0 h51
      obtain ⟨⟨a59, c60⟩, hb61, hn62⟩ := BorS.nest hb_0 h58
      refine HQ.dPart [(1, BP b1 0), (2, BP b2 0), (3, BP b3 0), (4, .int .i64 i25)] 18 [⟨[], [], []⟩, ⟨[0], [0], [0]⟩, ⟨[], [], []⟩, ⟨[1], [1], [2]⟩, ⟨[], [], []⟩, ⟨[], [], [3, 4]⟩, ⟨[], [], [5]⟩, ⟨[], [], [6]⟩, ⟨[], [2], []⟩, ⟨[], [], []⟩, ⟨[1], [1], [9]⟩, ⟨[], [], []⟩, ⟨[], [], [10, 11]⟩, ⟨[], [], [12]⟩, ⟨[], [], [13]⟩, ⟨[2], [3], [8, 14]⟩, ⟨[], [], [7, 15]⟩, ⟨[3], [4], [16]⟩] [⟨none, none⟩, ⟨none, none⟩, ⟨some 8, some 15⟩, ⟨some 15, some 17⟩, ⟨some 17, none⟩] (fun (g50 : (Option Addr × Nat) × (Option Addr × Nat) × (Option Addr × Nat)) => [BP b3 0, .slice a27 (List.length l26) c28, BP b1 0, .slice a_0 (List.length p0.Cells) c_0, .int .i64 i25, EP a_0 i25 2 0, EP a_0 i25 2 0, .bool ((gt p0.Cells i25).Bad), .slice g50.1.1 (List.length ([] : (List Int))) g50.1.2, BP b1 0, .slice a_0 (List.length p0.Cells) c_0, .int .i64 i25, EP a_0 i25 2 0, EP a_0 i25 2 1, .slice a59 (List.length ((gt p0.Cells i25).B)) c60, .slice g50.2.1.1 (List.length (([] : (List Int)) ++ ((gt p0.Cells i25).B))) g50.2.1.2, .agg #[.bool ((gt p0.Cells i25).Bad), .slice g50.2.1.1 (List.length (([] : (List Int)) ++ ((gt p0.Cells i25).B))) g50.2.1.2], .slice g50.2.2.1 (List.length ([(⟨(gt p0.Cells i25).Bad, (([] : (List Int)) ++ ((gt p0.Cells i25).B))⟩ : TCell)] : (List TCell))) g50.2.2.2]) (fun (g50 : (Option Addr × Nat) × (Option Addr × Nat) × (Option Addr × Nat)) => [Box b3 [.slice a27 (List.length l26) c28, .slice none 0 0, .int .i64 p0.Fuse, .bool p0.Dead], Box b1 [.slice a_0 (List.length p0.Cells) c_0, .slice a_1 (List.length p0.Wet) c_1, .int .i64 p0.Fuse, .bool p0.Dead], OwnS kU8 g50.1.1 g50.1.2 ([] : (List Int)), OwnS kU8 g50.2.1.1 g50.2.1.2 (([] : (List Int)) ++ ((gt p0.Cells i25).B)), OwnS kTCell g50.2.2.1 g50.2.2.2 ([(⟨(gt p0.Cells i25).Bad, (([] : (List Int)) ++ ((gt p0.Cells i25).B))⟩ : TCell)] : (List TCell))]) ((none, 0), (none, 0), (none, 0)) [3, 1] [3, 1, 11] [] ⟨rfl, rfl, rfl, rfl, trivial⟩ ⟨rfl, rfl, trivial⟩ rfl (by kernel_rfl) (by kernel_rfl) (fun _ => rfl) (by kernel_rfl) (fun _ => rfl) rfl ⟨?_, ?_, ?_, ?_, ?_, ?_, ?_, ?_, ?_, ?_, ?_, ?_, ?_, ?_, ?_, ?_, ?_, ?_, trivial⟩ fun g50 => ?_
      · exact OpOK2.of (fun g50 => [(.tmp 3, BP b3 0)]) _ _ (fun g50 _ => g50) rfl rfl (fun _ => ⟨rfl, trivial⟩) (fun g50 => Pu.toOT (Pu.fieldB fo27_0 rfl)) (fun _ _ => ⟨rfl, rfl, ⟨rfl, rfl, rfl, rfl, rfl, trivial⟩⟩)
      · exact OpOK2.of (fun g50 => [(.tmp 18, BP b3 0)]) _ _ (fun g50 _ => g50) rfl rfl (fun _ => ⟨rfl, trivial⟩) (fun g50 => OT.loadB sc24 rfl) (fun _ _ => ⟨rfl, rfl, ⟨rfl, rfl, rfl, rfl, rfl, trivial⟩⟩)
      · exact OpOK2.of (fun g50 => [(.tmp 1, BP b1 0)]) _ _ (fun g50 _ => g50) rfl rfl (fun _ => ⟨rfl, trivial⟩) (fun g50 => Pu.toOT (Pu.fieldB fo27_0 rfl)) (fun _ _ => ⟨rfl, rfl, ⟨rfl, rfl, rfl, rfl, rfl, trivial⟩⟩)
      · exact OpOK2.of (fun g50 => [(.tmp 20, BP b1 0)]) _ _ (fun g50 _ => g50) rfl rfl (fun _ => ⟨rfl, trivial⟩) (fun g50 => OT.loadB sc24 rfl) (fun _ _ => ⟨rfl, rfl, ⟨rfl, rfl, rfl, rfl, rfl, trivial⟩⟩)
      · exact OpOK2.of (fun g50 => [(.tmp 4, .int .i64 i25)]) _ _ (fun g50 _ => g50) rfl rfl (fun _ => ⟨rfl, trivial⟩) (fun g50 => Pu.toOT Pu.move) (fun _ _ => ⟨rfl, rfl, ⟨rfl, rfl, rfl, rfl, rfl, trivial⟩⟩)
      · exact OpOK2.of (fun g50 => [(.tmp 21, .slice a_0 (List.length p0.Cells) c_0), (.tmp 22, .int .i64 i25)]) _ _ (fun g50 _ => g50) rfl rfl (fun _ => ⟨rfl, rfl, trivial⟩) (fun g50 => OT.indexB ul24 sz113 hb_0 h51) (fun _ _ => ⟨rfl, rfl, ⟨rfl, rfl, rfl, rfl, rfl, trivial⟩⟩)
      · exact OpOK2.of (fun g50 => [(.tmp 23, EP a_0 i25 2 0)]) _ _ (fun g50 _ => g50) rfl rfl (fun _ => ⟨rfl, trivial⟩) (fun g50 => Pu.toOT (Pu.fieldE fo113_0 rfl)) (fun _ _ => ⟨rfl, rfl, ⟨rfl, rfl, rfl, rfl, rfl, trivial⟩⟩)
      · exact OpOK2.of (fun g50 => [(.tmp 24, EP a_0 i25 2 0)]) _ _ (fun g50 _ => g50) rfl rfl (fun _ => ⟨rfl, trivial⟩) (fun g50 => OT.loadN (v := .bool ((gt p0.Cells i25).Bad)) sc4 hn55 hlTCell rfl) (fun _ _ => ⟨rfl, rfl, ⟨rfl, rfl, rfl, rfl, rfl, trivial⟩⟩)
      · exact OpOK2.of (fun g50 => []) _ _ (fun g50 x => (x, g50.2.1, g50.2.2)) rfl rfl (fun _ => trivial) (fun g50 => OT.buildF (us := []) (ys := ([] : (List Int))) (enc := (encI .u8)) (hl := fun _ => ⟨rfl, rfl⟩) [] sl22.ul sl22.szE sl22.zc rfl rfl rfl rfl rfl) (fun _ _ => ⟨rfl, rfl, ⟨rfl, rfl, rfl, rfl, rfl, trivial⟩⟩)
      · exact OpOK2.of (fun g50 => [(.tmp 1, BP b1 0)]) _ _ (fun g50 _ => g50) rfl rfl (fun _ => ⟨rfl, trivial⟩) (fun g50 => Pu.toOT (Pu.fieldB fo27_0 rfl)) (fun _ _ => ⟨rfl, rfl, ⟨rfl, rfl, rfl, rfl, rfl, trivial⟩⟩)
      · exact OpOK2.of (fun g50 => [(.tmp 27, BP b1 0)]) _ _ (fun g50 _ => g50) rfl rfl (fun _ => ⟨rfl, trivial⟩) (fun g50 => OT.loadB sc24 rfl) (fun _ _ => ⟨rfl, rfl, ⟨rfl, rfl, rfl, rfl, rfl, trivial⟩⟩)
      · exact OpOK2.of (fun g50 => [(.tmp 4, .int .i64 i25)]) _ _ (fun g50 _ => g50) rfl rfl (fun _ => ⟨rfl, trivial⟩) (fun g50 => Pu.toOT Pu.move) (fun _ _ => ⟨rfl, rfl, ⟨rfl, rfl, rfl, rfl, rfl, trivial⟩⟩)
      · exact OpOK2.of (fun g50 => [(.tmp 28, .slice a_0 (List.length p0.Cells) c_0), (.tmp 29, .int .i64 i25)]) _ _ (fun g50 _ => g50) rfl rfl (fun _ => ⟨rfl, rfl, trivial⟩) (fun g50 => OT.indexB ul24 sz113 hb_0 h58) (fun _ _ => ⟨rfl, rfl, ⟨rfl, rfl, rfl, rfl, rfl, trivial⟩⟩)
      · exact OpOK2.of (fun g50 => [(.tmp 30, EP a_0 i25 2 0)]) _ _ (fun g50 _ => g50) rfl rfl (fun _ => ⟨rfl, trivial⟩) (fun g50 => Pu.toOT (Pu.fieldE fo113_1 rfl)) (fun _ _ => ⟨rfl, rfl, ⟨rfl, rfl, rfl, rfl, rfl, trivial⟩⟩)
      · exact OpOK2.of (fun g50 => [(.tmp 31, EP a_0 i25 2 1)]) _ _ (fun g50 _ => g50) rfl rfl (fun _ => ⟨rfl, trivial⟩) (fun g50 => OT.loadN (v := .slice a59 (List.length ((gt p0.Cells i25).B)) c60) sc22 hn62 hlTCell rfl) (fun _ _ => ⟨rfl, rfl, ⟨rfl, rfl, rfl, rfl, rfl, trivial⟩⟩)
      · exact OpOK2.ofD [16] (by kernel_rfl) (fun g50 => [(.tmp 26, .slice g50.1.1 (List.length ([] : (List Int))) g50.1.2), (.tmp 32, .slice a59 (List.length ((gt p0.Cells i25).B)) c60)]) _ _ (fun g50 x => (g50.1, x, g50.2.2)) rfl rfl (fun _ => ⟨rfl, rfl, trivial⟩) (fun g50 => OT.appendF (enc := (encI .u8)) (hl := fun _ => ⟨rfl, rfl⟩) sl22 ul22 hb61 h65) (fun _ _ => ⟨⟨rfl, rfl, rfl, rfl, rfl, rfl, rfl, rfl, rfl, rfl, rfl, rfl, rfl, rfl, rfl, rfl, trivial, rfl, trivial⟩, rfl, ⟨rfl, rfl, rfl, rfl, rfl, trivial⟩⟩)
      · exact OpOK2.of (fun g50 => [(.tmp 25, .bool ((gt p0.Cells i25).Bad)), (.tmp 33, .slice g50.2.1.1 (List.length (([] : (List Int)) ++ ((gt p0.Cells i25).B))) g50.2.1.2)]) _ _ (fun g50 _ => g50) rfl rfl (fun _ => ⟨rfl, rfl, trivial⟩) (fun g50 => Pu.toOT (Pu.build (us := [.bool ((gt p0.Cells i25).Bad), .slice g50.2.1.1 (List.length (([] : (List Int)) ++ ((gt p0.Cells i25).B))) g50.2.1.2]) (cs := [.bool ((gt p0.Cells i25).Bad), .slice g50.2.1.1 (List.length (([] : (List Int)) ++ ((gt p0.Cells i25).B))) g50.2.1.2]) [(0, .tmp 25), (1, .tmp 33)] st113 rfl rfl rfl)) (fun _ _ => ⟨rfl, rfl, ⟨rfl, rfl, rfl, rfl, rfl, trivial⟩⟩)
      · exact OpOK2.of (fun g50 => [(.tmp 34, .agg #[.bool ((gt p0.Cells i25).Bad), .slice g50.2.1.1 (List.length (([] : (List Int)) ++ ((gt p0.Cells i25).B))) g50.2.1.2])]) _ _ (fun g50 x => (g50.1, g50.2.1, x)) rfl rfl (fun _ => ⟨rfl, trivial⟩) (fun g50 => OT.buildO (u := .agg #[.bool ((gt p0.Cells i25).Bad), .slice g50.2.1.1 (List.length (([] : (List Int)) ++ ((gt p0.Cells i25).B))) g50.2.1.2]) (enc := encTCell) (hl := hlTCell) (sub := fun (x : TCell) => x.B) (.tmp 34) (⟨(gt p0.Cells i25).Bad, (([] : (List Int)) ++ ((gt p0.Cells i25).B))⟩ : TCell) sl24.ul sl24.szE sl24.zc rfl rfl rfl rfl) (fun _ _ => ⟨rfl, rfl, ⟨rfl, rfl, rfl, rfl, rfl, trivial⟩⟩)
      refine HQ.keep [(1, _), (2, _), (3, _), (4, _), (19, _), (35, _)] ⟨rfl, rfl, rfl, rfl, rfl, rfl, trivial⟩ ?_
      refine HQ.keepR [(1, _), (2, _), (3, _), (7, _), (11, _)] ⟨rfl, rfl, rfl, rfl, rfl, trivial⟩ rfl ?_
      refine HQ.dRun 3 rfl rfl (by kernel_rfl) (by kernel_rfl) ?_
      obtain ⟨h70, H⟩ := asr H
      refine HQ.opD [7, 11] [7] [11] (OT.appendO (K := kTCell) sl24 ul24 h70) ⟨rfl, rfl, trivial⟩ ⟨rfl, rfl, trivial⟩ rfl rfl rfl rfl (fun _ => rfl) fun ⟨a68, c69⟩ => ?_
      refine HQ.pu (Pu.fieldB fo27_0 rfl) ⟨rfl, trivial⟩ rfl rfl rfl ?_
      refine HQ.opN [3] [3] [] (OT.storeC (cs' := [.slice a68 (List.length (l26 ++ ([(⟨(gt p0.Cells i25).Bad, (([] : (List Int)) ++ ((gt p0.Cells i25).B))⟩ : TCell)] : (List TCell)))) c69, .slice none 0 0, .int .i64 p0.Fuse, .bool p0.Dead]) sz24 rfl rfl rfl rfl rfl) ⟨rfl, rfl, trivial⟩ ⟨rfl, trivial⟩ rfl rfl rfl (fun _ => rfl) fun _ => ?_
      refine HQ.done ?_
      refine HQ.dEnd rfl ?_
      refine HQ.keep [(1, _), (2, _), (3, _), (4, _)] ⟨rfl, rfl, rfl, rfl, trivial⟩ ?_
      refine HQ.blkN ?_
      refine HQ.thenN ?_
      refine HQ.regionQ ?_
      refine HQ.pu Pu.move ⟨rfl, trivial⟩ rfl rfl rfl ?_
      refine HQ.pu Pu.add ⟨rfl, rfl, trivial⟩ rfl rfl rfl ?_
      refine HQ.pu Pu.assign ⟨rfl, trivial⟩ rfl rfl rfl ?_
      refine HQ.done ?_
      refine HQ.keep [(1, _), (2, _), (3, _), (4, _)] ⟨rfl, rfl, rfl, rfl, trivial⟩ ?_
      obtain rfl := Option.some.inj H
      exact HQ.next (a68, c69) ⟨rfl, rfl, rfl, rfl, trivial⟩ ⟨rfl, rfl, rfl, rfl, trivial⟩ rfl
    · refine HQ.condF rfl hc ?_
      clear hc
      refine HQ.exit ?_
      refine HQ.thenE ?_
      obtain rfl := Option.some.inj H
      exact HQ.out (a27, c28) ⟨rfl, rfl, rfl, rfl, trivial⟩ ⟨rfl, rfl, rfl, rfl, trivial⟩ rfl
  · rintro ⟨i72, l73⟩ rfl ⟨a74, c75⟩
    clear h149
    replace H := H
    refine HQ.keep [(1, _), (2, _), (3, _), (4, _)] ⟨rfl, rfl, rfl, rfl, trivial⟩ ?_
    refine HQ.keepR [(1, _), (2, _), (3, _), (7, _)] ⟨rfl, rfl, rfl, rfl, trivial⟩ rfl ?_
    refine HQ.blkE ?_
    refine HQ.thenN ?_
    refine HQ.seq ?_
    refine HQ.rseq ?_
    refine HQ.pu Pu.assign ⟨rfl, trivial⟩ rfl rfl rfl ?_
    refine HQ.done ?_
    refine HQ.keep [(1, _), (2, _), (3, _), (5, _)] ⟨rfl, rfl, rfl, rfl, trivial⟩ ?_
    refine HQ.block ?_
    refine HQ.nil kTWet 15 rfl ?_
    obtain ⟨o143, h148, H⟩ := bnd H
    refine HQ.loop h148 2 (fun (s : Int × (List TWet)) (g : Option Addr × Nat) => match s, g with | (i97, l98), (a99, c100) => [(1, BP b1 0), (2, BP b2 0), (3, BP b3 0), (5, .int .i64 i97)]) (fun (s : Int × (List TWet)) (g : Option Addr × Nat) => match s, g with | (i97, l98), (a99, c100) => [(1, Box b1 [.slice a_0 (List.length p0.Cells) c_0, .slice a_1 (List.length p0.Wet) c_1, .int .i64 p0.Fuse, .bool p0.Dead]), (2, Box b2 [.slice none 0 0, .slice none 0 0, .int .i64 0, .bool false]), (3, Box b3 [.slice a74 (List.length l73) c75, .slice a99 (List.length l98) c100, .int .i64 p0.Fuse, .bool p0.Dead]), (7, OwnS kTCell a74 c75 l73), (15, OwnS kTWet a99 c100 l98)]) (fun _ _ _ => False) (none, 0) ⟨rfl, rfl, rfl, rfl, trivial⟩ ⟨rfl, rfl, rfl, rfl, rfl, trivial⟩ rfl ?_ ?_ ?_
    · clear H h148
      rintro ⟨i97, l98⟩ ⟨a99, c100⟩ o H
      rw [spec_l18Copy_b1] at H
      refine HQ.keep [(1, _), (2, _), (3, _), (5, _)] ⟨rfl, rfl, rfl, rfl, trivial⟩ ?_
      refine HQ.keepR [(1, _), (2, _), (3, _), (7, _), (15, _)] ⟨rfl, rfl, rfl, rfl, rfl, trivial⟩ rfl ?_
      refine HQ.seq ?_
      refine HQ.rseq ?_
      refine HQ.pu Pu.move ⟨rfl, trivial⟩ rfl rfl rfl ?_
      refine HQ.pu (Pu.fieldB fo27_1 rfl) ⟨rfl, trivial⟩ rfl rfl rfl ?_
      refine HQ.op [1] [1] (OT.loadB sc25 rfl) ⟨rfl, trivial⟩ ⟨rfl, trivial⟩ rfl rfl rfl rfl (fun _ => rfl) fun _ => ?_
      refine HQ.pu (Pu.len ul25) ⟨rfl, trivial⟩ rfl rfl rfl ?_
      refine HQ.pu Pu.lss ⟨rfl, rfl, trivial⟩ rfl rfl rfl ?_
      refine HQ.done ?_
      refine HQ.keep [(1, _), (2, _), (3, _), (5, _), (42, _)] ⟨rfl, rfl, rfl, rfl, rfl, trivial⟩ ?_
      rcases brk H with ⟨hc, H⟩ | ⟨hc, H⟩
      · refine HQ.condT rfl hc ?_
        clear hc
        refine HQ.skipThen ?_
        refine HQ.seq ?_
        refine HQ.block ?_
        refine HQ.dStart mixd ?_
        obtain ⟨h123, H⟩ := asr H
        obtain ⟨h130, H⟩ := asr H
        obtain ⟨h137, H⟩ := asr H
        obtain ⟨⟨a124, c125⟩, hb126, hn127⟩ := BorS.nest hb_1 h123
        obtain ⟨⟨a131, c132⟩, hb133, hn134⟩ := BorS.nest hb_1 h130
        refine HQ.dPart [(1, BP b1 0), (2, BP b2 0), (3, BP b3 0), (5, .int .i64 i97)] 18 [⟨[], [], []⟩, ⟨[0], [0], [0]⟩, ⟨[], [], []⟩, ⟨[1], [1], [2]⟩, ⟨[], [], []⟩, ⟨[], [], [3, 4]⟩, ⟨[], [], [5]⟩, ⟨[], [], [6]⟩, ⟨[], [2], []⟩, ⟨[], [], []⟩, ⟨[1], [1], [9]⟩, ⟨[], [], []⟩, ⟨[], [], [10, 11]⟩, ⟨[], [], [12]⟩, ⟨[], [], [13]⟩, ⟨[2], [3], [8, 14]⟩, ⟨[], [], [7, 15]⟩, ⟨[3], [4], [16]⟩] [⟨none, none⟩, ⟨none, none⟩, ⟨some 8, some 15⟩, ⟨some 15, some 17⟩, ⟨some 17, none⟩] (fun (g122 : (Option Addr × Nat) × (Option Addr × Nat) × (Option Addr × Nat)) => [BP b3 1, .slice a99 (List.length l98) c100, BP b1 1, .slice a_1 (List.length p0.Wet) c_1, .int .i64 i97, EP a_1 i97 2 0, EP a_1 i97 2 0, .int .i64 ((gt p0.Wet i97).At), .slice g122.1.1 (List.length ([] : (List Int))) g122.1.2, BP b1 1, .slice a_1 (List.length p0.Wet) c_1, .int .i64 i97, EP a_1 i97 2 0, EP a_1 i97 2 1, .slice a131 (List.length ((gt p0.Wet i97).B)) c132, .slice g122.2.1.1 (List.length (([] : (List Int)) ++ ((gt p0.Wet i97).B))) g122.2.1.2, .agg #[.int .i64 ((gt p0.Wet i97).At), .slice g122.2.1.1 (List.length (([] : (List Int)) ++ ((gt p0.Wet i97).B))) g122.2.1.2], .slice g122.2.2.1 (List.length ([(⟨(gt p0.Wet i97).At, (([] : (List Int)) ++ ((gt p0.Wet i97).B))⟩ : TWet)] : (List TWet))) g122.2.2.2]) (fun (g122 : (Option Addr × Nat) × (Option Addr × Nat) × (Option Addr × Nat)) => [Box b3 [.slice a74 (List.length l73) c75, .slice a99 (List.length l98) c100, .int .i64 p0.Fuse, .bool p0.Dead], Box b1 [.slice a_0 (List.length p0.Cells) c_0, .slice a_1 (List.length p0.Wet) c_1, .int .i64 p0.Fuse, .bool p0.Dead], OwnS kU8 g122.1.1 g122.1.2 ([] : (List Int)), OwnS kU8 g122.2.1.1 g122.2.1.2 (([] : (List Int)) ++ ((gt p0.Wet i97).B)), OwnS kTWet g122.2.2.1 g122.2.2.2 ([(⟨(gt p0.Wet i97).At, (([] : (List Int)) ++ ((gt p0.Wet i97).B))⟩ : TWet)] : (List TWet))]) ((none, 0), (none, 0), (none, 0)) [3, 1] [3, 1, 19] [] ⟨rfl, rfl, rfl, rfl, trivial⟩ ⟨rfl, rfl, trivial⟩ rfl (by kernel_rfl) (by kernel_rfl) (fun _ => rfl) (by kernel_rfl) (fun _ => rfl) rfl ⟨?_, ?_, ?_, ?_, ?_, ?_, ?_, ?_, ?_, ?_, ?_, ?_, ?_, ?_, ?_, ?_, ?_, ?_, trivial⟩ fun g122 => ?_
        · exact OpOK2.of (fun g122 => [(.tmp 3, BP b3 0)]) _ _ (fun g122 _ => g122) rfl rfl (fun _ => ⟨rfl, trivial⟩) (fun g122 => Pu.toOT (Pu.fieldB fo27_1 rfl)) (fun _ _ => ⟨rfl, rfl, ⟨rfl, rfl, rfl, rfl, rfl, trivial⟩⟩)
        · exact OpOK2.of (fun g122 => [(.tmp 45, BP b3 1)]) _ _ (fun g122 _ => g122) rfl rfl (fun _ => ⟨rfl, trivial⟩) (fun g122 => OT.loadB sc25 rfl) (fun _ _ => ⟨rfl, rfl, ⟨rfl, rfl, rfl, rfl, rfl, trivial⟩⟩)
        · exact OpOK2.of (fun g122 => [(.tmp 1, BP b1 0)]) _ _ (fun g122 _ => g122) rfl rfl (fun _ => ⟨rfl, trivial⟩) (fun g122 => Pu.toOT (Pu.fieldB fo27_1 rfl)) (fun _ _ => ⟨rfl, rfl, ⟨rfl, rfl, rfl, rfl, rfl, trivial⟩⟩)
        · exact OpOK2.of (fun g122 => [(.tmp 47, BP b1 1)]) _ _ (fun g122 _ => g122) rfl rfl (fun _ => ⟨rfl, trivial⟩) (fun g122 => OT.loadB sc25 rfl) (fun _ _ => ⟨rfl, rfl, ⟨rfl, rfl, rfl, rfl, rfl, trivial⟩⟩)
        · exact OpOK2.of (fun g122 => [(.tmp 5, .int .i64 i97)]) _ _ (fun g122 _ => g122) rfl rfl (fun _ => ⟨rfl, trivial⟩) (fun g122 => Pu.toOT Pu.move) (fun _ _ => ⟨rfl, rfl, ⟨rfl, rfl, rfl, rfl, rfl, trivial⟩⟩)
        · exact OpOK2.of (fun g122 => [(.tmp 48, .slice a_1 (List.length p0.Wet) c_1), (.tmp 49, .int .i64 i97)]) _ _ (fun g122 _ => g122) rfl rfl (fun _ => ⟨rfl, rfl, trivial⟩) (fun g122 => OT.indexB ul25 sz110 hb_1 h123) (fun _ _ => ⟨rfl, rfl, ⟨rfl, rfl, rfl, rfl, rfl, trivial⟩⟩)
        · exact OpOK2.of (fun g122 => [(.tmp 50, EP a_1 i97 2 0)]) _ _ (fun g122 _ => g122) rfl rfl (fun _ => ⟨rfl, trivial⟩) (fun g122 => Pu.toOT (Pu.fieldE fo110_0 rfl)) (fun _ _ => ⟨rfl, rfl, ⟨rfl, rfl, rfl, rfl, rfl, trivial⟩⟩)
        · exact OpOK2.of (fun g122 => [(.tmp 51, EP a_1 i97 2 0)]) _ _ (fun g122 _ => g122) rfl rfl (fun _ => ⟨rfl, trivial⟩) (fun g122 => OT.loadN (v := .int .i64 ((gt p0.Wet i97).At)) sc3 hn127 hlTWet rfl) (fun _ _ => ⟨rfl, rfl, ⟨rfl, rfl, rfl, rfl, rfl, trivial⟩⟩)
        · exact OpOK2.of (fun g122 => []) _ _ (fun g122 x => (x, g122.2.1, g122.2.2)) rfl rfl (fun _ => trivial) (fun g122 => OT.buildF (us := []) (ys := ([] : (List Int))) (enc := (encI .u8)) (hl := fun _ => ⟨rfl, rfl⟩) [] sl22.ul sl22.szE sl22.zc rfl rfl rfl rfl rfl) (fun _ _ => ⟨rfl, rfl, ⟨rfl, rfl, rfl, rfl, rfl, trivial⟩⟩)
        · exact OpOK2.of (fun g122 => [(.tmp 1, BP b1 0)]) _ _ (fun g122 _ => g122) rfl rfl (fun _ => ⟨rfl, trivial⟩) (fun g122 => Pu.toOT (Pu.fieldB fo27_1 rfl)) (fun _ _ => ⟨rfl, rfl, ⟨rfl, rfl, rfl, rfl, rfl, trivial⟩⟩)
        · exact OpOK2.of (fun g122 => [(.tmp 54, BP b1 1)]) _ _ (fun g122 _ => g122) rfl rfl (fun _ => ⟨rfl, trivial⟩) (fun g122 => OT.loadB sc25 rfl) (fun _ _ => ⟨rfl, rfl, ⟨rfl, rfl, rfl, rfl, rfl, trivial⟩⟩)
        · exact OpOK2.of (fun g122 => [(.tmp 5, .int .i64 i97)]) _ _ (fun g122 _ => g122) rfl rfl (fun _ => ⟨rfl, trivial⟩) (fun g122 => Pu.toOT Pu.move) (fun _ _ => ⟨rfl, rfl, ⟨rfl, rfl, rfl, rfl, rfl, trivial⟩⟩)
        · exact OpOK2.of (fun g122 => [(.tmp 55, .slice a_1 (List.length p0.Wet) c_1), (.tmp 56, .int .i64 i97)]) _ _ (fun g122 _ => g122) rfl rfl (fun _ => ⟨rfl, rfl, trivial⟩) (fun g122 => OT.indexB ul25 sz110 hb_1 h130) (fun _ _ => ⟨rfl, rfl, ⟨rfl, rfl, rfl, rfl, rfl, trivial⟩⟩)
        · exact OpOK2.of (fun g122 => [(.tmp 57, EP a_1 i97 2 0)]) _ _ (fun g122 _ => g122) rfl rfl (fun _ => ⟨rfl, trivial⟩) (fun g122 => Pu.toOT (Pu.fieldE fo110_1 rfl)) (fun _ _ => ⟨rfl, rfl, ⟨rfl, rfl, rfl, rfl, rfl, trivial⟩⟩)
        · exact OpOK2.of (fun g122 => [(.tmp 58, EP a_1 i97 2 1)]) _ _ (fun g122 _ => g122) rfl rfl (fun _ => ⟨rfl, trivial⟩) (fun g122 => OT.loadN (v := .slice a131 (List.length ((gt p0.Wet i97).B)) c132) sc22 hn134 hlTWet rfl) (fun _ _ => ⟨rfl, rfl, ⟨rfl, rfl, rfl, rfl, rfl, trivial⟩⟩)
        · exact OpOK2.ofD [16] (by kernel_rfl) (fun g122 => [(.tmp 53, .slice g122.1.1 (List.length ([] : (List Int))) g122.1.2), (.tmp 59, .slice a131 (List.length ((gt p0.Wet i97).B)) c132)]) _ _ (fun g122 x => (g122.1, x, g122.2.2)) rfl rfl (fun _ => ⟨rfl, rfl, trivial⟩) (fun g122 => OT.appendF (enc := (encI .u8)) (hl := fun _ => ⟨rfl, rfl⟩) sl22 ul22 hb133 h137) (fun _ _ => ⟨⟨rfl, rfl, rfl, rfl, rfl, rfl, rfl, rfl, rfl, rfl, rfl, rfl, rfl, rfl, rfl, rfl, trivial, rfl, trivial⟩, rfl, ⟨rfl, rfl, rfl, rfl, rfl, trivial⟩⟩)
        · exact OpOK2.of (fun g122 => [(.tmp 52, .int .i64 ((gt p0.Wet i97).At)), (.tmp 60, .slice g122.2.1.1 (List.length (([] : (List Int)) ++ ((gt p0.Wet i97).B))) g122.2.1.2)]) _ _ (fun g122 _ => g122) rfl rfl (fun _ => ⟨rfl, rfl, trivial⟩) (fun g122 => Pu.toOT (Pu.build (us := [.int .i64 ((gt p0.Wet i97).At), .slice g122.2.1.1 (List.length (([] : (List Int)) ++ ((gt p0.Wet i97).B))) g122.2.1.2]) (cs := [.int .i64 ((gt p0.Wet i97).At), .slice g122.2.1.1 (List.length (([] : (List Int)) ++ ((gt p0.Wet i97).B))) g122.2.1.2]) [(0, .tmp 52), (1, .tmp 60)] st110 rfl rfl rfl)) (fun _ _ => ⟨rfl, rfl, ⟨rfl, rfl, rfl, rfl, rfl, trivial⟩⟩)
        · exact OpOK2.of (fun g122 => [(.tmp 61, .agg #[.int .i64 ((gt p0.Wet i97).At), .slice g122.2.1.1 (List.length (([] : (List Int)) ++ ((gt p0.Wet i97).B))) g122.2.1.2])]) _ _ (fun g122 x => (g122.1, g122.2.1, x)) rfl rfl (fun _ => ⟨rfl, trivial⟩) (fun g122 => OT.buildO (u := .agg #[.int .i64 ((gt p0.Wet i97).At), .slice g122.2.1.1 (List.length (([] : (List Int)) ++ ((gt p0.Wet i97).B))) g122.2.1.2]) (enc := encTWet) (hl := hlTWet) (sub := fun (x : TWet) => x.B) (.tmp 61) (⟨(gt p0.Wet i97).At, (([] : (List Int)) ++ ((gt p0.Wet i97).B))⟩ : TWet) sl25.ul sl25.szE sl25.zc rfl rfl rfl rfl) (fun _ _ => ⟨rfl, rfl, ⟨rfl, rfl, rfl, rfl, rfl, trivial⟩⟩)
        refine HQ.keep [(1, _), (2, _), (3, _), (5, _), (46, _), (62, _)] ⟨rfl, rfl, rfl, rfl, rfl, rfl, trivial⟩ ?_
        refine HQ.keepR [(1, _), (2, _), (3, _), (7, _), (15, _), (19, _)] ⟨rfl, rfl, rfl, rfl, rfl, rfl, trivial⟩ rfl ?_
        refine HQ.dRun 3 rfl rfl (by kernel_rfl) (by kernel_rfl) ?_
        obtain ⟨h142, H⟩ := asr H
        refine HQ.opD [15, 19] [15] [19] (OT.appendO (K := kTWet) sl25 ul25 h142) ⟨rfl, rfl, trivial⟩ ⟨rfl, rfl, trivial⟩ rfl rfl rfl rfl (fun _ => rfl) fun ⟨a140, c141⟩ => ?_
        refine HQ.pu (Pu.fieldB fo27_1 rfl) ⟨rfl, trivial⟩ rfl rfl rfl ?_
        refine HQ.opN [3] [3] [] (OT.storeC (cs' := [.slice a74 (List.length l73) c75, .slice a140 (List.length (l98 ++ ([(⟨(gt p0.Wet i97).At, (([] : (List Int)) ++ ((gt p0.Wet i97).B))⟩ : TWet)] : (List TWet)))) c141, .int .i64 p0.Fuse, .bool p0.Dead]) sz25 rfl rfl rfl rfl rfl) ⟨rfl, rfl, trivial⟩ ⟨rfl, trivial⟩ rfl rfl rfl (fun _ => rfl) fun _ => ?_
        refine HQ.done ?_
        refine HQ.dEnd rfl ?_
        refine HQ.keep [(1, _), (2, _), (3, _), (5, _)] ⟨rfl, rfl, rfl, rfl, trivial⟩ ?_
        refine HQ.blkN ?_
        refine HQ.thenN ?_
        refine HQ.regionQ ?_
        refine HQ.pu Pu.move ⟨rfl, trivial⟩ rfl rfl rfl ?_
        refine HQ.pu Pu.add ⟨rfl, rfl, trivial⟩ rfl rfl rfl ?_
        refine HQ.pu Pu.assign ⟨rfl, trivial⟩ rfl rfl rfl ?_
        refine HQ.done ?_
        refine HQ.keep [(1, _), (2, _), (3, _), (5, _)] ⟨rfl, rfl, rfl, rfl, trivial⟩ ?_
        obtain rfl := Option.some.inj H
        exact HQ.next (a140, c141) ⟨rfl, rfl, rfl, rfl, trivial⟩ ⟨rfl, rfl, rfl, rfl, rfl, trivial⟩ rfl
      · refine HQ.condF rfl hc ?_
        clear hc
        refine HQ.exit ?_
        refine HQ.thenE ?_
        obtain rfl := Option.some.inj H
        exact HQ.out (a99, c100) ⟨rfl, rfl, rfl, rfl, trivial⟩ ⟨rfl, rfl, rfl, rfl, rfl, trivial⟩ rfl
    · rintro ⟨i144, l145⟩ rfl ⟨a146, c147⟩
      clear h148
      replace H := H
      refine HQ.keep [(1, _), (2, _), (3, _), (5, _)] ⟨rfl, rfl, rfl, rfl, trivial⟩ ?_
      refine HQ.keepR [(1, _), (2, _), (3, _), (7, _), (15, _)] ⟨rfl, rfl, rfl, rfl, rfl, trivial⟩ rfl ?_
      refine HQ.blkE ?_
      refine HQ.thenN ?_
      refine HQ.rseq ?_
      refine HQ.op [3] [3] (OT.loadBA (vs := [.slice a74 (List.length l73) c75, .slice a146 (List.length l145) c147, .int .i64 p0.Fuse, .bool p0.Dead]) ag27 sz27 rfl rfl) ⟨rfl, trivial⟩ ⟨rfl, trivial⟩ rfl rfl rfl rfl (fun _ => rfl) fun _ => ?_
      refine HQ.opN [2] [2] [] (OT.storeC (cs' := [.slice a74 (List.length l73) c75, .slice a146 (List.length l145) c147, .int .i64 p0.Fuse, .bool p0.Dead]) sz27 rfl rfl rfl rfl rfl) ⟨rfl, rfl, trivial⟩ ⟨rfl, trivial⟩ rfl rfl rfl (fun _ => rfl) fun _ => ?_
      refine HQ.done ?_
      refine HQ.keep [(2, _)] ⟨rfl, trivial⟩ ?_
      refine HQ.ret ?_
      obtain rfl := Option.some.inj H
      exact HQ.fin (vs := [_]) Try.results90 ((a74, c75), (a146, c147)) ⟨⟨_, _, 2, rfl, rfl, ag27, sz27, rfl⟩, trivial⟩ rfl [7, 15] ⟨rfl, rfl, trivial⟩ rfl
    · exact fun r h a w hf => hf.elim
  · exact fun r h a w hf => hf.elim

/-! spec.l18Burn -/
theorem spec_l18Burn_c {w : World} {p0 : TDisk} {β_0 : Nat} {a_0 : Option Addr} {c_0 : Nat} {a_1 : Option Addr} {c_1 : Nat} {F0 : Fp} (hs0 : Sat [Box β_0 [.slice a_0 (List.length p0.Cells) c_0, .slice a_1 (List.length p0.Wet) c_1, .int .i64 p0.Fuse, .bool p0.Dead]] w.heap F0) (hF0 : ∀ b, F0 b → b < w.heap.size)  {r : Bool × TDisk} (H : spec_l18Burn p0 = some r) :
    Calls Try.prog 91 #[BP β_0 0] w (Rt w F0 (fun _ : Unit => .bool r.1) (fun _ => [Box β_0 [.slice a_0 (List.length p0.Cells) c_0, .slice a_1 (List.length p0.Wet) c_1, .int .i64 r.2.Fuse, .bool r.2.Dead]])) := by
  rw [spec_l18Burn] at H
  refine Calls.enter (N := 28) (us := [_]) (F0 := F0) (Γ0 := [(1, Box β_0 [.slice a_0 (List.length p0.Cells) c_0, .slice a_1 (List.length p0.Wet) c_1, .int .i64 p0.Fuse, .bool p0.Dead])]) Try.func91 rfl rfl rfl hs0 hF0 ?_
  refine HQ.rseq ?_
  refine HQ.pu Pu.assign ⟨rfl, trivial⟩ rfl rfl rfl ?_
  refine HQ.done ?_
  refine HQ.keep [(0, _), (2, _)] ⟨rfl, rfl, trivial⟩ ?_
  refine HQ.seq ?_
  refine HQ.rseq ?_
  refine HQ.pu Pu.move ⟨rfl, trivial⟩ rfl rfl rfl ?_
  refine HQ.pu Pu.nilCheck ⟨rfl, trivial⟩ rfl rfl rfl ?_
  refine HQ.pu (Pu.fieldB fo27_3 rfl) ⟨rfl, trivial⟩ rfl rfl rfl ?_
  refine HQ.op [1] [1] (OT.loadB sc4 rfl) ⟨rfl, trivial⟩ ⟨rfl, trivial⟩ rfl rfl rfl rfl (fun _ => rfl) fun _ => ?_
  refine HQ.done ?_
  refine HQ.keep [(0, _), (2, _), (6, _)] ⟨rfl, rfl, rfl, trivial⟩ ?_
  rcases brk H with ⟨hc, H⟩ | ⟨hc, H⟩
  · refine HQ.condT rfl hc ?_
    clear hc
    refine HQ.rseq ?_
    refine HQ.pu Pu.assign ⟨rfl, trivial⟩ rfl rfl rfl ?_
    refine HQ.done ?_
    refine HQ.keep [(0, _), (2, _)] ⟨rfl, rfl, trivial⟩ ?_
    refine HQ.ret ?_
    refine HQ.thenR ?_
    obtain rfl := Option.some.inj H
    exact HQ.fin (vs := [_]) Try.results91 () ⟨rfl, trivial⟩ rfl [1] ⟨rfl, trivial⟩ rfl
  · refine HQ.condF rfl hc ?_
    clear hc
    refine HQ.skipThen ?_
    refine HQ.seq ?_
    refine HQ.rseq ?_
    refine HQ.pu Pu.move ⟨rfl, trivial⟩ rfl rfl rfl ?_
    refine HQ.pu Pu.nilCheck ⟨rfl, trivial⟩ rfl rfl rfl ?_
    refine HQ.pu (Pu.fieldB fo27_2 rfl) ⟨rfl, trivial⟩ rfl rfl rfl ?_
    refine HQ.op [1] [1] (OT.loadB sc3 rfl) ⟨rfl, trivial⟩ ⟨rfl, trivial⟩ rfl rfl rfl rfl (fun _ => rfl) fun _ => ?_
    refine HQ.pu Pu.eql ⟨rfl, rfl, trivial⟩ rfl rfl rfl ?_
    refine HQ.done ?_
    refine HQ.keep [(0, _), (2, _), (11, _)] ⟨rfl, rfl, rfl, trivial⟩ ?_
    rcases brk H with ⟨hc, H⟩ | ⟨hc, H⟩
    · refine HQ.condT rfl hc ?_
      clear hc
      refine HQ.rseq ?_
      refine HQ.pu Pu.move ⟨rfl, trivial⟩ rfl rfl rfl ?_
      refine HQ.pu Pu.nilCheck ⟨rfl, trivial⟩ rfl rfl rfl ?_
      refine HQ.pu (Pu.fieldB fo27_3 rfl) ⟨rfl, trivial⟩ rfl rfl rfl ?_
      refine HQ.opN [1] [1] [] (OT.storeC (cs' := [.slice a_0 (List.length p0.Cells) c_0, .slice a_1 (List.length p0.Wet) c_1, .int .i64 p0.Fuse, .bool true]) sz4 rfl rfl rfl rfl rfl) ⟨rfl, rfl, trivial⟩ ⟨rfl, trivial⟩ rfl rfl rfl (fun _ => rfl) fun _ => ?_
      refine HQ.done ?_
      refine HQ.keep [(0, _), (2, _)] ⟨rfl, rfl, trivial⟩ ?_
      refine HQ.rseq ?_
      refine HQ.pu Pu.assign ⟨rfl, trivial⟩ rfl rfl rfl ?_
      refine HQ.done ?_
      refine HQ.keep [(0, _), (2, _)] ⟨rfl, rfl, trivial⟩ ?_
      refine HQ.ret ?_
      refine HQ.thenR ?_
      obtain rfl := Option.some.inj H
      exact HQ.fin (vs := [_]) Try.results91 () ⟨rfl, trivial⟩ rfl [1] ⟨rfl, trivial⟩ rfl
    · refine HQ.condF rfl hc ?_
      clear hc
      refine HQ.skipThen ?_
      refine HQ.seq ?_
      refine HQ.rseq ?_
      refine HQ.pu Pu.move ⟨rfl, trivial⟩ rfl rfl rfl ?_
      refine HQ.pu Pu.nilCheck ⟨rfl, trivial⟩ rfl rfl rfl ?_
      refine HQ.pu (Pu.fieldB fo27_2 rfl) ⟨rfl, trivial⟩ rfl rfl rfl ?_
      refine HQ.op [1] [1] (OT.loadB sc3 rfl) ⟨rfl, trivial⟩ ⟨rfl, trivial⟩ rfl rfl rfl rfl (fun _ => rfl) fun _ => ?_
      refine HQ.pu Pu.gtr ⟨rfl, rfl, trivial⟩ rfl rfl rfl ?_
      refine HQ.done ?_
      refine HQ.keep [(0, _), (2, _), (19, _)] ⟨rfl, rfl, rfl, trivial⟩ ?_
      rcases brk H with ⟨hc, H⟩ | ⟨hc, H⟩
      · refine HQ.condT rfl hc ?_
        clear hc
        refine HQ.region ?_
        refine HQ.pu Pu.move ⟨rfl, trivial⟩ rfl rfl rfl ?_
        refine HQ.pu Pu.move ⟨rfl, trivial⟩ rfl rfl rfl ?_
        refine HQ.pu Pu.nilCheck ⟨rfl, trivial⟩ rfl rfl rfl ?_
        refine HQ.pu (Pu.fieldB fo27_2 rfl) ⟨rfl, trivial⟩ rfl rfl rfl ?_
        refine HQ.op [1] [1] (OT.loadB sc3 rfl) ⟨rfl, trivial⟩ ⟨rfl, trivial⟩ rfl rfl rfl rfl (fun _ => rfl) fun _ => ?_
        refine HQ.pu Pu.sub ⟨rfl, rfl, trivial⟩ rfl rfl rfl ?_
        refine HQ.pu Pu.nilCheck ⟨rfl, trivial⟩ rfl rfl rfl ?_
        refine HQ.pu (Pu.fieldB fo27_2 rfl) ⟨rfl, trivial⟩ rfl rfl rfl ?_
        refine HQ.opN [1] [1] [] (OT.storeC (cs' := [.slice a_0 (List.length p0.Cells) c_0, .slice a_1 (List.length p0.Wet) c_1, .int .i64 (wrap64 (p0.Fuse - 1)), .bool p0.Dead]) sz3 rfl rfl rfl rfl rfl) ⟨rfl, rfl, trivial⟩ ⟨rfl, trivial⟩ rfl rfl rfl (fun _ => rfl) fun _ => ?_
        refine HQ.done ?_
        refine HQ.keep [(2, _)] ⟨rfl, trivial⟩ ?_
        refine HQ.rseq ?_
        refine HQ.pu Pu.assign ⟨rfl, trivial⟩ rfl rfl rfl ?_
        refine HQ.done ?_
        refine HQ.keep [(2, _)] ⟨rfl, trivial⟩ ?_
        refine HQ.ret ?_
        obtain rfl := Option.some.inj H
        exact HQ.fin (vs := [_]) Try.results91 () ⟨rfl, trivial⟩ rfl [1] ⟨rfl, trivial⟩ rfl
      · refine HQ.condF rfl hc ?_
        clear hc
        refine HQ.skipThen ?_
        refine HQ.rseq ?_
        refine HQ.pu Pu.assign ⟨rfl, trivial⟩ rfl rfl rfl ?_
        refine HQ.done ?_
        refine HQ.keep [(2, _)] ⟨rfl, trivial⟩ ?_
        refine HQ.ret ?_
        obtain rfl := Option.some.inj H
        exact HQ.fin (vs := [_]) Try.results91 () ⟨rfl, trivial⟩ rfl [1] ⟨rfl, trivial⟩ rfl

/-! spec.Write -/
theorem spec_Write_c {w : World} {k : Nat} {p0 : TDisk} {p1 : Int} {p2 : (List Int)} {a_0 : Option Addr} {c_0 : Nat} {a_1 : Option Addr} {c_1 : Nat} {a_2 : Option Addr} {c_2 : Nat} (hb_0 : BorS kTCell a_0 c_0 p0.Cells w.heap (Lt w Nil)) (hb_1 : BorS kTWet a_1 c_1 p0.Wet w.heap (Lt w Nil)) (hb_2 : BorS kU8 a_2 c_2 p2 w.heap (Lt w Nil)) {r : TDisk} (H : spec_Write k p0 p1 p2 = some r) :
    Calls Try.prog 20 #[.agg #[.slice a_0 (List.length p0.Cells) c_0, .slice a_1 (List.length p0.Wet) c_1, .int .i64 p0.Fuse, .bool p0.Dead], .int .i64 p1, .slice a_2 (List.length p2) c_2] w (Rt w Nil (fun g : (Option Addr × Nat) × (Option Addr × Nat) => .agg #[.slice g.1.1 (List.length r.Cells) g.1.2, .slice g.2.1 (List.length r.Wet) g.2.2, .int .i64 r.Fuse, .bool r.Dead]) (fun g => [OwnS kTCell g.1.1 g.1.2 r.Cells, OwnS kTWet g.2.1 g.2.2 r.Wet])) := by
  rw [spec_Write] at H
  refine Calls.enter0 (N := 30) (us := [_, _, _]) Try.func20 rfl rfl rfl ?_
  refine HQ.rseq ?_
  refine HQ.op [] [1] (OT.box (cs := [.slice a_0 (List.length p0.Cells) c_0, .slice a_1 (List.length p0.Wet) c_1, .int .i64 p0.Fuse, .bool p0.Dead]) rfl) ⟨rfl, trivial⟩ trivial rfl rfl rfl rfl (fun _ => rfl) fun b1 => ?_
  refine HQ.op [] [2] (OT.alloc zc27) trivial trivial rfl rfl rfl rfl (fun _ => rfl) fun b2 => ?_
  refine HQ.done ?_
  refine HQ.keep [(1, _), (2, _), (3, _), (6, _)] ⟨rfl, rfl, rfl, rfl, trivial⟩ ?_
  refine HQ.rseq ?_
  refine HQ.op [1] [1] (OT.loadBA (vs := [.slice a_0 (List.length p0.Cells) c_0, .slice a_1 (List.length p0.Wet) c_1, .int .i64 p0.Fuse, .bool p0.Dead]) ag27 sz27 rfl rfl) ⟨rfl, trivial⟩ ⟨rfl, trivial⟩ rfl rfl rfl rfl (fun _ => rfl) fun _ => ?_
  obtain ⟨t3, h4, H⟩ := bnd H
  refine HQ.op [] [3, 4] (OT.call (us := [_]) (Pre := []) [.tmp 8] Try.call90 rfl rfl fun w F hs hF hp => spec_l18Copy_c (hb_0.pass hp) (hb_1.pass hp) h4) ⟨rfl, rfl, trivial⟩ trivial rfl rfl rfl rfl (fun _ => rfl) fun ⟨⟨a5, c6⟩, ⟨a7, c8⟩⟩ => ?_
  refine HQ.op [] [5] (OT.alloc zc27) trivial trivial rfl rfl rfl rfl (fun _ => rfl) fun b9 => ?_
  refine HQ.opN [5] [5] [] (OT.storeC (cs' := [.slice a5 (List.length t3.Cells) c6, .slice a7 (List.length t3.Wet) c8, .int .i64 t3.Fuse, .bool t3.Dead]) sz27 rfl rfl rfl rfl rfl) ⟨rfl, rfl, trivial⟩ ⟨rfl, trivial⟩ rfl rfl rfl (fun _ => rfl) fun _ => ?_
  refine HQ.done ?_
  refine HQ.keep [(1, _), (2, _), (6, _), (7, _)] ⟨rfl, rfl, rfl, rfl, trivial⟩ ?_
  refine HQ.seq ?_
  refine HQ.rseq ?_
  obtain ⟨t10, h11, H⟩ := bnd H
  refine HQ.op [5] [5] (OT.callM (us := [_]) (PreX := [Box b9 [.slice a5 (List.length t3.Cells) c6, .slice a7 (List.length t3.Wet) c8, .int .i64 t3.Fuse, .bool t3.Dead]]) (PreL := []) [.tmp 7] Try.call91 rfl rfl fun w FX FL hs1 hF1 hs2 hF2 hp => spec_l18Burn_c (p0 := t3) hs1 hF1 h11) ⟨rfl, rfl, trivial⟩ ⟨rfl, trivial⟩ rfl rfl rfl rfl (fun _ => rfl) fun _ => ?_
  refine HQ.pu Pu.move ⟨rfl, trivial⟩ rfl rfl rfl ?_
  obtain ⟨c15, h16, H⟩ := bnd H
  refine HQ.cutAt 3 [(14, .bool c15), (1, .int .i64 p1), (2, .slice a_2 (List.length p2) c_2), (6, BP b2 0), (7, BP b9 0)] [(1, Box b1 [.slice a_0 (List.length p0.Cells) c_0, .slice a_1 (List.length p0.Wet) c_1, .int .i64 p0.Fuse, .bool p0.Dead]), (2, Box b2 [.slice none 0 0, .slice none 0 0, .int .i64 0, .bool false]), (3, OwnS kTCell a5 c6 t3.Cells), (4, OwnS kTWet a7 c8 t3.Wet), (5, Box b9 [.slice a5 (List.length t3.Cells) c6, .slice a7 (List.length t3.Wet) c8, .int .i64 t10.2.Fuse, .bool t10.2.Dead])] ?_ ?_
  · clear H
    have H := h16
    rcases brk H with ⟨hg12, H⟩ | ⟨hg12, H⟩
    · refine HQ.on rfl rfl hg12 ?_
      refine HQ.pu Pu.move ⟨rfl, trivial⟩ rfl rfl rfl ?_
      refine HQ.on rfl rfl hg12 ?_
      obtain ⟨t13, h14, H⟩ := bnd H
      refine HQ.op [] [] (OT.call (us := [_, _, _]) (Pre := []) [.tmp 12, .const (.int .i64 0), .const (.int .i64 113)] Try.call89 rfl rfl fun w F hs hF hp => spec_l1In_c h14) ⟨rfl, rfl, rfl, rfl, trivial⟩ trivial rfl rfl rfl rfl (fun _ => rfl) fun _ => ?_
      obtain rfl := Option.some.inj H
      refine HQ.pu (Pu.pickC1 hg12) ⟨rfl, rfl, trivial⟩ rfl rfl rfl ?_
      exact HQ.mid ⟨rfl, rfl, rfl, rfl, rfl, trivial⟩ ⟨rfl, rfl, rfl, rfl, rfl, trivial⟩ rfl
    · obtain rfl := Option.some.inj H
      refine HQ.off rfl rfl hg12 rfl ?_
      refine HQ.off rfl rfl hg12 rfl ?_
      refine HQ.pu (Pu.pickC0 hg12) ⟨rfl, rfl, trivial⟩ rfl rfl rfl ?_
      exact HQ.mid ⟨rfl, rfl, rfl, rfl, rfl, trivial⟩ ⟨rfl, rfl, rfl, rfl, rfl, trivial⟩ rfl
  refine HQ.pu Pu.move ⟨rfl, trivial⟩ rfl rfl rfl ?_
  refine HQ.cutAt 4 [(19, .bool (c15 && (decide (((List.length p2 : Nat) : Int) ≤ 32)))), (1, .int .i64 p1), (2, .slice a_2 (List.length p2) c_2), (6, BP b2 0), (7, BP b9 0)] [(1, Box b1 [.slice a_0 (List.length p0.Cells) c_0, .slice a_1 (List.length p0.Wet) c_1, .int .i64 p0.Fuse, .bool p0.Dead]), (2, Box b2 [.slice none 0 0, .slice none 0 0, .int .i64 0, .bool false]), (3, OwnS kTCell a5 c6 t3.Cells), (4, OwnS kTWet a7 c8 t3.Wet), (5, Box b9 [.slice a5 (List.length t3.Cells) c6, .slice a7 (List.length t3.Wet) c8, .int .i64 t10.2.Fuse, .bool t10.2.Dead])] ?_ ?_
  · rcases Bool.eq_false_or_eq_true c15 with hg17 | hg17
    · refine HQ.on rfl rfl hg17 ?_
      refine HQ.pu Pu.move ⟨rfl, trivial⟩ rfl rfl rfl ?_
      refine HQ.on rfl rfl hg17 ?_
      refine HQ.pu (Pu.len ul22) ⟨rfl, trivial⟩ rfl rfl rfl ?_
      refine HQ.on rfl rfl hg17 ?_
      refine HQ.pu Pu.leq ⟨rfl, rfl, trivial⟩ rfl rfl rfl ?_
      refine HQ.pu (Pu.pickAT hg17) ⟨rfl, rfl, trivial⟩ rfl rfl rfl ?_
      exact HQ.mid ⟨rfl, rfl, rfl, rfl, rfl, trivial⟩ ⟨rfl, rfl, rfl, rfl, rfl, trivial⟩ rfl
    · refine HQ.off rfl rfl hg17 rfl ?_
      refine HQ.off rfl rfl hg17 rfl ?_
      refine HQ.off rfl rfl hg17 rfl ?_
      refine HQ.pu (Pu.pickAF (u := (decide (((List.length p2 : Nat) : Int) ≤ 32))) hg17) ⟨rfl, rfl, trivial⟩ rfl rfl rfl ?_
      exact HQ.mid ⟨rfl, rfl, rfl, rfl, rfl, trivial⟩ ⟨rfl, rfl, rfl, rfl, rfl, trivial⟩ rfl
  refine HQ.done ?_
  refine HQ.keep [(19, _), (1, _), (2, _), (6, _), (7, _)] ⟨rfl, rfl, rfl, rfl, rfl, trivial⟩ ?_
  rcases brk H with ⟨hc, H⟩ | ⟨hc, H⟩
  · refine HQ.condT rfl hc ?_
    clear hc
    refine HQ.dStart mixd ?_
    obtain ⟨t19, h20, H⟩ := bnd H
    refine HQ.dPart [(1, .int .i64 p1), (2, .slice a_2 (List.length p2) c_2), (6, BP b2 0), (7, BP b9 0)] 7 [⟨[], [], []⟩, ⟨[0], [0], [0]⟩, ⟨[], [], []⟩, ⟨[], [], []⟩, ⟨[], [1], [3]⟩, ⟨[], [], [2, 4]⟩, ⟨[1], [2], [5]⟩] [⟨none, none⟩, ⟨some 4, some 6⟩, ⟨some 6, none⟩] (fun (g18 : (Option Addr × Nat) × (Option Addr × Nat)) => [BP b9 1, .slice a7 (List.length t3.Wet) c8, .int .i64 p1, .slice a_2 (List.length p2) c_2, .slice g18.1.1 (List.length t19) g18.1.2, .agg #[.int .i64 p1, .slice g18.1.1 (List.length t19) g18.1.2], .slice g18.2.1 (List.length ([(⟨p1, t19⟩ : TWet)] : (List TWet))) g18.2.2]) (fun (g18 : (Option Addr × Nat) × (Option Addr × Nat)) => [Box b9 [.slice a5 (List.length t3.Cells) c6, .slice a7 (List.length t3.Wet) c8, .int .i64 t10.2.Fuse, .bool t10.2.Dead], OwnS kU8 g18.1.1 g18.1.2 t19, OwnS kTWet g18.2.1 g18.2.2 ([(⟨p1, t19⟩ : TWet)] : (List TWet))]) ((none, 0), (none, 0)) [5] [5, 7] [] ⟨rfl, rfl, rfl, rfl, trivial⟩ ⟨rfl, trivial⟩ rfl (by kernel_rfl) (by kernel_rfl) (fun _ => rfl) (by kernel_rfl) (fun _ => rfl) rfl ⟨?_, ?_, ?_, ?_, ?_, ?_, ?_, trivial⟩ fun g18 => ?_
    · exact OpOK2.of (fun g18 => [(.tmp 7, BP b9 0)]) _ _ (fun g18 _ => g18) rfl rfl (fun _ => ⟨rfl, trivial⟩) (fun g18 => Pu.toOT (Pu.fieldB fo27_1 rfl)) (fun _ _ => ⟨rfl, rfl, ⟨rfl, rfl, rfl, trivial⟩⟩)
    · exact OpOK2.of (fun g18 => [(.tmp 20, BP b9 1)]) _ _ (fun g18 _ => g18) rfl rfl (fun _ => ⟨rfl, trivial⟩) (fun g18 => OT.loadB sc25 rfl) (fun _ _ => ⟨rfl, rfl, ⟨rfl, rfl, rfl, trivial⟩⟩)
    · exact OpOK2.of (fun g18 => [(.tmp 1, .int .i64 p1)]) _ _ (fun g18 _ => g18) rfl rfl (fun _ => ⟨rfl, trivial⟩) (fun g18 => Pu.toOT Pu.move) (fun _ _ => ⟨rfl, rfl, ⟨rfl, rfl, rfl, trivial⟩⟩)
    · exact OpOK2.of (fun g18 => [(.tmp 2, .slice a_2 (List.length p2) c_2)]) _ _ (fun g18 _ => g18) rfl rfl (fun _ => ⟨rfl, trivial⟩) (fun g18 => Pu.toOT Pu.move) (fun _ _ => ⟨rfl, rfl, ⟨rfl, rfl, rfl, trivial⟩⟩)
    · exact OpOK2.ofD [5] (by kernel_rfl) (fun g18 => [(.func 92, .func (.func 92) #[] #[]), (.tmp 23, .slice a_2 (List.length p2) c_2), (.const (.int .i64 32), .int .i64 32)]) _ _ (fun g18 x => (x, g18.2)) rfl rfl (fun _ => ⟨rfl, rfl, rfl, trivial⟩) (fun g18 => OT.call (us := [_, _]) (Pre := []) [.tmp 23, .const (.int .i64 32)] Try.call92 rfl rfl fun w F hs hF hp => spec_Pad_c (hb_2.pass hp) h20) (fun _ _ => ⟨⟨rfl, rfl, rfl, rfl, rfl, trivial, rfl, trivial⟩, rfl, ⟨rfl, rfl, rfl, trivial⟩⟩)
    · exact OpOK2.of (fun g18 => [(.tmp 22, .int .i64 p1), (.tmp 24, .slice g18.1.1 (List.length t19) g18.1.2)]) _ _ (fun g18 _ => g18) rfl rfl (fun _ => ⟨rfl, rfl, trivial⟩) (fun g18 => Pu.toOT (Pu.build (us := [.int .i64 p1, .slice g18.1.1 (List.length t19) g18.1.2]) (cs := [.int .i64 p1, .slice g18.1.1 (List.length t19) g18.1.2]) [(0, .tmp 22), (1, .tmp 24)] st110 rfl rfl rfl)) (fun _ _ => ⟨rfl, rfl, ⟨rfl, rfl, rfl, trivial⟩⟩)
    · exact OpOK2.of (fun g18 => [(.tmp 25, .agg #[.int .i64 p1, .slice g18.1.1 (List.length t19) g18.1.2])]) _ _ (fun g18 x => (g18.1, x)) rfl rfl (fun _ => ⟨rfl, trivial⟩) (fun g18 => OT.buildO (u := .agg #[.int .i64 p1, .slice g18.1.1 (List.length t19) g18.1.2]) (enc := encTWet) (hl := hlTWet) (sub := fun (x : TWet) => x.B) (.tmp 25) (⟨p1, t19⟩ : TWet) sl25.ul sl25.szE sl25.zc rfl rfl rfl rfl) (fun _ _ => ⟨rfl, rfl, ⟨rfl, rfl, rfl, trivial⟩⟩)
    refine HQ.keep [(6, _), (7, _), (21, _), (26, _)] ⟨rfl, rfl, rfl, rfl, trivial⟩ ?_
    refine HQ.keepR [(1, _), (2, _), (3, _), (4, _), (5, _), (7, _)] ⟨rfl, rfl, rfl, rfl, rfl, rfl, trivial⟩ rfl ?_
    refine HQ.dRun 3 rfl rfl (by kernel_rfl) (by kernel_rfl) ?_
    obtain ⟨h27, H⟩ := asr H
    refine HQ.opD [4, 7] [4] [7] (OT.appendO (K := kTWet) sl25 ul25 h27) ⟨rfl, rfl, trivial⟩ ⟨rfl, rfl, trivial⟩ rfl rfl rfl rfl (fun _ => rfl) fun ⟨a25, c26⟩ => ?_
    refine HQ.pu (Pu.fieldB fo27_1 rfl) ⟨rfl, trivial⟩ rfl rfl rfl ?_
    refine HQ.opN [5] [5] [] (OT.storeC (cs' := [.slice a5 (List.length t3.Cells) c6, .slice a25 (List.length (t3.Wet ++ ([(⟨p1, t19⟩ : TWet)] : (List TWet)))) c26, .int .i64 t10.2.Fuse, .bool t10.2.Dead]) sz25 rfl rfl rfl rfl rfl) ⟨rfl, rfl, trivial⟩ ⟨rfl, trivial⟩ rfl rfl rfl (fun _ => rfl) fun _ => ?_
    refine HQ.done ?_
    refine HQ.dEnd rfl ?_
    refine HQ.thenN ?_
    refine HQ.keep [(6, _), (7, _)] ⟨rfl, rfl, trivial⟩ ?_
    refine HQ.rseq ?_
    refine HQ.op [5] [5] (OT.loadBA (vs := [.slice a5 (List.length t3.Cells) c6, .slice a25 (List.length (t3.Wet ++ ([(⟨p1, t19⟩ : TWet)] : (List TWet)))) c26, .int .i64 t10.2.Fuse, .bool t10.2.Dead]) ag27 sz27 rfl rfl) ⟨rfl, trivial⟩ ⟨rfl, trivial⟩ rfl rfl rfl rfl (fun _ => rfl) fun _ => ?_
    refine HQ.opN [2] [2] [] (OT.storeC (cs' := [.slice a5 (List.length t3.Cells) c6, .slice a25 (List.length (t3.Wet ++ ([(⟨p1, t19⟩ : TWet)] : (List TWet)))) c26, .int .i64 t10.2.Fuse, .bool t10.2.Dead]) sz27 rfl rfl rfl rfl rfl) ⟨rfl, rfl, trivial⟩ ⟨rfl, trivial⟩ rfl rfl rfl (fun _ => rfl) fun _ => ?_
    refine HQ.done ?_
    refine HQ.keep [(6, _)] ⟨rfl, trivial⟩ ?_
    refine HQ.ret ?_
    obtain rfl := Option.some.inj H
    exact HQ.fin (vs := [_]) Try.results20 ((a5, c6), (a25, c26)) ⟨⟨_, _, 2, rfl, rfl, ag27, sz27, rfl⟩, trivial⟩ rfl [3, 4] ⟨rfl, rfl, trivial⟩ rfl
  · refine HQ.condF rfl hc ?_
    clear hc
    refine HQ.skipThen ?_
    refine HQ.rseq ?_
    refine HQ.op [5] [5] (OT.loadBA (vs := [.slice a5 (List.length t3.Cells) c6, .slice a7 (List.length t3.Wet) c8, .int .i64 t10.2.Fuse, .bool t10.2.Dead]) ag27 sz27 rfl rfl) ⟨rfl, trivial⟩ ⟨rfl, trivial⟩ rfl rfl rfl rfl (fun _ => rfl) fun _ => ?_
    refine HQ.opN [2] [2] [] (OT.storeC (cs' := [.slice a5 (List.length t3.Cells) c6, .slice a7 (List.length t3.Wet) c8, .int .i64 t10.2.Fuse, .bool t10.2.Dead]) sz27 rfl rfl rfl rfl rfl) ⟨rfl, rfl, trivial⟩ ⟨rfl, trivial⟩ rfl rfl rfl (fun _ => rfl) fun _ => ?_
    refine HQ.done ?_
    refine HQ.keep [(6, _)] ⟨rfl, trivial⟩ ?_
    refine HQ.ret ?_
    obtain rfl := Option.some.inj H
    exact HQ.fin (vs := [_]) Try.results20 ((a5, c6), (a7, c8)) ⟨⟨_, _, 2, rfl, rfl, ag27, sz27, rfl⟩, trivial⟩ rfl [3, 4] ⟨rfl, rfl, trivial⟩ rfl

/-! spec.PutHead -/
theorem spec_PutHead_c {w : World} {k : Nat} {p0 : TDisk} {p1 : THead} {a_0 : Option Addr} {c_0 : Nat} {a_1 : Option Addr} {c_1 : Nat} (hb_0 : BorS kTCell a_0 c_0 p0.Cells w.heap (Lt w Nil)) (hb_1 : BorS kTWet a_1 c_1 p0.Wet w.heap (Lt w Nil)) {r : TDisk} (H : spec_PutHead k p0 p1 = some r) :
    Calls Try.prog 52 #[.agg #[.slice a_0 (List.length p0.Cells) c_0, .slice a_1 (List.length p0.Wet) c_1, .int .i64 p0.Fuse, .bool p0.Dead], .agg #[.int .i64 p1.Epoch, .int .i64 p1.Seq, .int .i64 p1.Root, .int .i64 p1.Size]] w (Rt w Nil (fun g : (Option Addr × Nat) × (Option Addr × Nat) => .agg #[.slice g.1.1 (List.length r.Cells) g.1.2, .slice g.2.1 (List.length r.Wet) g.2.2, .int .i64 r.Fuse, .bool r.Dead]) (fun g => [OwnS kTCell g.1.1 g.1.2 r.Cells, OwnS kTWet g.2.1 g.2.2 r.Wet])) := by
  rw [spec_PutHead] at H
  refine Calls.enter0 (N := 17) (us := [_, _]) Try.func52 rfl rfl rfl ?_
  refine HQ.rseq ?_
  refine HQ.op [] [1] (OT.box (cs := [.slice a_0 (List.length p0.Cells) c_0, .slice a_1 (List.length p0.Wet) c_1, .int .i64 p0.Fuse, .bool p0.Dead]) rfl) ⟨rfl, trivial⟩ trivial rfl rfl rfl rfl (fun _ => rfl) fun b1 => ?_
  refine HQ.op [] [2] (OT.box (cs := [.int .i64 p1.Epoch, .int .i64 p1.Seq, .int .i64 p1.Root, .int .i64 p1.Size]) rfl) ⟨rfl, trivial⟩ trivial rfl rfl rfl rfl (fun _ => rfl) fun b2 => ?_
  refine HQ.op [] [3] (OT.alloc zc27) trivial trivial rfl rfl rfl rfl (fun _ => rfl) fun b3 => ?_
  refine HQ.done ?_
  refine HQ.keep [(2, _), (3, _), (4, _)] ⟨rfl, rfl, rfl, trivial⟩ ?_
  refine HQ.seq ?_
  refine HQ.rseq ?_
  refine HQ.op [2] [2] (OT.loadBA (vs := [.int .i64 p1.Epoch, .int .i64 p1.Seq, .int .i64 p1.Root, .int .i64 p1.Size]) ag68 sz68 rfl rfl) ⟨rfl, trivial⟩ ⟨rfl, trivial⟩ rfl rfl rfl rfl (fun _ => rfl) fun _ => ?_
  obtain ⟨t4, h5, H⟩ := bnd H
  refine HQ.op [] [] (OT.call (us := [_]) (Pre := []) [.tmp 5] Try.call50 rfl rfl fun w F hs hF hp => spec_HeadOk_c h5) ⟨rfl, rfl, trivial⟩ trivial rfl rfl rfl rfl (fun _ => rfl) fun _ => ?_
  refine HQ.pu Pu.not ⟨rfl, trivial⟩ rfl rfl rfl ?_
  refine HQ.done ?_
  refine HQ.keep [(2, _), (3, _), (4, _), (7, _)] ⟨rfl, rfl, rfl, rfl, trivial⟩ ?_
  rcases brk H with ⟨hc, H⟩ | ⟨hc, H⟩
  · refine HQ.condT rfl hc ?_
    clear hc
    refine HQ.rseq ?_
    refine HQ.op [1] [1] (OT.loadBA (vs := [.slice a_0 (List.length p0.Cells) c_0, .slice a_1 (List.length p0.Wet) c_1, .int .i64 p0.Fuse, .bool p0.Dead]) ag27 sz27 rfl rfl) ⟨rfl, trivial⟩ ⟨rfl, trivial⟩ rfl rfl rfl rfl (fun _ => rfl) fun _ => ?_
    obtain ⟨t6, h7, H⟩ := bnd H
    refine HQ.op [] [4, 5] (OT.call (us := [_]) (Pre := []) [.tmp 8] Try.call90 rfl rfl fun w F hs hF hp => spec_l18Copy_c (hb_0.pass hp) (hb_1.pass hp) h7) ⟨rfl, rfl, trivial⟩ trivial rfl rfl rfl rfl (fun _ => rfl) fun ⟨⟨a8, c9⟩, ⟨a10, c11⟩⟩ => ?_
    refine HQ.opN [3] [3] [] (OT.storeC (cs' := [.slice a8 (List.length t6.Cells) c9, .slice a10 (List.length t6.Wet) c11, .int .i64 t6.Fuse, .bool t6.Dead]) sz27 rfl rfl rfl rfl rfl) ⟨rfl, rfl, trivial⟩ ⟨rfl, trivial⟩ rfl rfl rfl (fun _ => rfl) fun _ => ?_
    refine HQ.done ?_
    refine HQ.keep [(2, _), (3, _), (4, _)] ⟨rfl, rfl, rfl, trivial⟩ ?_
    refine HQ.ret ?_
    refine HQ.thenR ?_
    obtain rfl := Option.some.inj H
    exact HQ.fin (vs := [_]) Try.results52 ((a8, c9), (a10, c11)) ⟨⟨_, _, 3, rfl, rfl, ag27, sz27, rfl⟩, trivial⟩ rfl [4, 5] ⟨rfl, rfl, trivial⟩ rfl
  · refine HQ.condF rfl hc ?_
    clear hc
    refine HQ.skipThen ?_
    obtain ⟨t13, h14, H⟩ := bnd H
    refine HQ.drawS mixd [(2, BP b1 0), (3, BP b2 0), (4, BP b3 0)] 6 [⟨[0], [0], []⟩, ⟨[], [], []⟩, ⟨[1], [1], [1]⟩, ⟨[], [], [2]⟩, ⟨[1], [1], []⟩, ⟨[], [2], [4]⟩] [⟨none, none⟩, ⟨none, none⟩, ⟨some 5, none⟩] (fun (g12 : (Option Addr × Nat)) => [.agg #[.slice a_0 (List.length p0.Cells) c_0, .slice a_1 (List.length p0.Wet) c_1, .int .i64 p0.Fuse, .bool p0.Dead], BP b2 0, .int .i64 p1.Epoch, .int .i64 (Int.tmod p1.Epoch 2), .agg #[.int .i64 p1.Epoch, .int .i64 p1.Seq, .int .i64 p1.Root, .int .i64 p1.Size], .slice g12.1 (List.length t13) g12.2]) (fun (g12 : (Option Addr × Nat)) => [Box b1 [.slice a_0 (List.length p0.Cells) c_0, .slice a_1 (List.length p0.Wet) c_1, .int .i64 p0.Fuse, .bool p0.Dead], Box b2 [.int .i64 p1.Epoch, .int .i64 p1.Seq, .int .i64 p1.Root, .int .i64 p1.Size], OwnS kU8 g12.1 g12.2 t13]) (none, 0) [1, 2] [1, 2, 6] [] ⟨rfl, rfl, rfl, trivial⟩ ⟨rfl, rfl, trivial⟩ rfl (by kernel_rfl) (fun _ => rfl) (by kernel_rfl) (fun _ => rfl) ⟨?_, ?_, ?_, ?_, ?_, ?_, trivial⟩ fun g12 => ?_
    · exact OpOK.of (fun g12 => [(.tmp 2, BP b1 0)]) _ _ (fun g12 _ => g12) rfl rfl (fun _ => ⟨rfl, trivial⟩) (fun g12 => OT.loadBA (vs := [.slice a_0 (List.length p0.Cells) c_0, .slice a_1 (List.length p0.Wet) c_1, .int .i64 p0.Fuse, .bool p0.Dead]) ag27 sz27 rfl rfl) (fun _ _ => ⟨rfl, rfl, ⟨rfl, rfl, rfl, trivial⟩⟩)
    · exact OpOK.of (fun g12 => [(.tmp 3, BP b2 0)]) _ _ (fun g12 _ => g12) rfl rfl (fun _ => ⟨rfl, trivial⟩) (fun g12 => Pu.toOT (Pu.fieldB fo68_0 rfl)) (fun _ _ => ⟨rfl, rfl, ⟨rfl, rfl, rfl, trivial⟩⟩)
    · exact OpOK.of (fun g12 => [(.tmp 11, BP b2 0)]) _ _ (fun g12 _ => g12) rfl rfl (fun _ => ⟨rfl, trivial⟩) (fun g12 => OT.loadB sc3 rfl) (fun _ _ => ⟨rfl, rfl, ⟨rfl, rfl, rfl, trivial⟩⟩)
    · exact OpOK.of (fun g12 => [(.tmp 12, .int .i64 p1.Epoch), (.const (.int .i64 2), .int .i64 2)]) _ _ (fun g12 _ => g12) rfl rfl (fun _ => ⟨rfl, rfl, trivial⟩) (fun g12 => Pu.toOT (Pu.rem (by decide))) (fun _ _ => ⟨rfl, rfl, ⟨rfl, rfl, rfl, trivial⟩⟩)
    · exact OpOK.of (fun g12 => [(.tmp 3, BP b2 0)]) _ _ (fun g12 _ => g12) rfl rfl (fun _ => ⟨rfl, trivial⟩) (fun g12 => OT.loadBA (vs := [.int .i64 p1.Epoch, .int .i64 p1.Seq, .int .i64 p1.Root, .int .i64 p1.Size]) ag68 sz68 rfl rfl) (fun _ _ => ⟨rfl, rfl, ⟨rfl, rfl, rfl, trivial⟩⟩)
    · exact OpOK.of (fun g12 => [(.func 48, .func (.func 48) #[] #[]), (.tmp 14, .agg #[.int .i64 p1.Epoch, .int .i64 p1.Seq, .int .i64 p1.Root, .int .i64 p1.Size])]) _ _ (fun g12 x => x) rfl rfl (fun _ => ⟨rfl, rfl, trivial⟩) (fun g12 => OT.call (us := [_]) (Pre := []) [.tmp 14] Try.call48 rfl rfl fun w F hs hF hp => spec_HeadCell_c h14) (fun _ _ => ⟨rfl, rfl, ⟨rfl, rfl, rfl, trivial⟩⟩)
    refine HQ.keep [(4, _), (10, _), (13, _), (15, _)] ⟨rfl, rfl, rfl, rfl, trivial⟩ ?_
    refine HQ.keepR [(1, _), (2, _), (3, _), (6, _)] ⟨rfl, rfl, rfl, rfl, trivial⟩ rfl ?_
    obtain ⟨t17, h18, H⟩ := bnd H
    refine HQ.op [6] [7, 8, 6] (OT.call (us := [_, _, _]) (Pre := [OwnS kU8 g12.1 g12.2 t13]) [.tmp 10, .tmp 13, .tmp 15] Try.call20 rfl rfl fun w F hs hF hp => spec_Write_c (hb_0.pass hp) (hb_1.pass hp) (hs.lend hF 0 rfl) h18) ⟨rfl, rfl, rfl, rfl, trivial⟩ ⟨rfl, trivial⟩ rfl rfl rfl rfl (fun _ => rfl) fun ⟨⟨a19, c20⟩, ⟨a21, c22⟩⟩ => ?_
    refine HQ.opN [3] [3] [] (OT.storeC (cs' := [.slice a19 (List.length t17.Cells) c20, .slice a21 (List.length t17.Wet) c22, .int .i64 t17.Fuse, .bool t17.Dead]) sz27 rfl rfl rfl rfl rfl) ⟨rfl, rfl, trivial⟩ ⟨rfl, trivial⟩ rfl rfl rfl (fun _ => rfl) fun _ => ?_
    refine HQ.done ?_
    refine HQ.keep [(4, _)] ⟨rfl, trivial⟩ ?_
    refine HQ.ret ?_
    obtain rfl := Option.some.inj H
    exact HQ.fin (vs := [_]) Try.results52 ((a19, c20), (a21, c22)) ⟨⟨_, _, 3, rfl, rfl, ag27, sz27, rfl⟩, trivial⟩ rfl [7, 8] ⟨rfl, rfl, trivial⟩ rfl

/-! spec.l18Room -/
theorem spec_l18Room_c {w : World} {k : Nat} {p0 : TDisk} {p1 : Int} {β_0 : Nat} {a_0 : Option Addr} {c_0 : Nat} {a_1 : Option Addr} {c_1 : Nat} {F0 : Fp} (hs0 : Sat [Box β_0 [.slice a_0 (List.length p0.Cells) c_0, .slice a_1 (List.length p0.Wet) c_1, .int .i64 p0.Fuse, .bool p0.Dead], OwnS kTCell a_0 c_0 p0.Cells] w.heap F0) (hF0 : ∀ b, F0 b → b < w.heap.size)  {r : TDisk} (H : spec_l18Room k p0 p1 = some r) :
    Calls Try.prog 93 #[BP β_0 0, .int .i64 p1] w (Rt w F0 (fun g : Option Addr × Nat => .tuple #[]) (fun g => [Box β_0 [.slice g.1 (List.length r.Cells) g.2, .slice a_1 (List.length p0.Wet) c_1, .int .i64 r.Fuse, .bool r.Dead], OwnS kTCell g.1 g.2 r.Cells])) := by
  rw [spec_l18Room] at H
  refine Calls.enter (N := 21) (us := [_, _]) (F0 := F0) (Γ0 := [(2, Box β_0 [.slice a_0 (List.length p0.Cells) c_0, .slice a_1 (List.length p0.Wet) c_1, .int .i64 p0.Fuse, .bool p0.Dead]), (1, OwnS kTCell a_0 c_0 p0.Cells)]) Try.func93 rfl rfl rfl hs0 hF0 ?_
  refine HQ.block ?_
  obtain ⟨o19, h23, H⟩ := bnd H
  refine HQ.loop h23 0 (fun (s : (List TCell)) (g : Option Addr × Nat) => match s, g with | l6, (a7, c8) => [(0, BP β_0 0), (1, .int .i64 p1)]) (fun (s : (List TCell)) (g : Option Addr × Nat) => match s, g with | l6, (a7, c8) => [(2, Box β_0 [.slice a7 (List.length l6) c8, .slice a_1 (List.length p0.Wet) c_1, .int .i64 p0.Fuse, .bool p0.Dead]), (1, OwnS kTCell a7 c8 l6)]) (fun _ _ _ => False) (a_0, c_0) ⟨rfl, rfl, trivial⟩ ⟨rfl, rfl, trivial⟩ rfl ?_ ?_ ?_
  · clear H h23
    rintro l6 ⟨a7, c8⟩ o H
    rw [spec_l18Room_b0] at H
    refine HQ.keep [(0, _), (1, _)] ⟨rfl, rfl, trivial⟩ ?_
    refine HQ.keepR [(2, _), (1, _)] ⟨rfl, rfl, trivial⟩ rfl ?_
    refine HQ.seq ?_
    refine HQ.rseq ?_
    refine HQ.pu Pu.move ⟨rfl, trivial⟩ rfl rfl rfl ?_
    refine HQ.pu Pu.nilCheck ⟨rfl, trivial⟩ rfl rfl rfl ?_
    refine HQ.pu (Pu.fieldB fo27_0 rfl) ⟨rfl, trivial⟩ rfl rfl rfl ?_
    refine HQ.op [2] [2] (OT.loadB sc24 rfl) ⟨rfl, trivial⟩ ⟨rfl, trivial⟩ rfl rfl rfl rfl (fun _ => rfl) fun _ => ?_
    refine HQ.pu (Pu.len ul24) ⟨rfl, trivial⟩ rfl rfl rfl ?_
    refine HQ.pu Pu.move ⟨rfl, trivial⟩ rfl rfl rfl ?_
    refine HQ.pu Pu.leq ⟨rfl, rfl, trivial⟩ rfl rfl rfl ?_
    refine HQ.done ?_
    refine HQ.keep [(0, _), (1, _), (10, _)] ⟨rfl, rfl, rfl, trivial⟩ ?_
    rcases brk H with ⟨hc, H⟩ | ⟨hc, H⟩
    · refine HQ.condT rfl hc ?_
      clear hc
      refine HQ.skipThen ?_
      refine HQ.block ?_
      refine HQ.regionQ ?_
      refine HQ.pu Pu.move ⟨rfl, trivial⟩ rfl rfl rfl ?_
      refine HQ.pu Pu.move ⟨rfl, trivial⟩ rfl rfl rfl ?_
      refine HQ.pu Pu.nilCheck ⟨rfl, trivial⟩ rfl rfl rfl ?_
      refine HQ.pu (Pu.fieldB fo27_0 rfl) ⟨rfl, trivial⟩ rfl rfl rfl ?_
      refine HQ.op [2] [2] (OT.loadB sc24 rfl) ⟨rfl, trivial⟩ ⟨rfl, trivial⟩ rfl rfl rfl rfl (fun _ => rfl) fun _ => ?_
      refine HQ.pu (Pu.build (us := []) (cs := [.bool false, .slice none 0 0]) [] st113 rfl rfl rfl) trivial rfl rfl rfl ?_
      refine HQ.nil kU8 7 rfl ?_
      refine HQ.opD [7] [8] [7] (OT.buildO (u := .agg #[.bool false, .slice none 0 0]) (enc := encTCell) (hl := hlTCell) (sub := fun (x : TCell) => x.B) (.tmp 16) (⟨false, ([] : (List Int))⟩ : TCell) sl24.ul sl24.szE sl24.zc rfl rfl rfl rfl) ⟨rfl, trivial⟩ ⟨rfl, trivial⟩ rfl rfl rfl rfl (fun _ => rfl) fun ⟨a14, c15⟩ => ?_
      obtain ⟨h18, H⟩ := asr H
      refine HQ.opD [1, 8] [1] [8] (OT.appendO (K := kTCell) sl24 ul24 h18) ⟨rfl, rfl, trivial⟩ ⟨rfl, rfl, trivial⟩ rfl rfl rfl rfl (fun _ => rfl) fun ⟨a16, c17⟩ => ?_
      refine HQ.pu Pu.nilCheck ⟨rfl, trivial⟩ rfl rfl rfl ?_
      refine HQ.pu (Pu.fieldB fo27_0 rfl) ⟨rfl, trivial⟩ rfl rfl rfl ?_
      refine HQ.opN [2] [2] [] (OT.storeC (cs' := [.slice a16 (List.length (l6 ++ ([(⟨false, ([] : (List Int))⟩ : TCell)] : (List TCell)))) c17, .slice a_1 (List.length p0.Wet) c_1, .int .i64 p0.Fuse, .bool p0.Dead]) sz24 rfl rfl rfl rfl rfl) ⟨rfl, rfl, trivial⟩ ⟨rfl, trivial⟩ rfl rfl rfl (fun _ => rfl) fun _ => ?_
      refine HQ.done ?_
      refine HQ.keep [(0, _), (1, _)] ⟨rfl, rfl, trivial⟩ ?_
      refine HQ.blkN ?_
      obtain rfl := Option.some.inj H
      exact HQ.next (a16, c17) ⟨rfl, rfl, trivial⟩ ⟨rfl, rfl, trivial⟩ rfl
    · refine HQ.condF rfl hc ?_
      clear hc
      refine HQ.exit ?_
      refine HQ.thenE ?_
      obtain rfl := Option.some.inj H
      exact HQ.out (a7, c8) ⟨rfl, rfl, trivial⟩ ⟨rfl, rfl, trivial⟩ rfl
  · rintro l20 rfl ⟨a21, c22⟩
    clear h23
    replace H := H
    refine HQ.keep [(0, _), (1, _)] ⟨rfl, rfl, trivial⟩ ?_
    refine HQ.keepR [(2, _), (1, _)] ⟨rfl, rfl, trivial⟩ rfl ?_
    refine HQ.blkE ?_
    obtain rfl := Option.some.inj H
    exact HQ.fin (vs := []) Try.results93 (a21, c22) trivial rfl [2, 1] ⟨rfl, rfl, trivial⟩ rfl
  · exact fun r h a w hf => hf.elim

end Go.Proofs.Sx
