import Derived.Test.YtgfhnepkpbmbcaaBF2
import Derived.KernelRfl
namespace Go.Proofs.Sx
open Go.RowKit
set_option linter.unusedVariables false
set_option linter.unusedSimpArgs false
set_option maxRecDepth 20000
set_option maxHeartbeats 1000000
/-! spec.l18Copy -/
theorem spec_l18Copy_c {w : World} {k : Nat} {p0 : TDisk} {a_0 : Option Addr} {c_0 : Nat} {a_1 : Option Addr} {c_1 : Nat} (hb_0 : BorS kTCell a_0 c_0 p0.Cells w.heap (Lt w Nil)) (hb_1 : BorS kTWet a_1 c_1 p0.Wet w.heap (Lt w Nil)) {r : TDisk} (H : spec_l18Copy k p0 = some r) :
    Calls Try.prog 83 #[.agg #[.slice a_0 (List.length p0.Cells) c_0, .slice a_1 (List.length p0.Wet) c_1, .int .i64 p0.Fuse, .bool p0.Dead]] w (Rt w Nil (fun g : (Option Addr × Nat) × (Option Addr × Nat) => .agg #[.slice g.1.1 (List.length r.Cells) g.1.2, .slice g.2.1 (List.length r.Wet) g.2.2, .int .i64 r.Fuse, .bool r.Dead]) (fun g => [OwnS kTCell g.1.1 g.1.2 r.Cells, OwnS kTWet g.2.1 g.2.2 r.Wet])) := by
  rw [spec_l18Copy] at H
  refine Calls.enter0 (N := 66) (us := [_]) Try.func83 rfl rfl rfl ?_
  refine HQ.rseq ?_
  refine HQ.op [] [1] (OT.box (cs := [.slice a_0 (List.length p0.Cells) c_0, .slice a_1 (List.length p0.Wet) c_1, .int .i64 p0.Fuse, .bool p0.Dead]) rfl) ⟨rfl, trivial⟩ trivial rfl rfl rfl rfl (fun _ => rfl) fun b1 => ?_
  refine HQ.op [] [2] (OT.alloc zc42) trivial trivial rfl rfl rfl rfl (fun _ => rfl) fun b2 => ?_
  refine HQ.done ?_
  refine HQ.keep [(1, _), (2, _)] ⟨rfl, rfl, trivial⟩ ?_
  refine HQ.rseq ?_
  refine HQ.pu (Pu.fieldB fo42_2 rfl) ⟨rfl, trivial⟩ rfl rfl rfl ?_
  refine HQ.op [1] [1] (OT.loadB sc3 rfl) ⟨rfl, trivial⟩ ⟨rfl, trivial⟩ rfl rfl rfl rfl (fun _ => rfl) fun _ => ?_
  refine HQ.pu (Pu.fieldB fo42_3 rfl) ⟨rfl, trivial⟩ rfl rfl rfl ?_
  refine HQ.op [1] [1] (OT.loadB sc4 rfl) ⟨rfl, trivial⟩ ⟨rfl, trivial⟩ rfl rfl rfl rfl (fun _ => rfl) fun _ => ?_
  refine HQ.pu (Pu.build (us := [.int .i64 p0.Fuse, .bool p0.Dead]) (cs := [.slice none 0 0, .slice none 0 0, .int .i64 p0.Fuse, .bool p0.Dead]) [(2, .tmp 7), (3, .tmp 9)] st42 rfl rfl rfl) ⟨rfl, rfl, trivial⟩ rfl rfl rfl ?_
  refine HQ.op [] [3] (OT.alloc zc42) trivial trivial rfl rfl rfl rfl (fun _ => rfl) fun b3 => ?_
  refine HQ.opN [3] [3] [] (OT.storeC (cs' := [.slice none 0 0, .slice none 0 0, .int .i64 p0.Fuse, .bool p0.Dead]) sz42 rfl rfl rfl rfl rfl) ⟨rfl, rfl, trivial⟩ ⟨rfl, trivial⟩ rfl rfl rfl (fun _ => rfl) fun _ => ?_
  refine HQ.done ?_
  refine HQ.keep [(1, _), (2, _), (3, _)] ⟨rfl, rfl, rfl, trivial⟩ ?_
  refine HQ.seq ?_
  refine HQ.rseq ?_
  refine HQ.pu Pu.assign ⟨rfl, trivial⟩ rfl rfl rfl ?_
  refine HQ.done ?_
  refine HQ.keep [(1, _), (2, _), (3, _), (4, _)] ⟨rfl, rfl, rfl, rfl, trivial⟩ ?_
  refine HQ.block ?_
  refine HQ.nil kTCell 7 rfl ?_
  obtain ⟨o71, h149, H⟩ := bnd H
  refine HQ.loop h149 0 (fun (s : Int × (List TCell)) (g : Option Addr × Nat) => match s, g with | (i25, l26), (a27, c28) => [(1, BP b1 0), (2, BP b2 0), (3, BP b3 0), (4, .int .i64 i25)]) (fun (s : Int × (List TCell)) (g : Option Addr × Nat) => match s, g with | (i25, l26), (a27, c28) => [(1, Box b1 [.slice a_0 (List.length p0.Cells) c_0, .slice a_1 (List.length p0.Wet) c_1, .int .i64 p0.Fuse, .bool p0.Dead]), (2, Box b2 [.slice none 0 0, .slice none 0 0, .int .i64 0, .bool false]), (3, Box b3 [.slice a27 (List.length l26) c28, .slice none 0 0, .int .i64 p0.Fuse, .bool p0.Dead]), (7, OwnS kTCell a27 c28 l26)]) (fun _ _ _ => False) (none, 0) ⟨rfl, rfl, rfl, rfl, trivial⟩ ⟨rfl, rfl, rfl, rfl, trivial⟩ rfl ?_ ?_ ?_
  · clear H h149
    rintro ⟨i25, l26⟩ ⟨a27, c28⟩ o H
    rw [spec_l18Copy_b0] at H
    refine HQ.keep [(1, _), (2, _), (3, _), (4, _)] ⟨rfl, rfl, rfl, rfl, trivial⟩ ?_
    refine HQ.keepR [(1, _), (2, _), (3, _), (7, _)] ⟨rfl, rfl, rfl, rfl, trivial⟩ rfl ?_
    refine HQ.seq ?_
    refine HQ.rseq ?_
    refine HQ.pu Pu.move ⟨rfl, trivial⟩ rfl rfl rfl ?_
    refine HQ.pu (Pu.fieldB fo42_0 rfl) ⟨rfl, trivial⟩ rfl rfl rfl ?_
    refine HQ.op [1] [1] (OT.loadB sc39 rfl) ⟨rfl, trivial⟩ ⟨rfl, trivial⟩ rfl rfl rfl rfl (fun _ => rfl) fun _ => ?_
    refine HQ.pu (Pu.len ul39) ⟨rfl, trivial⟩ rfl rfl rfl ?_
    refine HQ.pu Pu.lss ⟨rfl, rfl, trivial⟩ rfl rfl rfl ?_
    refine HQ.done ?_
    refine HQ.keep [(1, _), (2, _), (3, _), (4, _), (15, _)] ⟨rfl, rfl, rfl, rfl, rfl, trivial⟩ ?_
    rcases brk H with ⟨hc, H⟩ | ⟨hc, H⟩
    · refine HQ.condT rfl hc ?_
      clear hc
      refine HQ.skipThen ?_
      refine HQ.seq ?_
      refine HQ.block ?_
      refine HQ.dStart mixd ?_
      obtain ⟨h51, H⟩ := asr H
      obtain ⟨h58, H⟩ := asr H
      obtain ⟨h65, H⟩ := asr H
      obtain ⟨⟨a52, c53⟩, hb54, hn55⟩ := BorS.nest hb_0 h51
      obtain ⟨⟨a59, c60⟩, hb61, hn62⟩ := BorS.nest hb_0 h58
      refine HQ.dPart [(1, BP b1 0), (2, BP b2 0), (3, BP b3 0), (4, .int .i64 i25)] 18 [⟨[], [], []⟩, ⟨[0], [0], [0]⟩, ⟨[], [], []⟩, ⟨[1], [1], [2]⟩, ⟨[], [], []⟩, ⟨[], [], [3, 4]⟩, ⟨[], [], [5]⟩, ⟨[], [], [6]⟩, ⟨[], [2], []⟩, ⟨[], [], []⟩, ⟨[1], [1], [9]⟩, ⟨[], [], []⟩, ⟨[], [], [10, 11]⟩, ⟨[], [], [12]⟩, ⟨[], [], [13]⟩, ⟨[2], [3], [8, 14]⟩, ⟨[], [], [7, 15]⟩, ⟨[3], [4], [16]⟩] [⟨none, none⟩, ⟨none, none⟩, ⟨some 8, some 15⟩, ⟨some 15, some 17⟩, ⟨some 17, none⟩] (fun (g50 : (Option Addr × Nat) × (Option Addr × Nat) × (Option Addr × Nat)) => [BP b3 0, .slice a27 (List.length l26) c28, BP b1 0, .slice a_0 (List.length p0.Cells) c_0, .int .i64 i25, EP a_0 i25 2 0, EP a_0 i25 2 0, .bool ((gt p0.Cells i25).Bad), .slice g50.1.1 (List.length ([] : (List Int))) g50.1.2, BP b1 0, .slice a_0 (List.length p0.Cells) c_0, .int .i64 i25, EP a_0 i25 2 0, EP a_0 i25 2 1, .slice a59 (List.length ((gt p0.Cells i25).B)) c60, .slice g50.2.1.1 (List.length (([] : (List Int)) ++ ((gt p0.Cells i25).B))) g50.2.1.2, .agg #[.bool ((gt p0.Cells i25).Bad), .slice g50.2.1.1 (List.length (([] : (List Int)) ++ ((gt p0.Cells i25).B))) g50.2.1.2], .slice g50.2.2.1 (List.length ([(⟨(gt p0.Cells i25).Bad, (([] : (List Int)) ++ ((gt p0.Cells i25).B))⟩ : TCell)] : (List TCell))) g50.2.2.2]) (fun (g50 : (Option Addr × Nat) × (Option Addr × Nat) × (Option Addr × Nat)) => [Box b3 [.slice a27 (List.length l26) c28, .slice none 0 0, .int .i64 p0.Fuse, .bool p0.Dead], Box b1 [.slice a_0 (List.length p0.Cells) c_0, .slice a_1 (List.length p0.Wet) c_1, .int .i64 p0.Fuse, .bool p0.Dead], OwnS kU8 g50.1.1 g50.1.2 ([] : (List Int)), OwnS kU8 g50.2.1.1 g50.2.1.2 (([] : (List Int)) ++ ((gt p0.Cells i25).B)), OwnS kTCell g50.2.2.1 g50.2.2.2 ([(⟨(gt p0.Cells i25).Bad, (([] : (List Int)) ++ ((gt p0.Cells i25).B))⟩ : TCell)] : (List TCell))]) ((none, 0), (none, 0), (none, 0)) [3, 1] [3, 1, 11] [] ⟨rfl, rfl, rfl, rfl, trivial⟩ ⟨rfl, rfl, trivial⟩ rfl (by kernel_rfl) (by kernel_rfl) (fun _ => rfl) (by kernel_rfl) (fun _ => rfl) rfl ⟨?_, ?_, ?_, ?_, ?_, ?_, ?_, ?_, ?_, ?_, ?_, ?_, ?_, ?_, ?_, ?_, ?_, ?_, trivial⟩ fun g50 => ?_
      · exact OpOK2.of (fun g50 => [(.tmp 3, BP b3 0)]) _ _ (fun g50 _ => g50) rfl rfl (fun _ => ⟨rfl, trivial⟩) (fun g50 => Pu.toOT (Pu.fieldB fo42_0 rfl)) (fun _ _ => ⟨rfl, rfl, ⟨rfl, rfl, rfl, rfl, rfl, trivial⟩⟩)
      · exact OpOK2.of (fun g50 => [(.tmp 18, BP b3 0)]) _ _ (fun g50 _ => g50) rfl rfl (fun _ => ⟨rfl, trivial⟩) (fun g50 => OT.loadB sc39 rfl) (fun _ _ => ⟨rfl, rfl, ⟨rfl, rfl, rfl, rfl, rfl, trivial⟩⟩)
      · exact OpOK2.of (fun g50 => [(.tmp 1, BP b1 0)]) _ _ (fun g50 _ => g50) rfl rfl (fun _ => ⟨rfl, trivial⟩) (fun g50 => Pu.toOT (Pu.fieldB fo42_0 rfl)) (fun _ _ => ⟨rfl, rfl, ⟨rfl, rfl, rfl, rfl, rfl, trivial⟩⟩)
      · exact OpOK2.of (fun g50 => [(.tmp 20, BP b1 0)]) _ _ (fun g50 _ => g50) rfl rfl (fun _ => ⟨rfl, trivial⟩) (fun g50 => OT.loadB sc39 rfl) (fun _ _ => ⟨rfl, rfl, ⟨rfl, rfl, rfl, rfl, rfl, trivial⟩⟩)
      · exact OpOK2.of (fun g50 => [(.tmp 4, .int .i64 i25)]) _ _ (fun g50 _ => g50) rfl rfl (fun _ => ⟨rfl, trivial⟩) (fun g50 => Pu.toOT Pu.move) (fun _ _ => ⟨rfl, rfl, ⟨rfl, rfl, rfl, rfl, rfl, trivial⟩⟩)
      · exact OpOK2.of (fun g50 => [(.tmp 21, .slice a_0 (List.length p0.Cells) c_0), (.tmp 22, .int .i64 i25)]) _ _ (fun g50 _ => g50) rfl rfl (fun _ => ⟨rfl, rfl, trivial⟩) (fun g50 => OT.indexB ul39 sz140 hb_0 h51) (fun _ _ => ⟨rfl, rfl, ⟨rfl, rfl, rfl, rfl, rfl, trivial⟩⟩)
      · exact OpOK2.of (fun g50 => [(.tmp 23, EP a_0 i25 2 0)]) _ _ (fun g50 _ => g50) rfl rfl (fun _ => ⟨rfl, trivial⟩) (fun g50 => Pu.toOT (Pu.fieldE fo140_0 rfl)) (fun _ _ => ⟨rfl, rfl, ⟨rfl, rfl, rfl, rfl, rfl, trivial⟩⟩)
      · exact OpOK2.of (fun g50 => [(.tmp 24, EP a_0 i25 2 0)]) _ _ (fun g50 _ => g50) rfl rfl (fun _ => ⟨rfl, trivial⟩) (fun g50 => OT.loadN (v := .bool ((gt p0.Cells i25).Bad)) sc4 hn55 hlTCell rfl) (fun _ _ => ⟨rfl, rfl, ⟨rfl, rfl, rfl, rfl, rfl, trivial⟩⟩)
      · exact OpOK2.of (fun g50 => []) _ _ (fun g50 x => (x, g50.2.1, g50.2.2)) rfl rfl (fun _ => trivial) (fun g50 => OT.buildF (us := []) (ys := ([] : (List Int))) (enc := (encI .u8)) (hl := fun _ => ⟨rfl, rfl⟩) [] sl37.ul sl37.szE sl37.zc rfl rfl rfl rfl rfl) (fun _ _ => ⟨rfl, rfl, ⟨rfl, rfl, rfl, rfl, rfl, trivial⟩⟩)
      · exact OpOK2.of (fun g50 => [(.tmp 1, BP b1 0)]) _ _ (fun g50 _ => g50) rfl rfl (fun _ => ⟨rfl, trivial⟩) (fun g50 => Pu.toOT (Pu.fieldB fo42_0 rfl)) (fun _ _ => ⟨rfl, rfl, ⟨rfl, rfl, rfl, rfl, rfl, trivial⟩⟩)
      · exact OpOK2.of (fun g50 => [(.tmp 27, BP b1 0)]) _ _ (fun g50 _ => g50) rfl rfl (fun _ => ⟨rfl, trivial⟩) (fun g50 => OT.loadB sc39 rfl) (fun _ _ => ⟨rfl, rfl, ⟨rfl, rfl, rfl, rfl, rfl, trivial⟩⟩)
      · exact OpOK2.of (fun g50 => [(.tmp 4, .int .i64 i25)]) _ _ (fun g50 _ => g50) rfl rfl (fun _ => ⟨rfl, trivial⟩) (fun g50 => Pu.toOT Pu.move) (fun _ _ => ⟨rfl, rfl, ⟨rfl, rfl, rfl, rfl, rfl, trivial⟩⟩)
      · exact OpOK2.of (fun g50 => [(.tmp 28, .slice a_0 (List.length p0.Cells) c_0), (.tmp 29, .int .i64 i25)]) _ _ (fun g50 _ => g50) rfl rfl (fun _ => ⟨rfl, rfl, trivial⟩) (fun g50 => OT.indexB ul39 sz140 hb_0 h58) (fun _ _ => ⟨rfl, rfl, ⟨rfl, rfl, rfl, rfl, rfl, trivial⟩⟩)
      · exact OpOK2.of (fun g50 => [(.tmp 30, EP a_0 i25 2 0)]) _ _ (fun g50 _ => g50) rfl rfl (fun _ => ⟨rfl, trivial⟩) (fun g50 => Pu.toOT (Pu.fieldE fo140_1 rfl)) (fun _ _ => ⟨rfl, rfl, ⟨rfl, rfl, rfl, rfl, rfl, trivial⟩⟩)
      · exact OpOK2.of (fun g50 => [(.tmp 31, EP a_0 i25 2 1)]) _ _ (fun g50 _ => g50) rfl rfl (fun _ => ⟨rfl, trivial⟩) (fun g50 => OT.loadN (v := .slice a59 (List.length ((gt p0.Cells i25).B)) c60) sc37 hn62 hlTCell rfl) (fun _ _ => ⟨rfl, rfl, ⟨rfl, rfl, rfl, rfl, rfl, trivial⟩⟩)
      · exact OpOK2.ofD [16] (by kernel_rfl) (fun g50 => [(.tmp 26, .slice g50.1.1 (List.length ([] : (List Int))) g50.1.2), (.tmp 32, .slice a59 (List.length ((gt p0.Cells i25).B)) c60)]) _ _ (fun g50 x => (g50.1, x, g50.2.2)) rfl rfl (fun _ => ⟨rfl, rfl, trivial⟩) (fun g50 => OT.appendF (enc := (encI .u8)) (hl := fun _ => ⟨rfl, rfl⟩) sl37 ul37 hb61 h65) (fun _ _ => ⟨⟨rfl, rfl, rfl, rfl, rfl, rfl, rfl, rfl, rfl, rfl, rfl, rfl, rfl, rfl, rfl, rfl, trivial, rfl, trivial⟩, rfl, ⟨rfl, rfl, rfl, rfl, rfl, trivial⟩⟩)
      · exact OpOK2.of (fun g50 => [(.tmp 25, .bool ((gt p0.Cells i25).Bad)), (.tmp 33, .slice g50.2.1.1 (List.length (([] : (List Int)) ++ ((gt p0.Cells i25).B))) g50.2.1.2)]) _ _ (fun g50 _ => g50) rfl rfl (fun _ => ⟨rfl, rfl, trivial⟩) (fun g50 => Pu.toOT (Pu.build (us := [.bool ((gt p0.Cells i25).Bad), .slice g50.2.1.1 (List.length (([] : (List Int)) ++ ((gt p0.Cells i25).B))) g50.2.1.2]) (cs := [.bool ((gt p0.Cells i25).Bad), .slice g50.2.1.1 (List.length (([] : (List Int)) ++ ((gt p0.Cells i25).B))) g50.2.1.2]) [(0, .tmp 25), (1, .tmp 33)] st140 rfl rfl rfl)) (fun _ _ => ⟨rfl, rfl, ⟨rfl, rfl, rfl, rfl, rfl, trivial⟩⟩)
      · exact OpOK2.of (fun g50 => [(.tmp 34, .agg #[.bool ((gt p0.Cells i25).Bad), .slice g50.2.1.1 (List.length (([] : (List Int)) ++ ((gt p0.Cells i25).B))) g50.2.1.2])]) _ _ (fun g50 x => (g50.1, g50.2.1, x)) rfl rfl (fun _ => ⟨rfl, trivial⟩) (fun g50 => OT.buildO (u := .agg #[.bool ((gt p0.Cells i25).Bad), .slice g50.2.1.1 (List.length (([] : (List Int)) ++ ((gt p0.Cells i25).B))) g50.2.1.2]) (enc := encTCell) (hl := hlTCell) (sub := fun (x : TCell) => x.B) (.tmp 34) (⟨(gt p0.Cells i25).Bad, (([] : (List Int)) ++ ((gt p0.Cells i25).B))⟩ : TCell) sl39.ul sl39.szE sl39.zc rfl rfl rfl rfl) (fun _ _ => ⟨rfl, rfl, ⟨rfl, rfl, rfl, rfl, rfl, trivial⟩⟩)
      refine HQ.keep [(1, _), (2, _), (3, _), (4, _), (19, _), (35, _)] ⟨rfl, rfl, rfl, rfl, rfl, rfl, trivial⟩ ?_
      refine HQ.keepR [(1, _), (2, _), (3, _), (7, _), (11, _)] ⟨rfl, rfl, rfl, rfl, rfl, trivial⟩ rfl ?_
      refine HQ.dRun 3 rfl rfl (by kernel_rfl) (by kernel_rfl) ?_
      obtain ⟨h70, H⟩ := asr H
      refine HQ.opD [7, 11] [7] [11] (OT.appendO (K := kTCell) sl39 ul39 h70) ⟨rfl, rfl, trivial⟩ ⟨rfl, rfl, trivial⟩ rfl rfl rfl rfl (fun _ => rfl) fun ⟨a68, c69⟩ => ?_
      refine HQ.pu (Pu.fieldB fo42_0 rfl) ⟨rfl, trivial⟩ rfl rfl rfl ?_
      refine HQ.opN [3] [3] [] (OT.storeC (cs' := [.slice a68 (List.length (l26 ++ ([(⟨(gt p0.Cells i25).Bad, (([] : (List Int)) ++ ((gt p0.Cells i25).B))⟩ : TCell)] : (List TCell)))) c69, .slice none 0 0, .int .i64 p0.Fuse, .bool p0.Dead]) sz39 rfl rfl rfl rfl rfl) ⟨rfl, rfl, trivial⟩ ⟨rfl, trivial⟩ rfl rfl rfl (fun _ => rfl) fun _ => ?_
      refine HQ.done ?_
      refine HQ.dEnd rfl ?_
      refine HQ.keep [(1, _), (2, _), (3, _), (4, _)] ⟨rfl, rfl, rfl, rfl, trivial⟩ ?_
      refine HQ.blkN ?_
      refine HQ.thenN ?_
      refine HQ.regionQ ?_
      refine HQ.pu Pu.move ⟨rfl, trivial⟩ rfl rfl rfl ?_
      refine HQ.pu Pu.add ⟨rfl, rfl, trivial⟩ rfl rfl rfl ?_
      refine HQ.pu Pu.assign ⟨rfl, trivial⟩ rfl rfl rfl ?_
      refine HQ.done ?_
      refine HQ.keep [(1, _), (2, _), (3, _), (4, _)] ⟨rfl, rfl, rfl, rfl, trivial⟩ ?_
      obtain rfl := Option.some.inj H
      exact HQ.next (a68, c69) ⟨rfl, rfl, rfl, rfl, trivial⟩ ⟨rfl, rfl, rfl, rfl, trivial⟩ rfl
    · refine HQ.condF rfl hc ?_
      clear hc
      refine HQ.exit ?_
      refine HQ.thenE ?_
      obtain rfl := Option.some.inj H
      exact HQ.out (a27, c28) ⟨rfl, rfl, rfl, rfl, trivial⟩ ⟨rfl, rfl, rfl, rfl, trivial⟩ rfl
  · rintro ⟨i72, l73⟩ rfl ⟨a74, c75⟩
    clear h149
    replace H := H
    refine HQ.keep [(1, _), (2, _), (3, _), (4, _)] ⟨rfl, rfl, rfl, rfl, trivial⟩ ?_
    refine HQ.keepR [(1, _), (2, _), (3, _), (7, _)] ⟨rfl, rfl, rfl, rfl, trivial⟩ rfl ?_
    refine HQ.blkE ?_
    refine HQ.thenN ?_
    refine HQ.seq ?_
    refine HQ.rseq ?_
    refine HQ.pu Pu.assign ⟨rfl, trivial⟩ rfl rfl rfl ?_
    refine HQ.done ?_
    refine HQ.keep [(1, _), (2, _), (3, _), (5, _)] ⟨rfl, rfl, rfl, rfl, trivial⟩ ?_
    refine HQ.block ?_
    refine HQ.nil kTWet 15 rfl ?_
    obtain ⟨o143, h148, H⟩ := bnd H
    refine HQ.loop h148 2 (fun (s : Int × (List TWet)) (g : Option Addr × Nat) => match s, g with | (i97, l98), (a99, c100) => [(1, BP b1 0), (2, BP b2 0), (3, BP b3 0), (5, .int .i64 i97)]) (fun (s : Int × (List TWet)) (g : Option Addr × Nat) => match s, g with | (i97, l98), (a99, c100) => [(1, Box b1 [.slice a_0 (List.length p0.Cells) c_0, .slice a_1 (List.length p0.Wet) c_1, .int .i64 p0.Fuse, .bool p0.Dead]), (2, Box b2 [.slice none 0 0, .slice none 0 0, .int .i64 0, .bool false]), (3, Box b3 [.slice a74 (List.length l73) c75, .slice a99 (List.length l98) c100, .int .i64 p0.Fuse, .bool p0.Dead]), (7, OwnS kTCell a74 c75 l73), (15, OwnS kTWet a99 c100 l98)]) (fun _ _ _ => False) (none, 0) ⟨rfl, rfl, rfl, rfl, trivial⟩ ⟨rfl, rfl, rfl, rfl, rfl, trivial⟩ rfl ?_ ?_ ?_
    · clear H h148
      rintro ⟨i97, l98⟩ ⟨a99, c100⟩ o H
      rw [spec_l18Copy_b1] at H
      refine HQ.keep [(1, _), (2, _), (3, _), (5, _)] ⟨rfl, rfl, rfl, rfl, trivial⟩ ?_
      refine HQ.keepR [(1, _), (2, _), (3, _), (7, _), (15, _)] ⟨rfl, rfl, rfl, rfl, rfl, trivial⟩ rfl ?_
      refine HQ.seq ?_
      refine HQ.rseq ?_
      refine HQ.pu Pu.move ⟨rfl, trivial⟩ rfl rfl rfl ?_
      refine HQ.pu (Pu.fieldB fo42_1 rfl) ⟨rfl, trivial⟩ rfl rfl rfl ?_
      refine HQ.op [1] [1] (OT.loadB sc40 rfl) ⟨rfl, trivial⟩ ⟨rfl, trivial⟩ rfl rfl rfl rfl (fun _ => rfl) fun _ => ?_
      refine HQ.pu (Pu.len ul40) ⟨rfl, trivial⟩ rfl rfl rfl ?_
      refine HQ.pu Pu.lss ⟨rfl, rfl, trivial⟩ rfl rfl rfl ?_
      refine HQ.done ?_
      refine HQ.keep [(1, _), (2, _), (3, _), (5, _), (42, _)] ⟨rfl, rfl, rfl, rfl, rfl, trivial⟩ ?_
      rcases brk H with ⟨hc, H⟩ | ⟨hc, H⟩
      · refine HQ.condT rfl hc ?_
        clear hc
        refine HQ.skipThen ?_
        refine HQ.seq ?_
        refine HQ.block ?_
        refine HQ.dStart mixd ?_
        obtain ⟨h123, H⟩ := asr H
        obtain ⟨h130, H⟩ := asr H
        obtain ⟨h137, H⟩ := asr H
        obtain ⟨⟨a124, c125⟩, hb126, hn127⟩ := BorS.nest hb_1 h123
        obtain ⟨⟨a131, c132⟩, hb133, hn134⟩ := BorS.nest hb_1 h130
        refine HQ.dPart [(1, BP b1 0), (2, BP b2 0), (3, BP b3 0), (5, .int .i64 i97)] 18 [⟨[], [], []⟩, ⟨[0], [0], [0]⟩, ⟨[], [], []⟩, ⟨[1], [1], [2]⟩, ⟨[], [], []⟩, ⟨[], [], [3, 4]⟩, ⟨[], [], [5]⟩, ⟨[], [], [6]⟩, ⟨[], [2], []⟩, ⟨[], [], []⟩, ⟨[1], [1], [9]⟩, ⟨[], [], []⟩, ⟨[], [], [10, 11]⟩, ⟨[], [], [12]⟩, ⟨[], [], [13]⟩, ⟨[2], [3], [8, 14]⟩, ⟨[], [], [7, 15]⟩, ⟨[3], [4], [16]⟩] [⟨none, none⟩, ⟨none, none⟩, ⟨some 8, some 15⟩, ⟨some 15, some 17⟩, ⟨some 17, none⟩] (fun (g122 : (Option Addr × Nat) × (Option Addr × Nat) × (Option Addr × Nat)) => [BP b3 1, .slice a99 (List.length l98) c100, BP b1 1, .slice a_1 (List.length p0.Wet) c_1, .int .i64 i97, EP a_1 i97 2 0, EP a_1 i97 2 0, .int .i64 ((gt p0.Wet i97).At), .slice g122.1.1 (List.length ([] : (List Int))) g122.1.2, BP b1 1, .slice a_1 (List.length p0.Wet) c_1, .int .i64 i97, EP a_1 i97 2 0, EP a_1 i97 2 1, .slice a131 (List.length ((gt p0.Wet i97).B)) c132, .slice g122.2.1.1 (List.length (([] : (List Int)) ++ ((gt p0.Wet i97).B))) g122.2.1.2, .agg #[.int .i64 ((gt p0.Wet i97).At), .slice g122.2.1.1 (List.length (([] : (List Int)) ++ ((gt p0.Wet i97).B))) g122.2.1.2], .slice g122.2.2.1 (List.length ([(⟨(gt p0.Wet i97).At, (([] : (List Int)) ++ ((gt p0.Wet i97).B))⟩ : TWet)] : (List TWet))) g122.2.2.2]) (fun (g122 : (Option Addr × Nat) × (Option Addr × Nat) × (Option Addr × Nat)) => [Box b3 [.slice a74 (List.length l73) c75, .slice a99 (List.length l98) c100, .int .i64 p0.Fuse, .bool p0.Dead], Box b1 [.slice a_0 (List.length p0.Cells) c_0, .slice a_1 (List.length p0.Wet) c_1, .int .i64 p0.Fuse, .bool p0.Dead], OwnS kU8 g122.1.1 g122.1.2 ([] : (List Int)), OwnS kU8 g122.2.1.1 g122.2.1.2 (([] : (List Int)) ++ ((gt p0.Wet i97).B)), OwnS kTWet g122.2.2.1 g122.2.2.2 ([(⟨(gt p0.Wet i97).At, (([] : (List Int)) ++ ((gt p0.Wet i97).B))⟩ : TWet)] : (List TWet))]) ((none, 0), (none, 0), (none, 0)) [3, 1] [3, 1, 19] [] ⟨rfl, rfl, rfl, rfl, trivial⟩ ⟨rfl, rfl, trivial⟩ rfl (by kernel_rfl) (by kernel_rfl) (fun _ => rfl) (by kernel_rfl) (fun _ => rfl) rfl ⟨?_, ?_, ?_, ?_, ?_, ?_, ?_, ?_, ?_, ?_, ?_, ?_, ?_, ?_, ?_, ?_, ?_, ?_, trivial⟩ fun g122 => ?_
        · exact OpOK2.of (fun g122 => [(.tmp 3, BP b3 0)]) _ _ (fun g122 _ => g122) rfl rfl (fun _ => ⟨rfl, trivial⟩) (fun g122 => Pu.toOT (Pu.fieldB fo42_1 rfl)) (fun _ _ => ⟨rfl, rfl, ⟨rfl, rfl, rfl, rfl, rfl, trivial⟩⟩)
        · exact OpOK2.of (fun g122 => [(.tmp 45, BP b3 1)]) _ _ (fun g122 _ => g122) rfl rfl (fun _ => ⟨rfl, trivial⟩) (fun g122 => OT.loadB sc40 rfl) (fun _ _ => ⟨rfl, rfl, ⟨rfl, rfl, rfl, rfl, rfl, trivial⟩⟩)
        · exact OpOK2.of (fun g122 => [(.tmp 1, BP b1 0)]) _ _ (fun g122 _ => g122) rfl rfl (fun _ => ⟨rfl, trivial⟩) (fun g122 => Pu.toOT (Pu.fieldB fo42_1 rfl)) (fun _ _ => ⟨rfl, rfl, ⟨rfl, rfl, rfl, rfl, rfl, trivial⟩⟩)
        · exact OpOK2.of (fun g122 => [(.tmp 47, BP b1 1)]) _ _ (fun g122 _ => g122) rfl rfl (fun _ => ⟨rfl, trivial⟩) (fun g122 => OT.loadB sc40 rfl) (fun _ _ => ⟨rfl, rfl, ⟨rfl, rfl, rfl, rfl, rfl, trivial⟩⟩)
        · exact OpOK2.of (fun g122 => [(.tmp 5, .int .i64 i97)]) _ _ (fun g122 _ => g122) rfl rfl (fun _ => ⟨rfl, trivial⟩) (fun g122 => Pu.toOT Pu.move) (fun _ _ => ⟨rfl, rfl, ⟨rfl, rfl, rfl, rfl, rfl, trivial⟩⟩)
        · exact OpOK2.of (fun g122 => [(.tmp 48, .slice a_1 (List.length p0.Wet) c_1), (.tmp 49, .int .i64 i97)]) _ _ (fun g122 _ => g122) rfl rfl (fun _ => ⟨rfl, rfl, trivial⟩) (fun g122 => OT.indexB ul40 sz130 hb_1 h123) (fun _ _ => ⟨rfl, rfl, ⟨rfl, rfl, rfl, rfl, rfl, trivial⟩⟩)
        · exact OpOK2.of (fun g122 => [(.tmp 50, EP a_1 i97 2 0)]) _ _ (fun g122 _ => g122) rfl rfl (fun _ => ⟨rfl, trivial⟩) (fun g122 => Pu.toOT (Pu.fieldE fo130_0 rfl)) (fun _ _ => ⟨rfl, rfl, ⟨rfl, rfl, rfl, rfl, rfl, trivial⟩⟩)
        · exact OpOK2.of (fun g122 => [(.tmp 51, EP a_1 i97 2 0)]) _ _ (fun g122 _ => g122) rfl rfl (fun _ => ⟨rfl, trivial⟩) (fun g122 => OT.loadN (v := .int .i64 ((gt p0.Wet i97).At)) sc3 hn127 hlTWet rfl) (fun _ _ => ⟨rfl, rfl, ⟨rfl, rfl, rfl, rfl, rfl, trivial⟩⟩)
        · exact OpOK2.of (fun g122 => []) _ _ (fun g122 x => (x, g122.2.1, g122.2.2)) rfl rfl (fun _ => trivial) (fun g122 => OT.buildF (us := []) (ys := ([] : (List Int))) (enc := (encI .u8)) (hl := fun _ => ⟨rfl, rfl⟩) [] sl37.ul sl37.szE sl37.zc rfl rfl rfl rfl rfl) (fun _ _ => ⟨rfl, rfl, ⟨rfl, rfl, rfl, rfl, rfl, trivial⟩⟩)
        · exact OpOK2.of (fun g122 => [(.tmp 1, BP b1 0)]) _ _ (fun g122 _ => g122) rfl rfl (fun _ => ⟨rfl, trivial⟩) (fun g122 => Pu.toOT (Pu.fieldB fo42_1 rfl)) (fun _ _ => ⟨rfl, rfl, ⟨rfl, rfl, rfl, rfl, rfl, trivial⟩⟩)
        · exact OpOK2.of (fun g122 => [(.tmp 54, BP b1 1)]) _ _ (fun g122 _ => g122) rfl rfl (fun _ => ⟨rfl, trivial⟩) (fun g122 => OT.loadB sc40 rfl) (fun _ _ => ⟨rfl, rfl, ⟨rfl, rfl, rfl, rfl, rfl, trivial⟩⟩)
        · exact OpOK2.of (fun g122 => [(.tmp 5, .int .i64 i97)]) _ _ (fun g122 _ => g122) rfl rfl (fun _ => ⟨rfl, trivial⟩) (fun g122 => Pu.toOT Pu.move) (fun _ _ => ⟨rfl, rfl, ⟨rfl, rfl, rfl, rfl, rfl, trivial⟩⟩)
        · exact OpOK2.of (fun g122 => [(.tmp 55, .slice a_1 (List.length p0.Wet) c_1), (.tmp 56, .int .i64 i97)]) _ _ (fun g122 _ => g122) rfl rfl (fun _ => ⟨rfl, rfl, trivial⟩) (fun g122 => OT.indexB ul40 sz130 hb_1 h130) (fun _ _ => ⟨rfl, rfl, ⟨rfl, rfl, rfl, rfl, rfl, trivial⟩⟩)
        · exact OpOK2.of (fun g122 => [(.tmp 57, EP a_1 i97 2 0)]) _ _ (fun g122 _ => g122) rfl rfl (fun _ => ⟨rfl, trivial⟩) (fun g122 => Pu.toOT (Pu.fieldE fo130_1 rfl)) (fun _ _ => ⟨rfl, rfl, ⟨rfl, rfl, rfl, rfl, rfl, trivial⟩⟩)
        · exact OpOK2.of (fun g122 => [(.tmp 58, EP a_1 i97 2 1)]) _ _ (fun g122 _ => g122) rfl rfl (fun _ => ⟨rfl, trivial⟩) (fun g122 => OT.loadN (v := .slice a131 (List.length ((gt p0.Wet i97).B)) c132) sc37 hn134 hlTWet rfl) (fun _ _ => ⟨rfl, rfl, ⟨rfl, rfl, rfl, rfl, rfl, trivial⟩⟩)
        · exact OpOK2.ofD [16] (by kernel_rfl) (fun g122 => [(.tmp 53, .slice g122.1.1 (List.length ([] : (List Int))) g122.1.2), (.tmp 59, .slice a131 (List.length ((gt p0.Wet i97).B)) c132)]) _ _ (fun g122 x => (g122.1, x, g122.2.2)) rfl rfl (fun _ => ⟨rfl, rfl, trivial⟩) (fun g122 => OT.appendF (enc := (encI .u8)) (hl := fun _ => ⟨rfl, rfl⟩) sl37 ul37 hb133 h137) (fun _ _ => ⟨⟨rfl, rfl, rfl, rfl, rfl, rfl, rfl, rfl, rfl, rfl, rfl, rfl, rfl, rfl, rfl, rfl, trivial, rfl, trivial⟩, rfl, ⟨rfl, rfl, rfl, rfl, rfl, trivial⟩⟩)
        · exact OpOK2.of (fun g122 => [(.tmp 52, .int .i64 ((gt p0.Wet i97).At)), (.tmp 60, .slice g122.2.1.1 (List.length (([] : (List Int)) ++ ((gt p0.Wet i97).B))) g122.2.1.2)]) _ _ (fun g122 _ => g122) rfl rfl (fun _ => ⟨rfl, rfl, trivial⟩) (fun g122 => Pu.toOT (Pu.build (us := [.int .i64 ((gt p0.Wet i97).At), .slice g122.2.1.1 (List.length (([] : (List Int)) ++ ((gt p0.Wet i97).B))) g122.2.1.2]) (cs := [.int .i64 ((gt p0.Wet i97).At), .slice g122.2.1.1 (List.length (([] : (List Int)) ++ ((gt p0.Wet i97).B))) g122.2.1.2]) [(0, .tmp 52), (1, .tmp 60)] st130 rfl rfl rfl)) (fun _ _ => ⟨rfl, rfl, ⟨rfl, rfl, rfl, rfl, rfl, trivial⟩⟩)
        · exact OpOK2.of (fun g122 => [(.tmp 61, .agg #[.int .i64 ((gt p0.Wet i97).At), .slice g122.2.1.1 (List.length (([] : (List Int)) ++ ((gt p0.Wet i97).B))) g122.2.1.2])]) _ _ (fun g122 x => (g122.1, g122.2.1, x)) rfl rfl (fun _ => ⟨rfl, trivial⟩) (fun g122 => OT.buildO (u := .agg #[.int .i64 ((gt p0.Wet i97).At), .slice g122.2.1.1 (List.length (([] : (List Int)) ++ ((gt p0.Wet i97).B))) g122.2.1.2]) (enc := encTWet) (hl := hlTWet) (sub := fun (x : TWet) => x.B) (.tmp 61) (⟨(gt p0.Wet i97).At, (([] : (List Int)) ++ ((gt p0.Wet i97).B))⟩ : TWet) sl40.ul sl40.szE sl40.zc rfl rfl rfl rfl) (fun _ _ => ⟨rfl, rfl, ⟨rfl, rfl, rfl, rfl, rfl, trivial⟩⟩)
        refine HQ.keep [(1, _), (2, _), (3, _), (5, _), (46, _), (62, _)] ⟨rfl, rfl, rfl, rfl, rfl, rfl, trivial⟩ ?_
        refine HQ.keepR [(1, _), (2, _), (3, _), (7, _), (15, _), (19, _)] ⟨rfl, rfl, rfl, rfl, rfl, rfl, trivial⟩ rfl ?_
        refine HQ.dRun 3 rfl rfl (by kernel_rfl) (by kernel_rfl) ?_
        obtain ⟨h142, H⟩ := asr H
        refine HQ.opD [15, 19] [15] [19] (OT.appendO (K := kTWet) sl40 ul40 h142) ⟨rfl, rfl, trivial⟩ ⟨rfl, rfl, trivial⟩ rfl rfl rfl rfl (fun _ => rfl) fun ⟨a140, c141⟩ => ?_
        refine HQ.pu (Pu.fieldB fo42_1 rfl) ⟨rfl, trivial⟩ rfl rfl rfl ?_
        refine HQ.opN [3] [3] [] (OT.storeC (cs' := [.slice a74 (List.length l73) c75, .slice a140 (List.length (l98 ++ ([(⟨(gt p0.Wet i97).At, (([] : (List Int)) ++ ((gt p0.Wet i97).B))⟩ : TWet)] : (List TWet)))) c141, .int .i64 p0.Fuse, .bool p0.Dead]) sz40 rfl rfl rfl rfl rfl) ⟨rfl, rfl, trivial⟩ ⟨rfl, trivial⟩ rfl rfl rfl (fun _ => rfl) fun _ => ?_
        refine HQ.done ?_
        refine HQ.dEnd rfl ?_
        refine HQ.keep [(1, _), (2, _), (3, _), (5, _)] ⟨rfl, rfl, rfl, rfl, trivial⟩ ?_
        refine HQ.blkN ?_
        refine HQ.thenN ?_
        refine HQ.regionQ ?_
        refine HQ.pu Pu.move ⟨rfl, trivial⟩ rfl rfl rfl ?_
        refine HQ.pu Pu.add ⟨rfl, rfl, trivial⟩ rfl rfl rfl ?_
        refine HQ.pu Pu.assign ⟨rfl, trivial⟩ rfl rfl rfl ?_
        refine HQ.done ?_
        refine HQ.keep [(1, _), (2, _), (3, _), (5, _)] ⟨rfl, rfl, rfl, rfl, trivial⟩ ?_
        obtain rfl := Option.some.inj H
        exact HQ.next (a140, c141) ⟨rfl, rfl, rfl, rfl, trivial⟩ ⟨rfl, rfl, rfl, rfl, rfl, trivial⟩ rfl
      · refine HQ.condF rfl hc ?_
        clear hc
        refine HQ.exit ?_
        refine HQ.thenE ?_
        obtain rfl := Option.some.inj H
        exact HQ.out (a99, c100) ⟨rfl, rfl, rfl, rfl, trivial⟩ ⟨rfl, rfl, rfl, rfl, rfl, trivial⟩ rfl
    · rintro ⟨i144, l145⟩ rfl ⟨a146, c147⟩
      clear h148
      replace H := H
      refine HQ.keep [(1, _), (2, _), (3, _), (5, _)] ⟨rfl, rfl, rfl, rfl, trivial⟩ ?_
      refine HQ.keepR [(1, _), (2, _), (3, _), (7, _), (15, _)] ⟨rfl, rfl, rfl, rfl, rfl, trivial⟩ rfl ?_
      refine HQ.blkE ?_
      refine HQ.thenN ?_
      refine HQ.rseq ?_
      refine HQ.op [3] [3] (OT.loadBA (vs := [.slice a74 (List.length l73) c75, .slice a146 (List.length l145) c147, .int .i64 p0.Fuse, .bool p0.Dead]) ag42 sz42 rfl rfl) ⟨rfl, trivial⟩ ⟨rfl, trivial⟩ rfl rfl rfl rfl (fun _ => rfl) fun _ => ?_
      refine HQ.opN [2] [2] [] (OT.storeC (cs' := [.slice a74 (List.length l73) c75, .slice a146 (List.length l145) c147, .int .i64 p0.Fuse, .bool p0.Dead]) sz42 rfl rfl rfl rfl rfl) ⟨rfl, rfl, trivial⟩ ⟨rfl, trivial⟩ rfl rfl rfl (fun _ => rfl) fun _ => ?_
      refine HQ.done ?_
      refine HQ.keep [(2, _)] ⟨rfl, trivial⟩ ?_
      refine HQ.ret ?_
      obtain rfl := Option.some.inj H
      exact HQ.fin (vs := [_]) Try.results83 ((a74, c75), (a146, c147)) ⟨⟨_, _, 2, rfl, rfl, ag42, sz42, rfl⟩, trivial⟩ rfl [7, 15] ⟨rfl, rfl, trivial⟩ rfl
    · exact fun r h a w hf => hf.elim
  · exact fun r h a w hf => hf.elim

/-! spec.l1In -/
theorem spec_l1In_c {w : World} {p0 : Int} {p1 : Int} {p2 : Int}   {r : Bool} (H : spec_l1In p0 p1 p2 = some r) :
    Calls Try.prog 85 #[.int .i64 p0, .int .i64 p1, .int .i64 p2] w (Rt w Nil (fun _ : Unit => .bool r) (fun _ => [])) := by
  rw [spec_l1In] at H
  refine Calls.enter0 (N := 15) (us := [_, _, _]) Try.func85 rfl rfl rfl ?_
  refine HQ.rseq ?_
  refine HQ.pu Pu.assign ⟨rfl, trivial⟩ rfl rfl rfl ?_
  refine HQ.done ?_
  refine HQ.keep [(0, _), (1, _), (2, _), (6, _)] ⟨rfl, rfl, rfl, rfl, trivial⟩ ?_
  refine HQ.rseq ?_
  refine HQ.pu Pu.move ⟨rfl, trivial⟩ rfl rfl rfl ?_
  refine HQ.pu Pu.move ⟨rfl, trivial⟩ rfl rfl rfl ?_
  refine HQ.pu Pu.geq ⟨rfl, rfl, trivial⟩ rfl rfl rfl ?_
  refine HQ.pu Pu.move ⟨rfl, trivial⟩ rfl rfl rfl ?_
  refine HQ.cutAt 4 [(14, .bool ((decide (p0 ≥ p1)) && (decide (p0 ≤ p2)))), (6, .bool false)] [] ?_ ?_
  · rcases Bool.eq_false_or_eq_true (decide (p0 ≥ p1)) with hg1 | hg1
    · refine HQ.on rfl rfl hg1 ?_
      refine HQ.pu Pu.move ⟨rfl, trivial⟩ rfl rfl rfl ?_
      refine HQ.on rfl rfl hg1 ?_
      refine HQ.pu Pu.move ⟨rfl, trivial⟩ rfl rfl rfl ?_
      refine HQ.on rfl rfl hg1 ?_
      refine HQ.pu Pu.leq ⟨rfl, rfl, trivial⟩ rfl rfl rfl ?_
      refine HQ.pu (Pu.pickAT hg1) ⟨rfl, rfl, trivial⟩ rfl rfl rfl ?_
      exact HQ.mid ⟨rfl, rfl, trivial⟩ trivial rfl
    · refine HQ.off rfl rfl hg1 rfl ?_
      refine HQ.off rfl rfl hg1 rfl ?_
      refine HQ.off rfl rfl hg1 rfl ?_
      refine HQ.pu (Pu.pickAF (u := (decide (p0 ≤ p2))) hg1) ⟨rfl, rfl, trivial⟩ rfl rfl rfl ?_
      exact HQ.mid ⟨rfl, rfl, trivial⟩ trivial rfl
  refine HQ.pu Pu.assign ⟨rfl, trivial⟩ rfl rfl rfl ?_
  refine HQ.done ?_
  refine HQ.keep [(6, _)] ⟨rfl, trivial⟩ ?_
  refine HQ.ret ?_
  obtain rfl := Option.some.inj H
  exact HQ.fin (vs := [_]) Try.results85 () ⟨rfl, trivial⟩ rfl [] trivial rfl

/-! spec.BoxOk -/
theorem spec_BoxOk_c {w : World} {p0 : TBox}   {r : Bool} (H : spec_BoxOk p0 = some r) :
    Calls Try.prog 181 #[.agg #[.int .i64 p0.X0, .int .i64 p0.Y0, .int .i64 p0.X1, .int .i64 p0.Y1]] w (Rt w Nil (fun _ : Unit => .bool r) (fun _ => [])) := by
  rw [spec_BoxOk] at H
  refine Calls.enter0 (N := 25) (us := [_]) Try.func181 rfl rfl rfl ?_
  refine HQ.rseq ?_
  refine HQ.op [] [1] (OT.box (cs := [.int .i64 p0.X0, .int .i64 p0.Y0, .int .i64 p0.X1, .int .i64 p0.Y1]) rfl) ⟨rfl, trivial⟩ trivial rfl rfl rfl rfl (fun _ => rfl) fun b1 => ?_
  refine HQ.pu Pu.assign ⟨rfl, trivial⟩ rfl rfl rfl ?_
  refine HQ.done ?_
  refine HQ.keep [(1, _), (2, _)] ⟨rfl, rfl, trivial⟩ ?_
  refine HQ.rseq ?_
  refine HQ.pu (Pu.fieldB fo194_0 rfl) ⟨rfl, trivial⟩ rfl rfl rfl ?_
  refine HQ.op [1] [1] (OT.loadB sc3 rfl) ⟨rfl, trivial⟩ ⟨rfl, trivial⟩ rfl rfl rfl rfl (fun _ => rfl) fun _ => ?_
  obtain ⟨t2, h3, H⟩ := bnd H
  refine HQ.op [] [] (OT.call (us := [_, _, _]) (Pre := []) [.tmp 4, .const (.int .i64 0), .const (.int .i64 255)] Try.call85 rfl rfl fun w F hs hF hp => spec_l1In_c h3) ⟨rfl, rfl, rfl, rfl, trivial⟩ trivial rfl rfl rfl rfl (fun _ => rfl) fun _ => ?_
  refine HQ.pu Pu.move ⟨rfl, trivial⟩ rfl rfl rfl ?_
  obtain ⟨c7, h8, H⟩ := bnd H
  refine HQ.cutAt 4 [(10, .bool c7), (1, BP b1 0), (2, .bool false)] [(1, Box b1 [.int .i64 p0.X0, .int .i64 p0.Y0, .int .i64 p0.X1, .int .i64 p0.Y1])] ?_ ?_
  · clear H
    have H := h8
    rcases brk H with ⟨hg4, H⟩ | ⟨hg4, H⟩
    · refine HQ.on rfl rfl hg4 ?_
      refine HQ.pu (Pu.fieldB fo194_1 rfl) ⟨rfl, trivial⟩ rfl rfl rfl ?_
      refine HQ.on rfl rfl hg4 ?_
      refine HQ.op [1] [1] (OT.loadB sc3 rfl) ⟨rfl, trivial⟩ ⟨rfl, trivial⟩ rfl rfl rfl rfl (fun _ => rfl) fun _ => ?_
      refine HQ.on rfl rfl hg4 ?_
      obtain ⟨t5, h6, H⟩ := bnd H
      refine HQ.op [] [] (OT.call (us := [_, _, _]) (Pre := []) [.tmp 8, .const (.int .i64 0), .const (.int .i64 255)] Try.call85 rfl rfl fun w F hs hF hp => spec_l1In_c h6) ⟨rfl, rfl, rfl, rfl, trivial⟩ trivial rfl rfl rfl rfl (fun _ => rfl) fun _ => ?_
      obtain rfl := Option.some.inj H
      refine HQ.pu (Pu.pickC1 hg4) ⟨rfl, rfl, trivial⟩ rfl rfl rfl ?_
      exact HQ.mid ⟨rfl, rfl, rfl, trivial⟩ ⟨rfl, trivial⟩ rfl
    · obtain rfl := Option.some.inj H
      refine HQ.off rfl rfl hg4 rfl ?_
      refine HQ.off rfl rfl hg4 rfl ?_
      refine HQ.off rfl rfl hg4 rfl ?_
      refine HQ.pu (Pu.pickC0 hg4) ⟨rfl, rfl, trivial⟩ rfl rfl rfl ?_
      exact HQ.mid ⟨rfl, rfl, rfl, trivial⟩ ⟨rfl, trivial⟩ rfl
  refine HQ.pu Pu.move ⟨rfl, trivial⟩ rfl rfl rfl ?_
  obtain ⟨c12, h13, H⟩ := bnd H
  refine HQ.cutAt 6 [(17, .bool c12), (1, BP b1 0), (2, .bool false)] [(1, Box b1 [.int .i64 p0.X0, .int .i64 p0.Y0, .int .i64 p0.X1, .int .i64 p0.Y1])] ?_ ?_
  · clear H
    have H := h13
    rcases brk H with ⟨hg9, H⟩ | ⟨hg9, H⟩
    · refine HQ.on rfl rfl hg9 ?_
      refine HQ.pu (Pu.fieldB fo194_2 rfl) ⟨rfl, trivial⟩ rfl rfl rfl ?_
      refine HQ.on rfl rfl hg9 ?_
      refine HQ.op [1] [1] (OT.loadB sc3 rfl) ⟨rfl, trivial⟩ ⟨rfl, trivial⟩ rfl rfl rfl rfl (fun _ => rfl) fun _ => ?_
      refine HQ.on rfl rfl hg9 ?_
      refine HQ.pu (Pu.fieldB fo194_0 rfl) ⟨rfl, trivial⟩ rfl rfl rfl ?_
      refine HQ.on rfl rfl hg9 ?_
      refine HQ.op [1] [1] (OT.loadB sc3 rfl) ⟨rfl, trivial⟩ ⟨rfl, trivial⟩ rfl rfl rfl rfl (fun _ => rfl) fun _ => ?_
      refine HQ.on rfl rfl hg9 ?_
      obtain ⟨t10, h11, H⟩ := bnd H
      refine HQ.op [] [] (OT.call (us := [_, _, _]) (Pre := []) [.tmp 13, .tmp 15, .const (.int .i64 255)] Try.call85 rfl rfl fun w F hs hF hp => spec_l1In_c h11) ⟨rfl, rfl, rfl, rfl, trivial⟩ trivial rfl rfl rfl rfl (fun _ => rfl) fun _ => ?_
      obtain rfl := Option.some.inj H
      refine HQ.pu (Pu.pickC1 hg9) ⟨rfl, rfl, trivial⟩ rfl rfl rfl ?_
      exact HQ.mid ⟨rfl, rfl, rfl, trivial⟩ ⟨rfl, trivial⟩ rfl
    · obtain rfl := Option.some.inj H
      refine HQ.off rfl rfl hg9 rfl ?_
      refine HQ.off rfl rfl hg9 rfl ?_
      refine HQ.off rfl rfl hg9 rfl ?_
      refine HQ.off rfl rfl hg9 rfl ?_
      refine HQ.off rfl rfl hg9 rfl ?_
      refine HQ.pu (Pu.pickC0 hg9) ⟨rfl, rfl, trivial⟩ rfl rfl rfl ?_
      exact HQ.mid ⟨rfl, rfl, rfl, trivial⟩ ⟨rfl, trivial⟩ rfl
  refine HQ.pu Pu.move ⟨rfl, trivial⟩ rfl rfl rfl ?_
  obtain ⟨c17, h18, H⟩ := bnd H
  refine HQ.cutAt 6 [(24, .bool c17), (2, .bool false)] [(1, Box b1 [.int .i64 p0.X0, .int .i64 p0.Y0, .int .i64 p0.X1, .int .i64 p0.Y1])] ?_ ?_
  · clear H
    have H := h18
    rcases brk H with ⟨hg14, H⟩ | ⟨hg14, H⟩
    · refine HQ.on rfl rfl hg14 ?_
      refine HQ.pu (Pu.fieldB fo194_3 rfl) ⟨rfl, trivial⟩ rfl rfl rfl ?_
      refine HQ.on rfl rfl hg14 ?_
      refine HQ.op [1] [1] (OT.loadB sc3 rfl) ⟨rfl, trivial⟩ ⟨rfl, trivial⟩ rfl rfl rfl rfl (fun _ => rfl) fun _ => ?_
      refine HQ.on rfl rfl hg14 ?_
      refine HQ.pu (Pu.fieldB fo194_1 rfl) ⟨rfl, trivial⟩ rfl rfl rfl ?_
      refine HQ.on rfl rfl hg14 ?_
      refine HQ.op [1] [1] (OT.loadB sc3 rfl) ⟨rfl, trivial⟩ ⟨rfl, trivial⟩ rfl rfl rfl rfl (fun _ => rfl) fun _ => ?_
      refine HQ.on rfl rfl hg14 ?_
      obtain ⟨t15, h16, H⟩ := bnd H
      refine HQ.op [] [] (OT.call (us := [_, _, _]) (Pre := []) [.tmp 20, .tmp 22, .const (.int .i64 255)] Try.call85 rfl rfl fun w F hs hF hp => spec_l1In_c h16) ⟨rfl, rfl, rfl, rfl, trivial⟩ trivial rfl rfl rfl rfl (fun _ => rfl) fun _ => ?_
      obtain rfl := Option.some.inj H
      refine HQ.pu (Pu.pickC1 hg14) ⟨rfl, rfl, trivial⟩ rfl rfl rfl ?_
      exact HQ.mid ⟨rfl, rfl, trivial⟩ ⟨rfl, trivial⟩ rfl
    · obtain rfl := Option.some.inj H
      refine HQ.off rfl rfl hg14 rfl ?_
      refine HQ.off rfl rfl hg14 rfl ?_
      refine HQ.off rfl rfl hg14 rfl ?_
      refine HQ.off rfl rfl hg14 rfl ?_
      refine HQ.off rfl rfl hg14 rfl ?_
      refine HQ.pu (Pu.pickC0 hg14) ⟨rfl, rfl, trivial⟩ rfl rfl rfl ?_
      exact HQ.mid ⟨rfl, rfl, trivial⟩ ⟨rfl, trivial⟩ rfl
  refine HQ.pu Pu.assign ⟨rfl, trivial⟩ rfl rfl rfl ?_
  refine HQ.done ?_
  refine HQ.keep [(2, _)] ⟨rfl, trivial⟩ ?_
  refine HQ.ret ?_
  obtain rfl := Option.some.inj H
  exact HQ.fin (vs := [_]) Try.results181 () ⟨rfl, trivial⟩ rfl [] trivial rfl

/-! spec.EntryAt -/
theorem spec_EntryAt_c {w : World} {k : Nat} {p0 : (List TEntry)} {p1 : Int} {a_0 : Option Addr} {c_0 : Nat} (hb_0 : BorS kTEntry a_0 c_0 p0 w.heap (Lt w Nil)) {r : Int} (H : spec_EntryAt k p0 p1 = some r) :
    Calls Try.prog 182 #[.slice a_0 (List.length p0) c_0, .int .i64 p1] w (Rt w Nil (fun _ : Unit => .int .i64 r) (fun _ => [])) := by
  rw [spec_EntryAt] at H
  refine Calls.enter0 (N := 20) (us := [_, _]) Try.func182 rfl rfl rfl ?_
  refine HQ.rseq ?_
  refine HQ.pu Pu.assign ⟨rfl, trivial⟩ rfl rfl rfl ?_
  refine HQ.done ?_
  refine HQ.keep [(0, _), (1, _), (4, _)] ⟨rfl, rfl, rfl, trivial⟩ ?_
  refine HQ.seq ?_
  refine HQ.rseq ?_
  refine HQ.pu Pu.assign ⟨rfl, trivial⟩ rfl rfl rfl ?_
  refine HQ.done ?_
  refine HQ.keep [(0, _), (1, _), (4, _), (5, _)] ⟨rfl, rfl, rfl, rfl, trivial⟩ ?_
  refine HQ.block ?_
  obtain ⟨o5, h7, H⟩ := bnd H
  refine HQ.loop h7 0 (fun (s : Int) (g : Unit) => match s, g with | i2, () => [(0, .slice a_0 (List.length p0) c_0), (1, .int .i64 p1), (4, .int .i64 0), (5, .int .i64 i2)]) (fun (s : Int) (g : Unit) => match s, g with | i2, () => []) (fun r => bodyPost Try.prog Try.f182 (Rt w Nil (fun _ : Unit => .int .i64 r) (fun _ => [])) .ret) () ⟨rfl, rfl, rfl, rfl, trivial⟩ trivial rfl ?_ ?_ ?_
  · clear H h7
    rintro i2 _ o H
    rw [spec_EntryAt_b0] at H
    refine HQ.keep [(0, _), (1, _), (4, _), (5, _)] ⟨rfl, rfl, rfl, rfl, trivial⟩ ?_
    refine HQ.keepR [] trivial rfl ?_
    refine HQ.seq ?_
    refine HQ.rseq ?_
    refine HQ.pu Pu.move ⟨rfl, trivial⟩ rfl rfl rfl ?_
    refine HQ.pu Pu.move ⟨rfl, trivial⟩ rfl rfl rfl ?_
    refine HQ.pu (Pu.len ul77) ⟨rfl, trivial⟩ rfl rfl rfl ?_
    refine HQ.pu Pu.lss ⟨rfl, rfl, trivial⟩ rfl rfl rfl ?_
    refine HQ.done ?_
    refine HQ.keep [(0, _), (1, _), (4, _), (5, _), (9, _)] ⟨rfl, rfl, rfl, rfl, rfl, trivial⟩ ?_
    rcases brk H with ⟨hc, H⟩ | ⟨hc, H⟩
    · refine HQ.condT rfl hc ?_
      clear hc
      refine HQ.skipThen ?_
      refine HQ.seq ?_
      refine HQ.block ?_
      refine HQ.rseq ?_
      refine HQ.pu Pu.move ⟨rfl, trivial⟩ rfl rfl rfl ?_
      refine HQ.pu Pu.move ⟨rfl, trivial⟩ rfl rfl rfl ?_
      obtain ⟨h4, H⟩ := asr H
      refine HQ.op [] [] (OT.indexB ul77 sz196 hb_0 h4) ⟨rfl, rfl, trivial⟩ trivial rfl rfl rfl rfl (fun _ => rfl) fun _ => ?_
      refine HQ.pu (Pu.fieldE fo196_0 rfl) ⟨rfl, trivial⟩ rfl rfl rfl ?_
      refine HQ.op [] [] (OT.loadF sc3 hb_0 h4 rfl) ⟨rfl, trivial⟩ trivial rfl rfl rfl rfl (fun _ => rfl) fun _ => ?_
      refine HQ.pu Pu.move ⟨rfl, trivial⟩ rfl rfl rfl ?_
      refine HQ.pu Pu.eql ⟨rfl, rfl, trivial⟩ rfl rfl rfl ?_
      refine HQ.done ?_
      refine HQ.keep [(0, _), (1, _), (4, _), (5, _), (18, _)] ⟨rfl, rfl, rfl, rfl, rfl, trivial⟩ ?_
      rcases brk H with ⟨hc, H⟩ | ⟨hc, H⟩
      · refine HQ.condT rfl hc ?_
        clear hc
        refine HQ.rseq ?_
        refine HQ.pu Pu.move ⟨rfl, trivial⟩ rfl rfl rfl ?_
        refine HQ.pu Pu.assign ⟨rfl, trivial⟩ rfl rfl rfl ?_
        refine HQ.done ?_
        refine HQ.keep [(0, _), (1, _), (4, _), (5, _)] ⟨rfl, rfl, rfl, rfl, trivial⟩ ?_
        refine HQ.ret ?_
        refine HQ.blkR ?_
        refine HQ.thenR ?_
        obtain rfl := Option.some.inj H
        refine HQ.retL ?_
        exact HQ.fin (vs := [_]) Try.results182 () ⟨rfl, trivial⟩ rfl [] trivial rfl
      · refine HQ.condF rfl hc ?_
        clear hc
        refine HQ.skip ?_
        refine HQ.blkN ?_
        refine HQ.thenN ?_
        refine HQ.regionQ ?_
        refine HQ.pu Pu.move ⟨rfl, trivial⟩ rfl rfl rfl ?_
        refine HQ.pu Pu.add ⟨rfl, rfl, trivial⟩ rfl rfl rfl ?_
        refine HQ.pu Pu.assign ⟨rfl, trivial⟩ rfl rfl rfl ?_
        refine HQ.done ?_
        refine HQ.keep [(0, _), (1, _), (4, _), (5, _)] ⟨rfl, rfl, rfl, rfl, trivial⟩ ?_
        obtain rfl := Option.some.inj H
        exact HQ.next () ⟨rfl, rfl, rfl, rfl, trivial⟩ trivial rfl
    · refine HQ.condF rfl hc ?_
      clear hc
      refine HQ.exit ?_
      refine HQ.thenE ?_
      obtain rfl := Option.some.inj H
      exact HQ.out () ⟨rfl, rfl, rfl, rfl, trivial⟩ trivial rfl
  · rintro i6 rfl _
    clear h7
    replace H := H
    refine HQ.keep [(0, _), (1, _), (4, _), (5, _)] ⟨rfl, rfl, rfl, rfl, trivial⟩ ?_
    refine HQ.keepR [] trivial rfl ?_
    refine HQ.blkE ?_
    refine HQ.thenN ?_
    refine HQ.rseq ?_
    refine HQ.pu Pu.assign ⟨rfl, trivial⟩ rfl rfl rfl ?_
    refine HQ.done ?_
    refine HQ.keep [(4, _)] ⟨rfl, trivial⟩ ?_
    refine HQ.ret ?_
    obtain rfl := Option.some.inj H
    exact HQ.fin (vs := [_]) Try.results182 () ⟨rfl, trivial⟩ rfl [] trivial rfl
  · rintro r rfl a w hr
    obtain rfl := Option.some.inj H
    exact hr

/-! spec.NodeOk -/
theorem spec_NodeOk_c {w : World} {k : Nat} {p0 : TNode} {a_0 : Option Addr} {c_0 : Nat} (hb_0 : BorS kTEntry a_0 c_0 p0.L w.heap (Lt w Nil)) {r : Bool} (H : spec_NodeOk k p0 = some r) :
    Calls Try.prog 158 #[.agg #[.bool p0.Leaf, .slice a_0 (List.length p0.L) c_0]] w (Rt w Nil (fun _ : Unit => .bool r) (fun _ => [])) := by
  rw [spec_NodeOk] at H
  refine Calls.enter0 (N := 65) (us := [_]) Try.func158 rfl rfl rfl ?_
  refine HQ.rseq ?_
  refine HQ.op [] [1] (OT.box (cs := [.bool p0.Leaf, .slice a_0 (List.length p0.L) c_0]) rfl) ⟨rfl, trivial⟩ trivial rfl rfl rfl rfl (fun _ => rfl) fun b1 => ?_
  refine HQ.pu Pu.assign ⟨rfl, trivial⟩ rfl rfl rfl ?_
  refine HQ.done ?_
  refine HQ.keep [(1, _), (2, _)] ⟨rfl, rfl, trivial⟩ ?_
  refine HQ.seq ?_
  refine HQ.rseq ?_
  refine HQ.pu Pu.assign ⟨rfl, trivial⟩ rfl rfl rfl ?_
  refine HQ.done ?_
  refine HQ.keep [(1, _), (2, _), (3, _)] ⟨rfl, rfl, rfl, trivial⟩ ?_
  refine HQ.block ?_
  obtain ⟨o78, h82, H⟩ := bnd H
  refine HQ.loop h82 0 (fun (s : Int) (g : Unit) => match s, g with | i27, () => [(1, BP b1 0), (2, .bool false), (3, .int .i64 i27)]) (fun (s : Int) (g : Unit) => match s, g with | i27, () => [(1, Box b1 [.bool p0.Leaf, .slice a_0 (List.length p0.L) c_0])]) (fun r => bodyPost Try.prog Try.f158 (Rt w Nil (fun _ : Unit => .bool r) (fun _ => [])) .ret) () ⟨rfl, rfl, rfl, trivial⟩ ⟨rfl, trivial⟩ rfl ?_ ?_ ?_
  · clear H h82
    rintro i27 _ o H
    rw [spec_NodeOk_b0] at H
    refine HQ.keep [(1, _), (2, _), (3, _)] ⟨rfl, rfl, rfl, trivial⟩ ?_
    refine HQ.keepR [(1, _)] ⟨rfl, trivial⟩ rfl ?_
    refine HQ.seq ?_
    refine HQ.rseq ?_
    refine HQ.pu Pu.move ⟨rfl, trivial⟩ rfl rfl rfl ?_
    refine HQ.pu (Pu.fieldB fo79_1 rfl) ⟨rfl, trivial⟩ rfl rfl rfl ?_
    refine HQ.op [1] [1] (OT.loadB sc77 rfl) ⟨rfl, trivial⟩ ⟨rfl, trivial⟩ rfl rfl rfl rfl (fun _ => rfl) fun _ => ?_
    refine HQ.pu (Pu.len ul77) ⟨rfl, trivial⟩ rfl rfl rfl ?_
    refine HQ.pu Pu.lss ⟨rfl, rfl, trivial⟩ rfl rfl rfl ?_
    refine HQ.done ?_
    refine HQ.keep [(1, _), (2, _), (3, _), (9, _)] ⟨rfl, rfl, rfl, rfl, trivial⟩ ?_
    rcases brk H with ⟨hc, H⟩ | ⟨hc, H⟩
    · refine HQ.condT rfl hc ?_
      clear hc
      refine HQ.skipThen ?_
      refine HQ.seq ?_
      refine HQ.block ?_
      refine HQ.rseq ?_
      refine HQ.pu (Pu.fieldB fo79_1 rfl) ⟨rfl, trivial⟩ rfl rfl rfl ?_
      refine HQ.op [1] [1] (OT.loadB sc77 rfl) ⟨rfl, trivial⟩ ⟨rfl, trivial⟩ rfl rfl rfl rfl (fun _ => rfl) fun _ => ?_
      refine HQ.pu Pu.move ⟨rfl, trivial⟩ rfl rfl rfl ?_
      obtain ⟨h53, H⟩ := asr H
      refine HQ.op [] [] (OT.indexB ul77 sz196 hb_0 h53) ⟨rfl, rfl, trivial⟩ trivial rfl rfl rfl rfl (fun _ => rfl) fun _ => ?_
      refine HQ.op [] [] (OT.loadFA (vs := [.int .i64 ((gt p0.L i27).N), .int .i64 ((gt p0.L i27).R.X0), .int .i64 ((gt p0.L i27).R.Y0), .int .i64 ((gt p0.L i27).R.X1), .int .i64 ((gt p0.L i27).R.Y1)]) ag196 sz196 hb_0 h53 rfl rfl) ⟨rfl, trivial⟩ trivial rfl rfl rfl rfl (fun _ => rfl) fun _ => ?_
      refine HQ.op [] [4] (OT.alloc zc196) trivial trivial rfl rfl rfl rfl (fun _ => rfl) fun b54 => ?_
      refine HQ.opN [4] [4] [] (OT.storeC (cs' := [.int .i64 ((gt p0.L i27).N), .int .i64 ((gt p0.L i27).R.X0), .int .i64 ((gt p0.L i27).R.Y0), .int .i64 ((gt p0.L i27).R.X1), .int .i64 ((gt p0.L i27).R.Y1)]) sz196 rfl rfl rfl rfl rfl) ⟨rfl, rfl, trivial⟩ ⟨rfl, trivial⟩ rfl rfl rfl (fun _ => rfl) fun _ => ?_
      refine HQ.done ?_
      refine HQ.keep [(1, _), (2, _), (3, _), (4, _)] ⟨rfl, rfl, rfl, rfl, trivial⟩ ?_
      refine HQ.rseq ?_
      refine HQ.pu (Pu.fieldB fo196_1 rfl) ⟨rfl, trivial⟩ rfl rfl rfl ?_
      refine HQ.op [4] [4] (OT.loadBA (vs := [.int .i64 ((gt p0.L i27).R.X0), .int .i64 ((gt p0.L i27).R.Y0), .int .i64 ((gt p0.L i27).R.X1), .int .i64 ((gt p0.L i27).R.Y1)]) ag194 sz194 rfl rfl) ⟨rfl, trivial⟩ ⟨rfl, trivial⟩ rfl rfl rfl rfl (fun _ => rfl) fun _ => ?_
      obtain ⟨t55, h56, H⟩ := bnd H
      refine HQ.op [] [] (OT.call (us := [_]) (Pre := []) [.tmp 18] Try.call181 rfl rfl fun w F hs hF hp => spec_BoxOk_c h56) ⟨rfl, rfl, trivial⟩ trivial rfl rfl rfl rfl (fun _ => rfl) fun _ => ?_
      refine HQ.pu Pu.not ⟨rfl, trivial⟩ rfl rfl rfl ?_
      refine HQ.pu Pu.move ⟨rfl, trivial⟩ rfl rfl rfl ?_
      obtain ⟨c60, h61, H⟩ := bnd H
      refine HQ.cutAt 8 [(29, .bool c60), (1, BP b1 0), (2, .bool false), (3, .int .i64 i27), (4, BP b54 0)] [(1, Box b1 [.bool p0.Leaf, .slice a_0 (List.length p0.L) c_0]), (4, Box b54 [.int .i64 ((gt p0.L i27).N), .int .i64 ((gt p0.L i27).R.X0), .int .i64 ((gt p0.L i27).R.Y0), .int .i64 ((gt p0.L i27).R.X1), .int .i64 ((gt p0.L i27).R.Y1)])] ?_ ?_
      · clear H
        have H := h61
        rcases brk H with ⟨hg57, H⟩ | ⟨hg57, H⟩
        · obtain rfl := Option.some.inj H
          refine HQ.off rfl rfl hg57 rfl ?_
          refine HQ.off rfl rfl hg57 rfl ?_
          refine HQ.off rfl rfl hg57 rfl ?_
          refine HQ.off rfl rfl hg57 rfl ?_
          refine HQ.off rfl rfl hg57 rfl ?_
          refine HQ.off rfl rfl hg57 rfl ?_
          refine HQ.off rfl rfl hg57 rfl ?_
          refine HQ.pu (Pu.pickC1 hg57) ⟨rfl, rfl, trivial⟩ rfl rfl rfl ?_
          exact HQ.mid ⟨rfl, rfl, rfl, rfl, rfl, trivial⟩ ⟨rfl, rfl, trivial⟩ rfl
        · refine HQ.on rfl rfl hg57 ?_
          refine HQ.pu (Pu.fieldB fo79_1 rfl) ⟨rfl, trivial⟩ rfl rfl rfl ?_
          refine HQ.on rfl rfl hg57 ?_
          refine HQ.op [1] [1] (OT.loadB sc77 rfl) ⟨rfl, trivial⟩ ⟨rfl, trivial⟩ rfl rfl rfl rfl (fun _ => rfl) fun _ => ?_
          refine HQ.on rfl rfl hg57 ?_
          refine HQ.pu (Pu.fieldB fo196_0 rfl) ⟨rfl, trivial⟩ rfl rfl rfl ?_
          refine HQ.on rfl rfl hg57 ?_
          refine HQ.op [4] [4] (OT.loadB sc3 rfl) ⟨rfl, trivial⟩ ⟨rfl, trivial⟩ rfl rfl rfl rfl (fun _ => rfl) fun _ => ?_
          refine HQ.on rfl rfl hg57 ?_
          obtain ⟨t58, h59, H⟩ := bnd H
          refine HQ.op [] [] (OT.call (us := [_, _]) (Pre := []) [.tmp 23, .tmp 25] Try.call182 rfl rfl fun w F hs hF hp => spec_EntryAt_c (hb_0.pass hp) h59) ⟨rfl, rfl, rfl, trivial⟩ trivial rfl rfl rfl rfl (fun _ => rfl) fun _ => ?_
          refine HQ.on rfl rfl hg57 ?_
          refine HQ.pu Pu.move ⟨rfl, trivial⟩ rfl rfl rfl ?_
          refine HQ.on rfl rfl hg57 ?_
          refine HQ.pu Pu.neq ⟨rfl, rfl, trivial⟩ rfl rfl rfl ?_
          obtain rfl := Option.some.inj H
          refine HQ.pu (Pu.pickC0 hg57) ⟨rfl, rfl, trivial⟩ rfl rfl rfl ?_
          exact HQ.mid ⟨rfl, rfl, rfl, rfl, rfl, trivial⟩ ⟨rfl, rfl, trivial⟩ rfl
      refine HQ.pu Pu.move ⟨rfl, trivial⟩ rfl rfl rfl ?_
      obtain ⟨c68, h69, H⟩ := bnd H
      refine HQ.cutAt 9 [(39, .bool c68), (1, BP b1 0), (2, .bool false), (3, .int .i64 i27), (4, BP b54 0)] [(1, Box b1 [.bool p0.Leaf, .slice a_0 (List.length p0.L) c_0]), (4, Box b54 [.int .i64 ((gt p0.L i27).N), .int .i64 ((gt p0.L i27).R.X0), .int .i64 ((gt p0.L i27).R.Y0), .int .i64 ((gt p0.L i27).R.X1), .int .i64 ((gt p0.L i27).R.Y1)])] ?_ ?_
      · clear H
        have H := h69
        rcases brk H with ⟨hg62, H⟩ | ⟨hg62, H⟩
        · obtain rfl := Option.some.inj H
          refine HQ.off rfl rfl hg62 rfl ?_
          refine HQ.off rfl rfl hg62 rfl ?_
          refine HQ.off rfl rfl hg62 rfl ?_
          refine HQ.offU rfl rfl rfl ?_
          refine HQ.offU rfl rfl rfl ?_
          refine HQ.offU rfl rfl rfl ?_
          refine HQ.offU rfl rfl rfl ?_
          refine HQ.off rfl rfl hg62 rfl ?_
          refine HQ.pu (Pu.pickC1 hg62) ⟨rfl, rfl, trivial⟩ rfl rfl rfl ?_
          exact HQ.mid ⟨rfl, rfl, rfl, rfl, rfl, trivial⟩ ⟨rfl, rfl, trivial⟩ rfl
        · refine HQ.on rfl rfl hg62 ?_
          refine HQ.pu (Pu.fieldB fo79_0 rfl) ⟨rfl, trivial⟩ rfl rfl rfl ?_
          refine HQ.on rfl rfl hg62 ?_
          refine HQ.op [1] [1] (OT.loadB sc4 rfl) ⟨rfl, trivial⟩ ⟨rfl, trivial⟩ rfl rfl rfl rfl (fun _ => rfl) fun _ => ?_
          refine HQ.on rfl rfl hg62 ?_
          refine HQ.pu Pu.move ⟨rfl, trivial⟩ rfl rfl rfl ?_
          obtain ⟨c66, h67, H⟩ := bnd H
          refine HQ.cutAt 5 [(38, .bool c66), (1, BP b1 0), (2, .bool false), (3, .int .i64 i27), (4, BP b54 0), (30, .bool c60), (31, BP b1 0), (32, .bool p0.Leaf), (33, .bool p0.Leaf)] [(1, Box b1 [.bool p0.Leaf, .slice a_0 (List.length p0.L) c_0]), (4, Box b54 [.int .i64 ((gt p0.L i27).N), .int .i64 ((gt p0.L i27).R.X0), .int .i64 ((gt p0.L i27).R.Y0), .int .i64 ((gt p0.L i27).R.X1), .int .i64 ((gt p0.L i27).R.Y1)])] ?_ ?_
          · clear H
            have H := h67
            rcases brk H with ⟨hg63, H⟩ | ⟨hg63, H⟩
            · refine HQ.on rfl rfl hg63 ?_
              refine HQ.pu (Pu.fieldB fo196_0 rfl) ⟨rfl, trivial⟩ rfl rfl rfl ?_
              refine HQ.on rfl rfl hg63 ?_
              refine HQ.op [4] [4] (OT.loadB sc3 rfl) ⟨rfl, trivial⟩ ⟨rfl, trivial⟩ rfl rfl rfl rfl (fun _ => rfl) fun _ => ?_
              refine HQ.on rfl rfl hg63 ?_
              obtain ⟨t64, h65, H⟩ := bnd H
              refine HQ.op [] [] (OT.call (us := [_, _, _]) (Pre := []) [.tmp 35, .const (.int .i64 1), .const (.int .i64 999)] Try.call85 rfl rfl fun w F hs hF hp => spec_l1In_c h65) ⟨rfl, rfl, rfl, rfl, trivial⟩ trivial rfl rfl rfl rfl (fun _ => rfl) fun _ => ?_
              refine HQ.on rfl rfl hg63 ?_
              refine HQ.pu Pu.not ⟨rfl, trivial⟩ rfl rfl rfl ?_
              obtain rfl := Option.some.inj H
              refine HQ.on rfl rfl hg62 ?_
              refine HQ.pu (Pu.pickC1 hg63) ⟨rfl, rfl, trivial⟩ rfl rfl rfl ?_
              exact HQ.mid ⟨rfl, rfl, rfl, rfl, rfl, rfl, rfl, rfl, rfl, trivial⟩ ⟨rfl, rfl, trivial⟩ rfl
            · obtain rfl := Option.some.inj H
              refine HQ.off rfl rfl hg63 rfl ?_
              refine HQ.off rfl rfl hg63 rfl ?_
              refine HQ.off rfl rfl hg63 rfl ?_
              refine HQ.off rfl rfl hg63 rfl ?_
              refine HQ.on rfl rfl hg62 ?_
              refine HQ.pu (Pu.pickC0 hg63) ⟨rfl, rfl, trivial⟩ rfl rfl rfl ?_
              exact HQ.mid ⟨rfl, rfl, rfl, rfl, rfl, rfl, rfl, rfl, rfl, trivial⟩ ⟨rfl, rfl, trivial⟩ rfl
          obtain rfl := Option.some.inj H
          refine HQ.pu (Pu.pickC0 hg62) ⟨rfl, rfl, trivial⟩ rfl rfl rfl ?_
          exact HQ.mid ⟨rfl, rfl, rfl, rfl, rfl, trivial⟩ ⟨rfl, rfl, trivial⟩ rfl
      refine HQ.pu Pu.move ⟨rfl, trivial⟩ rfl rfl rfl ?_
      obtain ⟨c76, h77, H⟩ := bnd H
      refine HQ.cutAt 10 [(50, .bool c76), (1, BP b1 0), (2, .bool false), (3, .int .i64 i27)] [(1, Box b1 [.bool p0.Leaf, .slice a_0 (List.length p0.L) c_0]), (4, Box b54 [.int .i64 ((gt p0.L i27).N), .int .i64 ((gt p0.L i27).R.X0), .int .i64 ((gt p0.L i27).R.Y0), .int .i64 ((gt p0.L i27).R.X1), .int .i64 ((gt p0.L i27).R.Y1)])] ?_ ?_
      · clear H
        have H := h77
        rcases brk H with ⟨hg70, H⟩ | ⟨hg70, H⟩
        · obtain rfl := Option.some.inj H
          refine HQ.off rfl rfl hg70 rfl ?_
          refine HQ.off rfl rfl hg70 rfl ?_
          refine HQ.off rfl rfl hg70 rfl ?_
          refine HQ.off rfl rfl hg70 rfl ?_
          refine HQ.offU rfl rfl rfl ?_
          refine HQ.offU rfl rfl rfl ?_
          refine HQ.offU rfl rfl rfl ?_
          refine HQ.offU rfl rfl rfl ?_
          refine HQ.off rfl rfl hg70 rfl ?_
          refine HQ.pu (Pu.pickC1 hg70) ⟨rfl, rfl, trivial⟩ rfl rfl rfl ?_
          exact HQ.mid ⟨rfl, rfl, rfl, rfl, trivial⟩ ⟨rfl, rfl, trivial⟩ rfl
        · refine HQ.on rfl rfl hg70 ?_
          refine HQ.pu (Pu.fieldB fo79_0 rfl) ⟨rfl, trivial⟩ rfl rfl rfl ?_
          refine HQ.on rfl rfl hg70 ?_
          refine HQ.op [1] [1] (OT.loadB sc4 rfl) ⟨rfl, trivial⟩ ⟨rfl, trivial⟩ rfl rfl rfl rfl (fun _ => rfl) fun _ => ?_
          refine HQ.on rfl rfl hg70 ?_
          refine HQ.pu Pu.not ⟨rfl, trivial⟩ rfl rfl rfl ?_
          refine HQ.on rfl rfl hg70 ?_
          refine HQ.pu Pu.move ⟨rfl, trivial⟩ rfl rfl rfl ?_
          obtain ⟨c74, h75, H⟩ := bnd H
          refine HQ.cutAt 5 [(49, .bool c74), (1, BP b1 0), (2, .bool false), (3, .int .i64 i27), (40, .bool c68), (41, BP b1 0), (42, .bool p0.Leaf), (43, .bool (!p0.Leaf)), (44, .bool (!p0.Leaf))] [(1, Box b1 [.bool p0.Leaf, .slice a_0 (List.length p0.L) c_0]), (4, Box b54 [.int .i64 ((gt p0.L i27).N), .int .i64 ((gt p0.L i27).R.X0), .int .i64 ((gt p0.L i27).R.Y0), .int .i64 ((gt p0.L i27).R.X1), .int .i64 ((gt p0.L i27).R.Y1)])] ?_ ?_
          · clear H
            have H := h75
            rcases brk H with ⟨hg71, H⟩ | ⟨hg71, H⟩
            · refine HQ.on rfl rfl hg71 ?_
              refine HQ.pu (Pu.fieldB fo196_0 rfl) ⟨rfl, trivial⟩ rfl rfl rfl ?_
              refine HQ.on rfl rfl hg71 ?_
              refine HQ.op [4] [4] (OT.loadB sc3 rfl) ⟨rfl, trivial⟩ ⟨rfl, trivial⟩ rfl rfl rfl rfl (fun _ => rfl) fun _ => ?_
              refine HQ.on rfl rfl hg71 ?_
              obtain ⟨t72, h73, H⟩ := bnd H
              refine HQ.op [] [] (OT.call (us := [_, _, _]) (Pre := []) [.tmp 46, .const (.int .i64 0), .const (.int .i64 47)] Try.call85 rfl rfl fun w F hs hF hp => spec_l1In_c h73) ⟨rfl, rfl, rfl, rfl, trivial⟩ trivial rfl rfl rfl rfl (fun _ => rfl) fun _ => ?_
              refine HQ.on rfl rfl hg71 ?_
              refine HQ.pu Pu.not ⟨rfl, trivial⟩ rfl rfl rfl ?_
              obtain rfl := Option.some.inj H
              refine HQ.on rfl rfl hg70 ?_
              refine HQ.pu (Pu.pickC1 hg71) ⟨rfl, rfl, trivial⟩ rfl rfl rfl ?_
              exact HQ.mid ⟨rfl, rfl, rfl, rfl, rfl, rfl, rfl, rfl, rfl, trivial⟩ ⟨rfl, rfl, trivial⟩ rfl
            · obtain rfl := Option.some.inj H
              refine HQ.off rfl rfl hg71 rfl ?_
              refine HQ.off rfl rfl hg71 rfl ?_
              refine HQ.off rfl rfl hg71 rfl ?_
              refine HQ.off rfl rfl hg71 rfl ?_
              refine HQ.on rfl rfl hg70 ?_
              refine HQ.pu (Pu.pickC0 hg71) ⟨rfl, rfl, trivial⟩ rfl rfl rfl ?_
              exact HQ.mid ⟨rfl, rfl, rfl, rfl, rfl, rfl, rfl, rfl, rfl, trivial⟩ ⟨rfl, rfl, trivial⟩ rfl
          obtain rfl := Option.some.inj H
          refine HQ.pu (Pu.pickC0 hg70) ⟨rfl, rfl, trivial⟩ rfl rfl rfl ?_
          exact HQ.mid ⟨rfl, rfl, rfl, rfl, trivial⟩ ⟨rfl, rfl, trivial⟩ rfl
      refine HQ.done ?_
      refine HQ.keep [(50, _), (1, _), (2, _), (3, _)] ⟨rfl, rfl, rfl, rfl, trivial⟩ ?_
      rcases brk H with ⟨hc, H⟩ | ⟨hc, H⟩
      · refine HQ.condT rfl hc ?_
        clear hc
        refine HQ.rseq ?_
        refine HQ.pu Pu.assign ⟨rfl, trivial⟩ rfl rfl rfl ?_
        refine HQ.done ?_
        refine HQ.keep [(1, _), (2, _), (3, _)] ⟨rfl, rfl, rfl, trivial⟩ ?_
        refine HQ.ret ?_
        refine HQ.blkR ?_
        refine HQ.thenR ?_
        obtain rfl := Option.some.inj H
        refine HQ.retL ?_
        exact HQ.fin (vs := [_]) Try.results158 () ⟨rfl, trivial⟩ rfl [] trivial rfl
      · refine HQ.condF rfl hc ?_
        clear hc
        refine HQ.skip ?_
        refine HQ.blkN ?_
        refine HQ.thenN ?_
        refine HQ.regionQ ?_
        refine HQ.pu Pu.move ⟨rfl, trivial⟩ rfl rfl rfl ?_
        refine HQ.pu Pu.add ⟨rfl, rfl, trivial⟩ rfl rfl rfl ?_
        refine HQ.pu Pu.assign ⟨rfl, trivial⟩ rfl rfl rfl ?_
        refine HQ.done ?_
        refine HQ.keep [(1, _), (2, _), (3, _)] ⟨rfl, rfl, rfl, trivial⟩ ?_
        obtain rfl := Option.some.inj H
        exact HQ.next () ⟨rfl, rfl, rfl, trivial⟩ ⟨rfl, trivial⟩ rfl
    · refine HQ.condF rfl hc ?_
      clear hc
      refine HQ.exit ?_
      refine HQ.thenE ?_
      obtain rfl := Option.some.inj H
      exact HQ.out () ⟨rfl, rfl, rfl, trivial⟩ ⟨rfl, trivial⟩ rfl
  · rintro i79 rfl _
    clear h82
    replace H := H
    refine HQ.keep [(1, _), (2, _), (3, _)] ⟨rfl, rfl, rfl, trivial⟩ ?_
    refine HQ.keepR [(1, _)] ⟨rfl, trivial⟩ rfl ?_
    refine HQ.blkE ?_
    refine HQ.thenN ?_
    refine HQ.rseq ?_
    refine HQ.pu (Pu.fieldB fo79_1 rfl) ⟨rfl, trivial⟩ rfl rfl rfl ?_
    refine HQ.op [1] [1] (OT.loadB sc77 rfl) ⟨rfl, trivial⟩ ⟨rfl, trivial⟩ rfl rfl rfl rfl (fun _ => rfl) fun _ => ?_
    refine HQ.pu (Pu.len ul77) ⟨rfl, trivial⟩ rfl rfl rfl ?_
    refine HQ.pu Pu.leq ⟨rfl, rfl, trivial⟩ rfl rfl rfl ?_
    refine HQ.pu Pu.move ⟨rfl, trivial⟩ rfl rfl rfl ?_
    refine HQ.cutAt 9 [(64, .bool ((decide (((List.length p0.L : Nat) : Int) ≤ 4)) && (p0.Leaf || (decide (((List.length p0.L : Nat) : Int) > 0))))), (2, .bool false)] [(1, Box b1 [.bool p0.Leaf, .slice a_0 (List.length p0.L) c_0])] ?_ ?_
    · rcases Bool.eq_false_or_eq_true (decide (((List.length p0.L : Nat) : Int) ≤ 4)) with hg80 | hg80
      · refine HQ.on rfl rfl hg80 ?_
        refine HQ.pu (Pu.fieldB fo79_0 rfl) ⟨rfl, trivial⟩ rfl rfl rfl ?_
        refine HQ.on rfl rfl hg80 ?_
        refine HQ.op [1] [1] (OT.loadB sc4 rfl) ⟨rfl, trivial⟩ ⟨rfl, trivial⟩ rfl rfl rfl rfl (fun _ => rfl) fun _ => ?_
        refine HQ.on rfl rfl hg80 ?_
        refine HQ.pu Pu.move ⟨rfl, trivial⟩ rfl rfl rfl ?_
        refine HQ.cutAt 5 [(63, .bool (p0.Leaf || (decide (((List.length p0.L : Nat) : Int) > 0)))), (2, .bool false), (55, .bool (decide (((List.length p0.L : Nat) : Int) ≤ 4)))] [(1, Box b1 [.bool p0.Leaf, .slice a_0 (List.length p0.L) c_0])] ?_ ?_
        · rcases Bool.eq_false_or_eq_true p0.Leaf with hg81 | hg81
          · refine HQ.off rfl rfl hg81 rfl ?_
            refine HQ.off rfl rfl hg81 rfl ?_
            refine HQ.off rfl rfl hg81 rfl ?_
            refine HQ.off rfl rfl hg81 rfl ?_
            refine HQ.on rfl rfl hg80 ?_
            refine HQ.pu (Pu.pickOT (u := (decide (((List.length p0.L : Nat) : Int) > 0))) hg81) ⟨rfl, rfl, trivial⟩ rfl rfl rfl ?_
            exact HQ.mid ⟨rfl, rfl, rfl, trivial⟩ ⟨rfl, trivial⟩ rfl
          · refine HQ.on rfl rfl hg81 ?_
            refine HQ.pu (Pu.fieldB fo79_1 rfl) ⟨rfl, trivial⟩ rfl rfl rfl ?_
            refine HQ.on rfl rfl hg81 ?_
            refine HQ.op [1] [1] (OT.loadB sc77 rfl) ⟨rfl, trivial⟩ ⟨rfl, trivial⟩ rfl rfl rfl rfl (fun _ => rfl) fun _ => ?_
            refine HQ.on rfl rfl hg81 ?_
            refine HQ.pu (Pu.len ul77) ⟨rfl, trivial⟩ rfl rfl rfl ?_
            refine HQ.on rfl rfl hg81 ?_
            refine HQ.pu Pu.gtr ⟨rfl, rfl, trivial⟩ rfl rfl rfl ?_
            refine HQ.on rfl rfl hg80 ?_
            refine HQ.pu (Pu.pickOF hg81) ⟨rfl, rfl, trivial⟩ rfl rfl rfl ?_
            exact HQ.mid ⟨rfl, rfl, rfl, trivial⟩ ⟨rfl, trivial⟩ rfl
        refine HQ.pu (Pu.pickAT hg80) ⟨rfl, rfl, trivial⟩ rfl rfl rfl ?_
        exact HQ.mid ⟨rfl, rfl, trivial⟩ ⟨rfl, trivial⟩ rfl
      · refine HQ.off rfl rfl hg80 rfl ?_
        refine HQ.off rfl rfl hg80 rfl ?_
        refine HQ.off rfl rfl hg80 rfl ?_
        refine HQ.offU rfl rfl rfl ?_
        refine HQ.offU rfl rfl rfl ?_
        refine HQ.offU rfl rfl rfl ?_
        refine HQ.offU rfl rfl rfl ?_
        refine HQ.off rfl rfl hg80 rfl ?_
        refine HQ.pu (Pu.pickAF (u := (p0.Leaf || (decide (((List.length p0.L : Nat) : Int) > 0)))) hg80) ⟨rfl, rfl, trivial⟩ rfl rfl rfl ?_
        exact HQ.mid ⟨rfl, rfl, trivial⟩ ⟨rfl, trivial⟩ rfl
    refine HQ.pu Pu.assign ⟨rfl, trivial⟩ rfl rfl rfl ?_
    refine HQ.done ?_
    refine HQ.keep [(2, _)] ⟨rfl, trivial⟩ ?_
    refine HQ.ret ?_
    obtain rfl := Option.some.inj H
    exact HQ.fin (vs := [_]) Try.results158 () ⟨rfl, trivial⟩ rfl [] trivial rfl
  · rintro r rfl a w hr
    obtain rfl := Option.some.inj H
    exact hr

end Go.Proofs.Sx
