import Derived.Test.YtkhommmhkeohbaaQcF8
import Derived.KernelRfl
namespace Go.Proofs.Sx
open Go.RowKit
set_option linter.unusedVariables false
set_option linter.unusedSimpArgs false
set_option maxRecDepth 20000
set_option maxHeartbeats 1000000
/-! impl.copyDisk -/
theorem impl_copyDisk_c {w : World} {k : Nat} {p0 : TDisk} {a_0 : Option Addr} {c_0 : Nat} {a_1 : Option Addr} {c_1 : Nat} (hb_0 : BorS kTCell a_0 c_0 p0.Cells w.heap (Lt w Nil)) (hb_1 : BorS kTWet a_1 c_1 p0.Wet w.heap (Lt w Nil)) {r : TDisk} (H : impl_copyDisk k p0 = some r) :
    Calls Try.prog 81 #[.agg #[.slice a_0 (List.length p0.Cells) c_0, .slice a_1 (List.length p0.Wet) c_1, .int .i64 p0.Fuse, .bool p0.Dead]] w (Rt w Nil (fun g : (Option Addr × Nat) × (Option Addr × Nat) => .agg #[.slice g.1.1 (List.length r.Cells) g.1.2, .slice g.2.1 (List.length r.Wet) g.2.2, .int .i64 r.Fuse, .bool r.Dead]) (fun g => [OwnS kTCell g.1.1 g.1.2 r.Cells, OwnS kTWet g.2.1 g.2.2 r.Wet])) := by
  rw [impl_copyDisk] at H
  refine Calls.enter0 (N := 52) (us := [_]) Try.func81 rfl rfl rfl ?_
  refine HQ.rseq ?_
  refine HQ.op [] [1] (OT.box (cs := [.slice a_0 (List.length p0.Cells) c_0, .slice a_1 (List.length p0.Wet) c_1, .int .i64 p0.Fuse, .bool p0.Dead]) rfl) ⟨rfl, trivial⟩ trivial rfl rfl rfl rfl (fun _ => rfl) fun b1 => ?_
  refine HQ.op [] [2] (OT.alloc zc27) trivial trivial rfl rfl rfl rfl (fun _ => rfl) fun b2 => ?_
  refine HQ.done ?_
  refine HQ.keep [(1, _), (2, _)] ⟨rfl, rfl, trivial⟩ ?_
  refine HQ.rseq ?_
  refine HQ.pu (Pu.fieldB fo27_2 rfl) ⟨rfl, trivial⟩ rfl rfl rfl ?_
  refine HQ.op [1] [1] (OT.loadB sc3 rfl) ⟨rfl, trivial⟩ ⟨rfl, trivial⟩ rfl rfl rfl rfl (fun _ => rfl) fun _ => ?_
  refine HQ.pu (Pu.fieldB fo27_3 rfl) ⟨rfl, trivial⟩ rfl rfl rfl ?_
  refine HQ.op [1] [1] (OT.loadB sc4 rfl) ⟨rfl, trivial⟩ ⟨rfl, trivial⟩ rfl rfl rfl rfl (fun _ => rfl) fun _ => ?_
  refine HQ.pu (Pu.build (us := [.int .i64 p0.Fuse, .bool p0.Dead]) (cs := [.slice none 0 0, .slice none 0 0, .int .i64 p0.Fuse, .bool p0.Dead]) [(2, .tmp 9), (3, .tmp 11)] st27 rfl rfl rfl) ⟨rfl, rfl, trivial⟩ rfl rfl rfl ?_
  refine HQ.op [] [3] (OT.alloc zc27) trivial trivial rfl rfl rfl rfl (fun _ => rfl) fun b3 => ?_
  refine HQ.opN [3] [3] [] (OT.storeC (cs' := [.slice none 0 0, .slice none 0 0, .int .i64 p0.Fuse, .bool p0.Dead]) sz27 rfl rfl rfl rfl rfl) ⟨rfl, rfl, trivial⟩ ⟨rfl, trivial⟩ rfl rfl rfl (fun _ => rfl) fun _ => ?_
  refine HQ.done ?_
  refine HQ.keep [(1, _), (2, _), (3, _)] ⟨rfl, rfl, rfl, trivial⟩ ?_
  refine HQ.seq ?_
  refine HQ.rseq ?_
  refine HQ.pu (Pu.fieldB fo27_0 rfl) ⟨rfl, trivial⟩ rfl rfl rfl ?_
  refine HQ.op [1] [1] (OT.loadB sc24 rfl) ⟨rfl, trivial⟩ ⟨rfl, trivial⟩ rfl rfl rfl rfl (fun _ => rfl) fun _ => ?_
  refine HQ.pu (Pu.len ul24) ⟨rfl, trivial⟩ rfl rfl rfl ?_
  refine HQ.pu Pu.move ⟨rfl, trivial⟩ rfl rfl rfl ?_
  refine HQ.done ?_
  refine HQ.keep [(1, _), (2, _), (3, _), (14, _), (15, _), (16, _)] ⟨rfl, rfl, rfl, rfl, rfl, rfl, trivial⟩ ?_
  refine HQ.block ?_
  refine HQ.nil kTCell 8 rfl ?_
  obtain ⟨o56, h119, H⟩ := bnd H
  refine HQ.loop h119 0 (fun (s : Int × (List TCell)) (g : Option Addr × Nat) => match s, g with | (i20, l21), (a22, c23) => [(1, BP b1 0), (2, BP b2 0), (3, BP b3 0), (14, .slice a_0 (List.length p0.Cells) c_0), (15, .int .i64 ((List.length p0.Cells : Nat) : Int)), (16, .int .i64 i20)]) (fun (s : Int × (List TCell)) (g : Option Addr × Nat) => match s, g with | (i20, l21), (a22, c23) => [(1, Box b1 [.slice a_0 (List.length p0.Cells) c_0, .slice a_1 (List.length p0.Wet) c_1, .int .i64 p0.Fuse, .bool p0.Dead]), (2, Box b2 [.slice none 0 0, .slice none 0 0, .int .i64 0, .bool false]), (3, Box b3 [.slice a22 (List.length l21) c23, .slice none 0 0, .int .i64 p0.Fuse, .bool p0.Dead]), (8, OwnS kTCell a22 c23 l21)]) (fun _ _ _ => False) (none, 0) ⟨rfl, rfl, rfl, rfl, rfl, rfl, trivial⟩ ⟨rfl, rfl, rfl, rfl, trivial⟩ rfl ?_ ?_ ?_
  · clear H h119
    rintro ⟨i20, l21⟩ ⟨a22, c23⟩ o H
    rw [impl_copyDisk_b0] at H
    refine HQ.keep [(1, _), (2, _), (3, _), (14, _), (15, _), (16, _)] ⟨rfl, rfl, rfl, rfl, rfl, rfl, trivial⟩ ?_
    refine HQ.keepR [(1, _), (2, _), (3, _), (8, _)] ⟨rfl, rfl, rfl, rfl, trivial⟩ rfl ?_
    refine HQ.rseq ?_
    refine HQ.pu Pu.lss ⟨rfl, rfl, trivial⟩ rfl rfl rfl ?_
    refine HQ.done ?_
    refine HQ.keep [(1, _), (2, _), (3, _), (14, _), (15, _), (16, _), (17, _)] ⟨rfl, rfl, rfl, rfl, rfl, rfl, rfl, trivial⟩ ?_
    refine HQ.seq ?_
    rcases brk H with ⟨hc, H⟩ | ⟨hc, H⟩
    · refine HQ.condT rfl hc ?_
      clear hc
      refine HQ.skipThen ?_
      refine HQ.seq ?_
      refine HQ.block ?_
      refine HQ.rseq ?_
      obtain ⟨h40, H⟩ := asr H
      refine HQ.op [] [] (OT.indexB ul24 sz113 hb_0 h40) ⟨rfl, rfl, trivial⟩ trivial rfl rfl rfl rfl (fun _ => rfl) fun _ => ?_
      obtain ⟨⟨a41, c42⟩, hb43, hn44⟩ := BorS.nest hb_0 h40
      refine HQ.op [] [] (OT.loadNA (vs := [.bool ((gt p0.Cells i20).Bad), .slice a41 (List.length ((gt p0.Cells i20).B)) c42]) ag113 sz113 hn44 hlTCell rfl rfl) ⟨rfl, trivial⟩ trivial rfl rfl rfl rfl (fun _ => rfl) fun _ => ?_
      refine HQ.op [] [12] (OT.alloc zc113) trivial trivial rfl rfl rfl rfl (fun _ => rfl) fun b45 => ?_
      refine HQ.opN [12] [12] [] (OT.storeC (cs' := [.bool ((gt p0.Cells i20).Bad), .slice a41 (List.length ((gt p0.Cells i20).B)) c42]) sz113 rfl rfl rfl rfl rfl) ⟨rfl, rfl, trivial⟩ ⟨rfl, trivial⟩ rfl rfl rfl (fun _ => rfl) fun _ => ?_
      refine HQ.done ?_
      refine HQ.keep [(1, _), (2, _), (3, _), (14, _), (15, _), (16, _), (5, _)] ⟨rfl, rfl, rfl, rfl, rfl, rfl, rfl, trivial⟩ ?_
      refine HQ.dStart mixd ?_
      obtain ⟨t47, h48, H⟩ := bnd H
      refine HQ.dPart [(1, BP b1 0), (2, BP b2 0), (3, BP b3 0), (14, .slice a_0 (List.length p0.Cells) c_0), (15, .int .i64 ((List.length p0.Cells : Nat) : Int)), (16, .int .i64 i20), (5, BP b45 0)] 9 [⟨[], [], []⟩, ⟨[0], [0], [0]⟩, ⟨[], [], []⟩, ⟨[1], [1], [2]⟩, ⟨[], [], []⟩, ⟨[1], [1], [4]⟩, ⟨[], [2], [5]⟩, ⟨[], [], [3, 6]⟩, ⟨[2], [3], [7]⟩] [⟨none, none⟩, ⟨none, none⟩, ⟨some 6, some 8⟩, ⟨some 8, none⟩] (fun (g46 : (Option Addr × Nat) × (Option Addr × Nat)) => [BP b3 0, .slice a22 (List.length l21) c23, BP b45 0, .bool ((gt p0.Cells i20).Bad), BP b45 1, .slice a41 (List.length ((gt p0.Cells i20).B)) c42, .slice g46.1.1 (List.length t47) g46.1.2, .agg #[.bool ((gt p0.Cells i20).Bad), .slice g46.1.1 (List.length t47) g46.1.2], .slice g46.2.1 (List.length ([(⟨(gt p0.Cells i20).Bad, t47⟩ : TCell)] : (List TCell))) g46.2.2]) (fun (g46 : (Option Addr × Nat) × (Option Addr × Nat)) => [Box b3 [.slice a22 (List.length l21) c23, .slice none 0 0, .int .i64 p0.Fuse, .bool p0.Dead], Box b45 [.bool ((gt p0.Cells i20).Bad), .slice a41 (List.length ((gt p0.Cells i20).B)) c42], OwnS kU8 g46.1.1 g46.1.2 t47, OwnS kTCell g46.2.1 g46.2.2 ([(⟨(gt p0.Cells i20).Bad, t47⟩ : TCell)] : (List TCell))]) ((none, 0), (none, 0)) [3, 12] [3, 12, 14] [] ⟨rfl, rfl, rfl, rfl, rfl, rfl, rfl, trivial⟩ ⟨rfl, rfl, trivial⟩ rfl (by kernel_rfl) (by kernel_rfl) (fun _ => rfl) (by kernel_rfl) (fun _ => rfl) rfl ⟨?_, ?_, ?_, ?_, ?_, ?_, ?_, ?_, ?_, trivial⟩ fun g46 => ?_
      · exact OpOK2.of (fun g46 => [(.tmp 3, BP b3 0)]) _ _ (fun g46 _ => g46) rfl rfl (fun _ => ⟨rfl, trivial⟩) (fun g46 => Pu.toOT (Pu.fieldB fo27_0 rfl)) (fun _ _ => ⟨rfl, rfl, ⟨rfl, rfl, rfl, rfl, trivial⟩⟩)
      · exact OpOK2.of (fun g46 => [(.tmp 20, BP b3 0)]) _ _ (fun g46 _ => g46) rfl rfl (fun _ => ⟨rfl, trivial⟩) (fun g46 => OT.loadB sc24 rfl) (fun _ _ => ⟨rfl, rfl, ⟨rfl, rfl, rfl, rfl, trivial⟩⟩)
      · exact OpOK2.of (fun g46 => [(.tmp 5, BP b45 0)]) _ _ (fun g46 _ => g46) rfl rfl (fun _ => ⟨rfl, trivial⟩) (fun g46 => Pu.toOT (Pu.fieldB fo113_0 rfl)) (fun _ _ => ⟨rfl, rfl, ⟨rfl, rfl, rfl, rfl, trivial⟩⟩)
      · exact OpOK2.of (fun g46 => [(.tmp 22, BP b45 0)]) _ _ (fun g46 _ => g46) rfl rfl (fun _ => ⟨rfl, trivial⟩) (fun g46 => OT.loadB sc4 rfl) (fun _ _ => ⟨rfl, rfl, ⟨rfl, rfl, rfl, rfl, trivial⟩⟩)
      · exact OpOK2.of (fun g46 => [(.tmp 5, BP b45 0)]) _ _ (fun g46 _ => g46) rfl rfl (fun _ => ⟨rfl, trivial⟩) (fun g46 => Pu.toOT (Pu.fieldB fo113_1 rfl)) (fun _ _ => ⟨rfl, rfl, ⟨rfl, rfl, rfl, rfl, trivial⟩⟩)
      · exact OpOK2.of (fun g46 => [(.tmp 24, BP b45 1)]) _ _ (fun g46 _ => g46) rfl rfl (fun _ => ⟨rfl, trivial⟩) (fun g46 => OT.loadB sc22 rfl) (fun _ _ => ⟨rfl, rfl, ⟨rfl, rfl, rfl, rfl, trivial⟩⟩)
      · exact OpOK2.ofD [7] (by kernel_rfl) (fun g46 => [(.func 88, .func (.func 88) #[] #[]), (.tmp 25, .slice a41 (List.length ((gt p0.Cells i20).B)) c42)]) _ _ (fun g46 x => (x, g46.2)) rfl rfl (fun _ => ⟨rfl, rfl, trivial⟩) (fun g46 => OT.call (us := [_]) (Pre := []) [.tmp 25] Try.call88 rfl rfl fun w F hs hF hp => slices_Clone_byte_byte_c (hb43.pass hp) h48) (fun _ _ => ⟨⟨rfl, rfl, rfl, rfl, rfl, rfl, rfl, trivial, rfl, trivial⟩, rfl, ⟨rfl, rfl, rfl, rfl, trivial⟩⟩)
      · exact OpOK2.of (fun g46 => [(.tmp 23, .bool ((gt p0.Cells i20).Bad)), (.tmp 26, .slice g46.1.1 (List.length t47) g46.1.2)]) _ _ (fun g46 _ => g46) rfl rfl (fun _ => ⟨rfl, rfl, trivial⟩) (fun g46 => Pu.toOT (Pu.build (us := [.bool ((gt p0.Cells i20).Bad), .slice g46.1.1 (List.length t47) g46.1.2]) (cs := [.bool ((gt p0.Cells i20).Bad), .slice g46.1.1 (List.length t47) g46.1.2]) [(0, .tmp 23), (1, .tmp 26)] st113 rfl rfl rfl)) (fun _ _ => ⟨rfl, rfl, ⟨rfl, rfl, rfl, rfl, trivial⟩⟩)
      · exact OpOK2.of (fun g46 => [(.tmp 27, .agg #[.bool ((gt p0.Cells i20).Bad), .slice g46.1.1 (List.length t47) g46.1.2])]) _ _ (fun g46 x => (g46.1, x)) rfl rfl (fun _ => ⟨rfl, trivial⟩) (fun g46 => OT.buildO (u := .agg #[.bool ((gt p0.Cells i20).Bad), .slice g46.1.1 (List.length t47) g46.1.2]) (enc := encTCell) (hl := hlTCell) (sub := fun (x : TCell) => x.B) (.tmp 27) (⟨(gt p0.Cells i20).Bad, t47⟩ : TCell) sl24.ul sl24.szE sl24.zc rfl rfl rfl rfl) (fun _ _ => ⟨rfl, rfl, ⟨rfl, rfl, rfl, rfl, trivial⟩⟩)
      refine HQ.keep [(1, _), (2, _), (3, _), (14, _), (15, _), (16, _), (21, _), (28, _)] ⟨rfl, rfl, rfl, rfl, rfl, rfl, rfl, rfl, trivial⟩ ?_
      refine HQ.keepR [(1, _), (2, _), (3, _), (8, _), (12, _), (14, _)] ⟨rfl, rfl, rfl, rfl, rfl, rfl, trivial⟩ rfl ?_
      refine HQ.dRun 3 rfl rfl (by kernel_rfl) (by kernel_rfl) ?_
      obtain ⟨h55, H⟩ := asr H
      refine HQ.opD [8, 14] [8] [14] (OT.appendO (K := kTCell) sl24 ul24 h55) ⟨rfl, rfl, trivial⟩ ⟨rfl, rfl, trivial⟩ rfl rfl rfl rfl (fun _ => rfl) fun ⟨a53, c54⟩ => ?_
      refine HQ.pu (Pu.fieldB fo27_0 rfl) ⟨rfl, trivial⟩ rfl rfl rfl ?_
      refine HQ.opN [3] [3] [] (OT.storeC (cs' := [.slice a53 (List.length (l21 ++ ([(⟨(gt p0.Cells i20).Bad, t47⟩ : TCell)] : (List TCell)))) c54, .slice none 0 0, .int .i64 p0.Fuse, .bool p0.Dead]) sz24 rfl rfl rfl rfl rfl) ⟨rfl, rfl, trivial⟩ ⟨rfl, trivial⟩ rfl rfl rfl (fun _ => rfl) fun _ => ?_
      refine HQ.done ?_
      refine HQ.dEnd rfl ?_
      refine HQ.keep [(1, _), (2, _), (3, _), (14, _), (15, _), (16, _)] ⟨rfl, rfl, rfl, rfl, rfl, rfl, trivial⟩ ?_
      refine HQ.blkN ?_
      refine HQ.thenN ?_
      refine HQ.regionQ ?_
      refine HQ.pu Pu.add ⟨rfl, rfl, trivial⟩ rfl rfl rfl ?_
      refine HQ.pu Pu.move ⟨rfl, trivial⟩ rfl rfl rfl ?_
      refine HQ.done ?_
      refine HQ.keep [(1, _), (2, _), (3, _), (14, _), (15, _), (16, _)] ⟨rfl, rfl, rfl, rfl, rfl, rfl, trivial⟩ ?_
      obtain rfl := Option.some.inj H
      exact HQ.next (a53, c54) ⟨rfl, rfl, rfl, rfl, rfl, rfl, trivial⟩ ⟨rfl, rfl, rfl, rfl, trivial⟩ rfl
    · refine HQ.condF rfl hc ?_
      clear hc
      refine HQ.exit ?_
      refine HQ.thenE ?_
      obtain rfl := Option.some.inj H
      exact HQ.out (a22, c23) ⟨rfl, rfl, rfl, rfl, rfl, rfl, trivial⟩ ⟨rfl, rfl, rfl, rfl, trivial⟩ rfl
  · rintro ⟨i57, l58⟩ rfl ⟨a59, c60⟩
    clear h119
    replace H := H
    refine HQ.keep [(1, _), (2, _), (3, _), (14, _), (15, _), (16, _)] ⟨rfl, rfl, rfl, rfl, rfl, rfl, trivial⟩ ?_
    refine HQ.keepR [(1, _), (2, _), (3, _), (8, _)] ⟨rfl, rfl, rfl, rfl, trivial⟩ rfl ?_
    refine HQ.blkE ?_
    refine HQ.thenN ?_
    refine HQ.seq ?_
    refine HQ.rseq ?_
    refine HQ.pu (Pu.fieldB fo27_1 rfl) ⟨rfl, trivial⟩ rfl rfl rfl ?_
    refine HQ.op [1] [1] (OT.loadB sc25 rfl) ⟨rfl, trivial⟩ ⟨rfl, trivial⟩ rfl rfl rfl rfl (fun _ => rfl) fun _ => ?_
    refine HQ.pu (Pu.len ul25) ⟨rfl, trivial⟩ rfl rfl rfl ?_
    refine HQ.pu Pu.move ⟨rfl, trivial⟩ rfl rfl rfl ?_
    refine HQ.done ?_
    refine HQ.keep [(2, _), (3, _), (33, _), (34, _), (35, _)] ⟨rfl, rfl, rfl, rfl, rfl, trivial⟩ ?_
    refine HQ.block ?_
    refine HQ.nil kTWet 19 rfl ?_
    obtain ⟨o113, h118, H⟩ := bnd H
    refine HQ.loop h118 2 (fun (s : Int × (List TWet)) (g : Option Addr × Nat) => match s, g with | (i77, l78), (a79, c80) => [(2, BP b2 0), (3, BP b3 0), (33, .slice a_1 (List.length p0.Wet) c_1), (34, .int .i64 ((List.length p0.Wet : Nat) : Int)), (35, .int .i64 i77)]) (fun (s : Int × (List TWet)) (g : Option Addr × Nat) => match s, g with | (i77, l78), (a79, c80) => [(2, Box b2 [.slice none 0 0, .slice none 0 0, .int .i64 0, .bool false]), (3, Box b3 [.slice a59 (List.length l58) c60, .slice a79 (List.length l78) c80, .int .i64 p0.Fuse, .bool p0.Dead]), (8, OwnS kTCell a59 c60 l58), (19, OwnS kTWet a79 c80 l78)]) (fun _ _ _ => False) (none, 0) ⟨rfl, rfl, rfl, rfl, rfl, trivial⟩ ⟨rfl, rfl, rfl, rfl, trivial⟩ rfl ?_ ?_ ?_
    · clear H h118
      rintro ⟨i77, l78⟩ ⟨a79, c80⟩ o H
      rw [impl_copyDisk_b1] at H
      refine HQ.keep [(2, _), (3, _), (33, _), (34, _), (35, _)] ⟨rfl, rfl, rfl, rfl, rfl, trivial⟩ ?_
      refine HQ.keepR [(2, _), (3, _), (8, _), (19, _)] ⟨rfl, rfl, rfl, rfl, trivial⟩ rfl ?_
      refine HQ.rseq ?_
      refine HQ.pu Pu.lss ⟨rfl, rfl, trivial⟩ rfl rfl rfl ?_
      refine HQ.done ?_
      refine HQ.keep [(2, _), (3, _), (33, _), (34, _), (35, _), (36, _)] ⟨rfl, rfl, rfl, rfl, rfl, rfl, trivial⟩ ?_
      refine HQ.seq ?_
      rcases brk H with ⟨hc, H⟩ | ⟨hc, H⟩
      · refine HQ.condT rfl hc ?_
        clear hc
        refine HQ.skipThen ?_
        refine HQ.seq ?_
        refine HQ.block ?_
        refine HQ.rseq ?_
        obtain ⟨h97, H⟩ := asr H
        refine HQ.op [] [] (OT.indexB ul25 sz110 hb_1 h97) ⟨rfl, rfl, trivial⟩ trivial rfl rfl rfl rfl (fun _ => rfl) fun _ => ?_
        obtain ⟨⟨a98, c99⟩, hb100, hn101⟩ := BorS.nest hb_1 h97
        refine HQ.op [] [] (OT.loadNA (vs := [.int .i64 ((gt p0.Wet i77).At), .slice a98 (List.length ((gt p0.Wet i77).B)) c99]) ag110 sz110 hn101 hlTWet rfl rfl) ⟨rfl, trivial⟩ trivial rfl rfl rfl rfl (fun _ => rfl) fun _ => ?_
        refine HQ.op [] [23] (OT.alloc zc110) trivial trivial rfl rfl rfl rfl (fun _ => rfl) fun b102 => ?_
        refine HQ.opN [23] [23] [] (OT.storeC (cs' := [.int .i64 ((gt p0.Wet i77).At), .slice a98 (List.length ((gt p0.Wet i77).B)) c99]) sz110 rfl rfl rfl rfl rfl) ⟨rfl, rfl, trivial⟩ ⟨rfl, trivial⟩ rfl rfl rfl (fun _ => rfl) fun _ => ?_
        refine HQ.done ?_
        refine HQ.keep [(2, _), (3, _), (33, _), (34, _), (35, _), (7, _)] ⟨rfl, rfl, rfl, rfl, rfl, rfl, trivial⟩ ?_
        refine HQ.dStart mixd ?_
        obtain ⟨t104, h105, H⟩ := bnd H
        refine HQ.dPart [(2, BP b2 0), (3, BP b3 0), (33, .slice a_1 (List.length p0.Wet) c_1), (34, .int .i64 ((List.length p0.Wet : Nat) : Int)), (35, .int .i64 i77), (7, BP b102 0)] 9 [⟨[], [], []⟩, ⟨[0], [0], [0]⟩, ⟨[], [], []⟩, ⟨[1], [1], [2]⟩, ⟨[], [], []⟩, ⟨[1], [1], [4]⟩, ⟨[], [2], [5]⟩, ⟨[], [], [3, 6]⟩, ⟨[2], [3], [7]⟩] [⟨none, none⟩, ⟨none, none⟩, ⟨some 6, some 8⟩, ⟨some 8, none⟩] (fun (g103 : (Option Addr × Nat) × (Option Addr × Nat)) => [BP b3 1, .slice a79 (List.length l78) c80, BP b102 0, .int .i64 ((gt p0.Wet i77).At), BP b102 1, .slice a98 (List.length ((gt p0.Wet i77).B)) c99, .slice g103.1.1 (List.length t104) g103.1.2, .agg #[.int .i64 ((gt p0.Wet i77).At), .slice g103.1.1 (List.length t104) g103.1.2], .slice g103.2.1 (List.length ([(⟨(gt p0.Wet i77).At, t104⟩ : TWet)] : (List TWet))) g103.2.2]) (fun (g103 : (Option Addr × Nat) × (Option Addr × Nat)) => [Box b3 [.slice a59 (List.length l58) c60, .slice a79 (List.length l78) c80, .int .i64 p0.Fuse, .bool p0.Dead], Box b102 [.int .i64 ((gt p0.Wet i77).At), .slice a98 (List.length ((gt p0.Wet i77).B)) c99], OwnS kU8 g103.1.1 g103.1.2 t104, OwnS kTWet g103.2.1 g103.2.2 ([(⟨(gt p0.Wet i77).At, t104⟩ : TWet)] : (List TWet))]) ((none, 0), (none, 0)) [3, 23] [3, 23, 25] [] ⟨rfl, rfl, rfl, rfl, rfl, rfl, trivial⟩ ⟨rfl, rfl, trivial⟩ rfl (by kernel_rfl) (by kernel_rfl) (fun _ => rfl) (by kernel_rfl) (fun _ => rfl) rfl ⟨?_, ?_, ?_, ?_, ?_, ?_, ?_, ?_, ?_, trivial⟩ fun g103 => ?_
        · exact OpOK2.of (fun g103 => [(.tmp 3, BP b3 0)]) _ _ (fun g103 _ => g103) rfl rfl (fun _ => ⟨rfl, trivial⟩) (fun g103 => Pu.toOT (Pu.fieldB fo27_1 rfl)) (fun _ _ => ⟨rfl, rfl, ⟨rfl, rfl, rfl, rfl, trivial⟩⟩)
        · exact OpOK2.of (fun g103 => [(.tmp 39, BP b3 1)]) _ _ (fun g103 _ => g103) rfl rfl (fun _ => ⟨rfl, trivial⟩) (fun g103 => OT.loadB sc25 rfl) (fun _ _ => ⟨rfl, rfl, ⟨rfl, rfl, rfl, rfl, trivial⟩⟩)
        · exact OpOK2.of (fun g103 => [(.tmp 7, BP b102 0)]) _ _ (fun g103 _ => g103) rfl rfl (fun _ => ⟨rfl, trivial⟩) (fun g103 => Pu.toOT (Pu.fieldB fo110_0 rfl)) (fun _ _ => ⟨rfl, rfl, ⟨rfl, rfl, rfl, rfl, trivial⟩⟩)
        · exact OpOK2.of (fun g103 => [(.tmp 41, BP b102 0)]) _ _ (fun g103 _ => g103) rfl rfl (fun _ => ⟨rfl, trivial⟩) (fun g103 => OT.loadB sc3 rfl) (fun _ _ => ⟨rfl, rfl, ⟨rfl, rfl, rfl, rfl, trivial⟩⟩)
        · exact OpOK2.of (fun g103 => [(.tmp 7, BP b102 0)]) _ _ (fun g103 _ => g103) rfl rfl (fun _ => ⟨rfl, trivial⟩) (fun g103 => Pu.toOT (Pu.fieldB fo110_1 rfl)) (fun _ _ => ⟨rfl, rfl, ⟨rfl, rfl, rfl, rfl, trivial⟩⟩)
        · exact OpOK2.of (fun g103 => [(.tmp 43, BP b102 1)]) _ _ (fun g103 _ => g103) rfl rfl (fun _ => ⟨rfl, trivial⟩) (fun g103 => OT.loadB sc22 rfl) (fun _ _ => ⟨rfl, rfl, ⟨rfl, rfl, rfl, rfl, trivial⟩⟩)
        · exact OpOK2.ofD [7] (by kernel_rfl) (fun g103 => [(.func 88, .func (.func 88) #[] #[]), (.tmp 44, .slice a98 (List.length ((gt p0.Wet i77).B)) c99)]) _ _ (fun g103 x => (x, g103.2)) rfl rfl (fun _ => ⟨rfl, rfl, trivial⟩) (fun g103 => OT.call (us := [_]) (Pre := []) [.tmp 44] Try.call88 rfl rfl fun w F hs hF hp => slices_Clone_byte_byte_c (hb100.pass hp) h105) (fun _ _ => ⟨⟨rfl, rfl, rfl, rfl, rfl, rfl, rfl, trivial, rfl, trivial⟩, rfl, ⟨rfl, rfl, rfl, rfl, trivial⟩⟩)
        · exact OpOK2.of (fun g103 => [(.tmp 42, .int .i64 ((gt p0.Wet i77).At)), (.tmp 45, .slice g103.1.1 (List.length t104) g103.1.2)]) _ _ (fun g103 _ => g103) rfl rfl (fun _ => ⟨rfl, rfl, trivial⟩) (fun g103 => Pu.toOT (Pu.build (us := [.int .i64 ((gt p0.Wet i77).At), .slice g103.1.1 (List.length t104) g103.1.2]) (cs := [.int .i64 ((gt p0.Wet i77).At), .slice g103.1.1 (List.length t104) g103.1.2]) [(0, .tmp 42), (1, .tmp 45)] st110 rfl rfl rfl)) (fun _ _ => ⟨rfl, rfl, ⟨rfl, rfl, rfl, rfl, trivial⟩⟩)
        · exact OpOK2.of (fun g103 => [(.tmp 46, .agg #[.int .i64 ((gt p0.Wet i77).At), .slice g103.1.1 (List.length t104) g103.1.2])]) _ _ (fun g103 x => (g103.1, x)) rfl rfl (fun _ => ⟨rfl, trivial⟩) (fun g103 => OT.buildO (u := .agg #[.int .i64 ((gt p0.Wet i77).At), .slice g103.1.1 (List.length t104) g103.1.2]) (enc := encTWet) (hl := hlTWet) (sub := fun (x : TWet) => x.B) (.tmp 46) (⟨(gt p0.Wet i77).At, t104⟩ : TWet) sl25.ul sl25.szE sl25.zc rfl rfl rfl rfl) (fun _ _ => ⟨rfl, rfl, ⟨rfl, rfl, rfl, rfl, trivial⟩⟩)
        refine HQ.keep [(2, _), (3, _), (33, _), (34, _), (35, _), (40, _), (47, _)] ⟨rfl, rfl, rfl, rfl, rfl, rfl, rfl, trivial⟩ ?_
        refine HQ.keepR [(2, _), (3, _), (8, _), (19, _), (23, _), (25, _)] ⟨rfl, rfl, rfl, rfl, rfl, rfl, trivial⟩ rfl ?_
        refine HQ.dRun 3 rfl rfl (by kernel_rfl) (by kernel_rfl) ?_
        obtain ⟨h112, H⟩ := asr H
        refine HQ.opD [19, 25] [19] [25] (OT.appendO (K := kTWet) sl25 ul25 h112) ⟨rfl, rfl, trivial⟩ ⟨rfl, rfl, trivial⟩ rfl rfl rfl rfl (fun _ => rfl) fun ⟨a110, c111⟩ => ?_
        refine HQ.pu (Pu.fieldB fo27_1 rfl) ⟨rfl, trivial⟩ rfl rfl rfl ?_
        refine HQ.opN [3] [3] [] (OT.storeC (cs' := [.slice a59 (List.length l58) c60, .slice a110 (List.length (l78 ++ ([(⟨(gt p0.Wet i77).At, t104⟩ : TWet)] : (List TWet)))) c111, .int .i64 p0.Fuse, .bool p0.Dead]) sz25 rfl rfl rfl rfl rfl) ⟨rfl, rfl, trivial⟩ ⟨rfl, trivial⟩ rfl rfl rfl (fun _ => rfl) fun _ => ?_
        refine HQ.done ?_
        refine HQ.dEnd rfl ?_
        refine HQ.keep [(2, _), (3, _), (33, _), (34, _), (35, _)] ⟨rfl, rfl, rfl, rfl, rfl, trivial⟩ ?_
        refine HQ.blkN ?_
        refine HQ.thenN ?_
        refine HQ.regionQ ?_
        refine HQ.pu Pu.add ⟨rfl, rfl, trivial⟩ rfl rfl rfl ?_
        refine HQ.pu Pu.move ⟨rfl, trivial⟩ rfl rfl rfl ?_
        refine HQ.done ?_
        refine HQ.keep [(2, _), (3, _), (33, _), (34, _), (35, _)] ⟨rfl, rfl, rfl, rfl, rfl, trivial⟩ ?_
        obtain rfl := Option.some.inj H
        exact HQ.next (a110, c111) ⟨rfl, rfl, rfl, rfl, rfl, trivial⟩ ⟨rfl, rfl, rfl, rfl, trivial⟩ rfl
      · refine HQ.condF rfl hc ?_
        clear hc
        refine HQ.exit ?_
        refine HQ.thenE ?_
        obtain rfl := Option.some.inj H
        exact HQ.out (a79, c80) ⟨rfl, rfl, rfl, rfl, rfl, trivial⟩ ⟨rfl, rfl, rfl, rfl, trivial⟩ rfl
    · rintro ⟨i114, l115⟩ rfl ⟨a116, c117⟩
      clear h118
      replace H := H
      refine HQ.keep [(2, _), (3, _), (33, _), (34, _), (35, _)] ⟨rfl, rfl, rfl, rfl, rfl, trivial⟩ ?_
      refine HQ.keepR [(2, _), (3, _), (8, _), (19, _)] ⟨rfl, rfl, rfl, rfl, trivial⟩ rfl ?_
      refine HQ.blkE ?_
      refine HQ.thenN ?_
      refine HQ.rseq ?_
      refine HQ.op [3] [3] (OT.loadBA (vs := [.slice a59 (List.length l58) c60, .slice a116 (List.length l115) c117, .int .i64 p0.Fuse, .bool p0.Dead]) ag27 sz27 rfl rfl) ⟨rfl, trivial⟩ ⟨rfl, trivial⟩ rfl rfl rfl rfl (fun _ => rfl) fun _ => ?_
      refine HQ.opN [2] [2] [] (OT.storeC (cs' := [.slice a59 (List.length l58) c60, .slice a116 (List.length l115) c117, .int .i64 p0.Fuse, .bool p0.Dead]) sz27 rfl rfl rfl rfl rfl) ⟨rfl, rfl, trivial⟩ ⟨rfl, trivial⟩ rfl rfl rfl (fun _ => rfl) fun _ => ?_
      refine HQ.done ?_
      refine HQ.keep [(2, _)] ⟨rfl, trivial⟩ ?_
      refine HQ.ret ?_
      obtain rfl := Option.some.inj H
      exact HQ.fin (vs := [_]) Try.results81 ((a59, c60), (a116, c117)) ⟨⟨_, _, 2, rfl, rfl, ag27, sz27, rfl⟩, trivial⟩ rfl [8, 19] ⟨rfl, rfl, trivial⟩ rfl
    · exact fun r h a w hf => hf.elim
  · exact fun r h a w hf => hf.elim

/-! (*impl.Disk).burn -/
theorem impl_Disk_burn_c {w : World} {p0 : TDisk} {β_0 : Nat} {a_0 : Option Addr} {c_0 : Nat} {a_1 : Option Addr} {c_1 : Nat} {F0 : Fp} (hs0 : Sat [Box β_0 [.slice a_0 (List.length p0.Cells) c_0, .slice a_1 (List.length p0.Wet) c_1, .int .i64 p0.Fuse, .bool p0.Dead]] w.heap F0) (hF0 : ∀ b, F0 b → b < w.heap.size)  {r : Bool × TDisk} (H : impl_Disk_burn p0 = some r) :
    Calls Try.prog 82 #[BP β_0 0] w (Rt w F0 (fun _ : Unit => .bool r.1) (fun _ => [Box β_0 [.slice a_0 (List.length p0.Cells) c_0, .slice a_1 (List.length p0.Wet) c_1, .int .i64 r.2.Fuse, .bool r.2.Dead]])) := by
  rw [impl_Disk_burn] at H
  refine Calls.enter (N := 27) (us := [_]) (F0 := F0) (Γ0 := [(1, Box β_0 [.slice a_0 (List.length p0.Cells) c_0, .slice a_1 (List.length p0.Wet) c_1, .int .i64 p0.Fuse, .bool p0.Dead])]) Try.func82 rfl rfl rfl hs0 hF0 ?_
  refine HQ.rseq ?_
  refine HQ.pu Pu.assign ⟨rfl, trivial⟩ rfl rfl rfl ?_
  refine HQ.done ?_
  refine HQ.keep [(0, _), (2, _)] ⟨rfl, rfl, trivial⟩ ?_
  refine HQ.seq ?_
  refine HQ.rseq ?_
  refine HQ.pu Pu.move ⟨rfl, trivial⟩ rfl rfl rfl ?_
  refine HQ.pu Pu.nilCheck ⟨rfl, trivial⟩ rfl rfl rfl ?_
  refine HQ.pu (Pu.fieldB fo27_3 rfl) ⟨rfl, trivial⟩ rfl rfl rfl ?_
  refine HQ.op [1] [1] (OT.loadB sc4 rfl) ⟨rfl, trivial⟩ ⟨rfl, trivial⟩ rfl rfl rfl rfl (fun _ => rfl) fun _ => ?_
  refine HQ.done ?_
  refine HQ.keep [(0, _), (2, _), (6, _)] ⟨rfl, rfl, rfl, trivial⟩ ?_
  rcases brk H with ⟨hc, H⟩ | ⟨hc, H⟩
  · refine HQ.condT rfl hc ?_
    clear hc
    refine HQ.rseq ?_
    refine HQ.pu Pu.assign ⟨rfl, trivial⟩ rfl rfl rfl ?_
    refine HQ.done ?_
    refine HQ.keep [(0, _), (2, _)] ⟨rfl, rfl, trivial⟩ ?_
    refine HQ.ret ?_
    refine HQ.thenR ?_
    obtain rfl := Option.some.inj H
    exact HQ.fin (vs := [_]) Try.results82 () ⟨rfl, trivial⟩ rfl [1] ⟨rfl, trivial⟩ rfl
  · refine HQ.condF rfl hc ?_
    clear hc
    refine HQ.skipThen ?_
    refine HQ.seq ?_
    refine HQ.rseq ?_
    refine HQ.pu Pu.move ⟨rfl, trivial⟩ rfl rfl rfl ?_
    refine HQ.pu Pu.nilCheck ⟨rfl, trivial⟩ rfl rfl rfl ?_
    refine HQ.pu (Pu.fieldB fo27_2 rfl) ⟨rfl, trivial⟩ rfl rfl rfl ?_
    refine HQ.op [1] [1] (OT.loadB sc3 rfl) ⟨rfl, trivial⟩ ⟨rfl, trivial⟩ rfl rfl rfl rfl (fun _ => rfl) fun _ => ?_
    refine HQ.pu Pu.eql ⟨rfl, rfl, trivial⟩ rfl rfl rfl ?_
    refine HQ.done ?_
    refine HQ.keep [(0, _), (2, _), (11, _)] ⟨rfl, rfl, rfl, trivial⟩ ?_
    rcases brk H with ⟨hc, H⟩ | ⟨hc, H⟩
    · refine HQ.condT rfl hc ?_
      clear hc
      refine HQ.rseq ?_
      refine HQ.pu Pu.move ⟨rfl, trivial⟩ rfl rfl rfl ?_
      refine HQ.pu Pu.nilCheck ⟨rfl, trivial⟩ rfl rfl rfl ?_
      refine HQ.pu (Pu.fieldB fo27_3 rfl) ⟨rfl, trivial⟩ rfl rfl rfl ?_
      refine HQ.opN [1] [1] [] (OT.storeC (cs' := [.slice a_0 (List.length p0.Cells) c_0, .slice a_1 (List.length p0.Wet) c_1, .int .i64 p0.Fuse, .bool true]) sz4 rfl rfl rfl rfl rfl) ⟨rfl, rfl, trivial⟩ ⟨rfl, trivial⟩ rfl rfl rfl (fun _ => rfl) fun _ => ?_
      refine HQ.done ?_
      refine HQ.keep [(0, _), (2, _)] ⟨rfl, rfl, trivial⟩ ?_
      refine HQ.rseq ?_
      refine HQ.pu Pu.assign ⟨rfl, trivial⟩ rfl rfl rfl ?_
      refine HQ.done ?_
      refine HQ.keep [(0, _), (2, _)] ⟨rfl, rfl, trivial⟩ ?_
      refine HQ.ret ?_
      refine HQ.thenR ?_
      obtain rfl := Option.some.inj H
      exact HQ.fin (vs := [_]) Try.results82 () ⟨rfl, trivial⟩ rfl [1] ⟨rfl, trivial⟩ rfl
    · refine HQ.condF rfl hc ?_
      clear hc
      refine HQ.skipThen ?_
      refine HQ.seq ?_
      refine HQ.rseq ?_
      refine HQ.pu Pu.move ⟨rfl, trivial⟩ rfl rfl rfl ?_
      refine HQ.pu Pu.nilCheck ⟨rfl, trivial⟩ rfl rfl rfl ?_
      refine HQ.pu (Pu.fieldB fo27_2 rfl) ⟨rfl, trivial⟩ rfl rfl rfl ?_
      refine HQ.op [1] [1] (OT.loadB sc3 rfl) ⟨rfl, trivial⟩ ⟨rfl, trivial⟩ rfl rfl rfl rfl (fun _ => rfl) fun _ => ?_
      refine HQ.pu Pu.gtr ⟨rfl, rfl, trivial⟩ rfl rfl rfl ?_
      refine HQ.done ?_
      refine HQ.keep [(0, _), (2, _), (19, _)] ⟨rfl, rfl, rfl, trivial⟩ ?_
      rcases brk H with ⟨hc, H⟩ | ⟨hc, H⟩
      · refine HQ.condT rfl hc ?_
        clear hc
        refine HQ.region ?_
        refine HQ.pu Pu.move ⟨rfl, trivial⟩ rfl rfl rfl ?_
        refine HQ.pu Pu.nilCheck ⟨rfl, trivial⟩ rfl rfl rfl ?_
        refine HQ.pu (Pu.fieldB fo27_2 rfl) ⟨rfl, trivial⟩ rfl rfl rfl ?_
        refine HQ.op [1] [1] (OT.loadB sc3 rfl) ⟨rfl, trivial⟩ ⟨rfl, trivial⟩ rfl rfl rfl rfl (fun _ => rfl) fun _ => ?_
        refine HQ.pu Pu.sub ⟨rfl, rfl, trivial⟩ rfl rfl rfl ?_
        refine HQ.pu Pu.nilCheck ⟨rfl, trivial⟩ rfl rfl rfl ?_
        refine HQ.pu (Pu.fieldB fo27_2 rfl) ⟨rfl, trivial⟩ rfl rfl rfl ?_
        refine HQ.opN [1] [1] [] (OT.storeC (cs' := [.slice a_0 (List.length p0.Cells) c_0, .slice a_1 (List.length p0.Wet) c_1, .int .i64 (wrap64 (p0.Fuse - 1)), .bool p0.Dead]) sz3 rfl rfl rfl rfl rfl) ⟨rfl, rfl, trivial⟩ ⟨rfl, trivial⟩ rfl rfl rfl (fun _ => rfl) fun _ => ?_
        refine HQ.done ?_
        refine HQ.keep [(2, _)] ⟨rfl, trivial⟩ ?_
        refine HQ.rseq ?_
        refine HQ.pu Pu.assign ⟨rfl, trivial⟩ rfl rfl rfl ?_
        refine HQ.done ?_
        refine HQ.keep [(2, _)] ⟨rfl, trivial⟩ ?_
        refine HQ.ret ?_
        obtain rfl := Option.some.inj H
        exact HQ.fin (vs := [_]) Try.results82 () ⟨rfl, trivial⟩ rfl [1] ⟨rfl, trivial⟩ rfl
      · refine HQ.condF rfl hc ?_
        clear hc
        refine HQ.skipThen ?_
        refine HQ.rseq ?_
        refine HQ.pu Pu.assign ⟨rfl, trivial⟩ rfl rfl rfl ?_
        refine HQ.done ?_
        refine HQ.keep [(2, _)] ⟨rfl, trivial⟩ ?_
        refine HQ.ret ?_
        obtain rfl := Option.some.inj H
        exact HQ.fin (vs := [_]) Try.results82 () ⟨rfl, trivial⟩ rfl [1] ⟨rfl, trivial⟩ rfl

/-! impl.Write -/
theorem impl_Write_c {w : World} {k : Nat} {p0 : TDisk} {p1 : Int} {p2 : (List Int)} {a_0 : Option Addr} {c_0 : Nat} {a_1 : Option Addr} {c_1 : Nat} {a_2 : Option Addr} {c_2 : Nat} (hb_0 : BorS kTCell a_0 c_0 p0.Cells w.heap (Lt w Nil)) (hb_1 : BorS kTWet a_1 c_1 p0.Wet w.heap (Lt w Nil)) (hb_2 : BorS kU8 a_2 c_2 p2 w.heap (Lt w Nil)) {r : TDisk} (H : impl_Write k p0 p1 p2 = some r) :
    Calls Try.prog 11 #[.agg #[.slice a_0 (List.length p0.Cells) c_0, .slice a_1 (List.length p0.Wet) c_1, .int .i64 p0.Fuse, .bool p0.Dead], .int .i64 p1, .slice a_2 (List.length p2) c_2] w (Rt w Nil (fun g : (Option Addr × Nat) × (Option Addr × Nat) => .agg #[.slice g.1.1 (List.length r.Cells) g.1.2, .slice g.2.1 (List.length r.Wet) g.2.2, .int .i64 r.Fuse, .bool r.Dead]) (fun g => [OwnS kTCell g.1.1 g.1.2 r.Cells, OwnS kTWet g.2.1 g.2.2 r.Wet])) := by
  rw [impl_Write] at H
  refine Calls.enter0 (N := 30) (us := [_, _, _]) Try.func11 rfl rfl rfl ?_
  refine HQ.rseq ?_
  refine HQ.op [] [1] (OT.box (cs := [.slice a_0 (List.length p0.Cells) c_0, .slice a_1 (List.length p0.Wet) c_1, .int .i64 p0.Fuse, .bool p0.Dead]) rfl) ⟨rfl, trivial⟩ trivial rfl rfl rfl rfl (fun _ => rfl) fun b1 => ?_
  refine HQ.op [] [2] (OT.alloc zc27) trivial trivial rfl rfl rfl rfl (fun _ => rfl) fun b2 => ?_
  refine HQ.done ?_
  refine HQ.keep [(1, _), (2, _), (3, _), (6, _)] ⟨rfl, rfl, rfl, rfl, trivial⟩ ?_
  refine HQ.rseq ?_
  refine HQ.op [1] [1] (OT.loadBA (vs := [.slice a_0 (List.length p0.Cells) c_0, .slice a_1 (List.length p0.Wet) c_1, .int .i64 p0.Fuse, .bool p0.Dead]) ag27 sz27 rfl rfl) ⟨rfl, trivial⟩ ⟨rfl, trivial⟩ rfl rfl rfl rfl (fun _ => rfl) fun _ => ?_
  obtain ⟨t3, h4, H⟩ := bnd H
  refine HQ.op [] [3, 4] (OT.call (us := [_]) (Pre := []) [.tmp 8] Try.call81 rfl rfl fun w F hs hF hp => impl_copyDisk_c (hb_0.pass hp) (hb_1.pass hp) h4) ⟨rfl, rfl, trivial⟩ trivial rfl rfl rfl rfl (fun _ => rfl) fun ⟨⟨a5, c6⟩, ⟨a7, c8⟩⟩ => ?_
  refine HQ.op [] [5] (OT.alloc zc27) trivial trivial rfl rfl rfl rfl (fun _ => rfl) fun b9 => ?_
  refine HQ.opN [5] [5] [] (OT.storeC (cs' := [.slice a5 (List.length t3.Cells) c6, .slice a7 (List.length t3.Wet) c8, .int .i64 t3.Fuse, .bool t3.Dead]) sz27 rfl rfl rfl rfl rfl) ⟨rfl, rfl, trivial⟩ ⟨rfl, trivial⟩ rfl rfl rfl (fun _ => rfl) fun _ => ?_
  refine HQ.done ?_
  refine HQ.keep [(1, _), (2, _), (6, _), (7, _)] ⟨rfl, rfl, rfl, rfl, trivial⟩ ?_
  refine HQ.seq ?_
  refine HQ.rseq ?_
  obtain ⟨t10, h11, H⟩ := bnd H
  refine HQ.op [5] [5] (OT.callM (us := [_]) (PreX := [Box b9 [.slice a5 (List.length t3.Cells) c6, .slice a7 (List.length t3.Wet) c8, .int .i64 t3.Fuse, .bool t3.Dead]]) (PreL := []) [.tmp 7] Try.call82 rfl rfl fun w FX FL hs1 hF1 hs2 hF2 hp => impl_Disk_burn_c (p0 := t3) hs1 hF1 h11) ⟨rfl, rfl, trivial⟩ ⟨rfl, trivial⟩ rfl rfl rfl rfl (fun _ => rfl) fun _ => ?_
  refine HQ.pu Pu.move ⟨rfl, trivial⟩ rfl rfl rfl ?_
  obtain ⟨c15, h16, H⟩ := bnd H
  refine HQ.cutAt 3 [(14, .bool c15), (1, .int .i64 p1), (2, .slice a_2 (List.length p2) c_2), (6, BP b2 0), (7, BP b9 0)] [(1, Box b1 [.slice a_0 (List.length p0.Cells) c_0, .slice a_1 (List.length p0.Wet) c_1, .int .i64 p0.Fuse, .bool p0.Dead]), (2, Box b2 [.slice none 0 0, .slice none 0 0, .int .i64 0, .bool false]), (3, OwnS kTCell a5 c6 t3.Cells), (4, OwnS kTWet a7 c8 t3.Wet), (5, Box b9 [.slice a5 (List.length t3.Cells) c6, .slice a7 (List.length t3.Wet) c8, .int .i64 t10.2.Fuse, .bool t10.2.Dead])] ?_ ?_
  · clear H
    have H := h16
    rcases brk H with ⟨hg12, H⟩ | ⟨hg12, H⟩
    · refine HQ.on rfl rfl hg12 ?_
      refine HQ.pu Pu.move ⟨rfl, trivial⟩ rfl rfl rfl ?_
      refine HQ.on rfl rfl hg12 ?_
      obtain ⟨t13, h14, H⟩ := bnd H
      refine HQ.op [] [] (OT.call (us := [_, _, _]) (Pre := []) [.tmp 12, .const (.int .i64 0), .const (.int .i64 113)] Try.call83 rfl rfl fun w F hs hF hp => impl_in_c h14) ⟨rfl, rfl, rfl, rfl, trivial⟩ trivial rfl rfl rfl rfl (fun _ => rfl) fun _ => ?_
      obtain rfl := Option.some.inj H
      refine HQ.pu (Pu.pickC1 hg12) ⟨rfl, rfl, trivial⟩ rfl rfl rfl ?_
      exact HQ.mid ⟨rfl, rfl, rfl, rfl, rfl, trivial⟩ ⟨rfl, rfl, rfl, rfl, rfl, trivial⟩ rfl
    · obtain rfl := Option.some.inj H
      refine HQ.off rfl rfl hg12 rfl ?_
      refine HQ.off rfl rfl hg12 rfl ?_
      refine HQ.pu (Pu.pickC0 hg12) ⟨rfl, rfl, trivial⟩ rfl rfl rfl ?_
      exact HQ.mid ⟨rfl, rfl, rfl, rfl, rfl, trivial⟩ ⟨rfl, rfl, rfl, rfl, rfl, trivial⟩ rfl
  refine HQ.pu Pu.move ⟨rfl, trivial⟩ rfl rfl rfl ?_
  refine HQ.cutAt 4 [(19, .bool (c15 && (decide (((List.length p2 : Nat) : Int) ≤ 32)))), (1, .int .i64 p1), (2, .slice a_2 (List.length p2) c_2), (6, BP b2 0), (7, BP b9 0)] [(1, Box b1 [.slice a_0 (List.length p0.Cells) c_0, .slice a_1 (List.length p0.Wet) c_1, .int .i64 p0.Fuse, .bool p0.Dead]), (2, Box b2 [.slice none 0 0, .slice none 0 0, .int .i64 0, .bool false]), (3, OwnS kTCell a5 c6 t3.Cells), (4, OwnS kTWet a7 c8 t3.Wet), (5, Box b9 [.slice a5 (List.length t3.Cells) c6, .slice a7 (List.length t3.Wet) c8, .int .i64 t10.2.Fuse, .bool t10.2.Dead])] ?_ ?_
  · rcases Bool.eq_false_or_eq_true c15 with hg17 | hg17
    · refine HQ.on rfl rfl hg17 ?_
      refine HQ.pu Pu.move ⟨rfl, trivial⟩ rfl rfl rfl ?_
      refine HQ.on rfl rfl hg17 ?_
      refine HQ.pu (Pu.len ul22) ⟨rfl, trivial⟩ rfl rfl rfl ?_
      refine HQ.on rfl rfl hg17 ?_
      refine HQ.pu Pu.leq ⟨rfl, rfl, trivial⟩ rfl rfl rfl ?_
      refine HQ.pu (Pu.pickAT hg17) ⟨rfl, rfl, trivial⟩ rfl rfl rfl ?_
      exact HQ.mid ⟨rfl, rfl, rfl, rfl, rfl, trivial⟩ ⟨rfl, rfl, rfl, rfl, rfl, trivial⟩ rfl
    · refine HQ.off rfl rfl hg17 rfl ?_
      refine HQ.off rfl rfl hg17 rfl ?_
      refine HQ.off rfl rfl hg17 rfl ?_
      refine HQ.pu (Pu.pickAF (u := (decide (((List.length p2 : Nat) : Int) ≤ 32))) hg17) ⟨rfl, rfl, trivial⟩ rfl rfl rfl ?_
      exact HQ.mid ⟨rfl, rfl, rfl, rfl, rfl, trivial⟩ ⟨rfl, rfl, rfl, rfl, rfl, trivial⟩ rfl
  refine HQ.done ?_
  refine HQ.keep [(19, _), (1, _), (2, _), (6, _), (7, _)] ⟨rfl, rfl, rfl, rfl, rfl, trivial⟩ ?_
  rcases brk H with ⟨hc, H⟩ | ⟨hc, H⟩
  · refine HQ.condT rfl hc ?_
    clear hc
    refine HQ.dStart mixd ?_
    obtain ⟨t19, h20, H⟩ := bnd H
    refine HQ.dPart [(1, .int .i64 p1), (2, .slice a_2 (List.length p2) c_2), (6, BP b2 0), (7, BP b9 0)] 7 [⟨[], [], []⟩, ⟨[0], [0], [0]⟩, ⟨[], [], []⟩, ⟨[], [], []⟩, ⟨[], [1], [3]⟩, ⟨[], [], [2, 4]⟩, ⟨[1], [2], [5]⟩] [⟨none, none⟩, ⟨some 4, some 6⟩, ⟨some 6, none⟩] (fun (g18 : (Option Addr × Nat) × (Option Addr × Nat)) => [BP b9 1, .slice a7 (List.length t3.Wet) c8, .int .i64 p1, .slice a_2 (List.length p2) c_2, .slice g18.1.1 (List.length t19) g18.1.2, .agg #[.int .i64 p1, .slice g18.1.1 (List.length t19) g18.1.2], .slice g18.2.1 (List.length ([(⟨p1, t19⟩ : TWet)] : (List TWet))) g18.2.2]) (fun (g18 : (Option Addr × Nat) × (Option Addr × Nat)) => [Box b9 [.slice a5 (List.length t3.Cells) c6, .slice a7 (List.length t3.Wet) c8, .int .i64 t10.2.Fuse, .bool t10.2.Dead], OwnS kU8 g18.1.1 g18.1.2 t19, OwnS kTWet g18.2.1 g18.2.2 ([(⟨p1, t19⟩ : TWet)] : (List TWet))]) ((none, 0), (none, 0)) [5] [5, 7] [] ⟨rfl, rfl, rfl, rfl, trivial⟩ ⟨rfl, trivial⟩ rfl (by kernel_rfl) (by kernel_rfl) (fun _ => rfl) (by kernel_rfl) (fun _ => rfl) rfl ⟨?_, ?_, ?_, ?_, ?_, ?_, ?_, trivial⟩ fun g18 => ?_
    · exact OpOK2.of (fun g18 => [(.tmp 7, BP b9 0)]) _ _ (fun g18 _ => g18) rfl rfl (fun _ => ⟨rfl, trivial⟩) (fun g18 => Pu.toOT (Pu.fieldB fo27_1 rfl)) (fun _ _ => ⟨rfl, rfl, ⟨rfl, rfl, rfl, trivial⟩⟩)
    · exact OpOK2.of (fun g18 => [(.tmp 20, BP b9 1)]) _ _ (fun g18 _ => g18) rfl rfl (fun _ => ⟨rfl, trivial⟩) (fun g18 => OT.loadB sc25 rfl) (fun _ _ => ⟨rfl, rfl, ⟨rfl, rfl, rfl, trivial⟩⟩)
    · exact OpOK2.of (fun g18 => [(.tmp 1, .int .i64 p1)]) _ _ (fun g18 _ => g18) rfl rfl (fun _ => ⟨rfl, trivial⟩) (fun g18 => Pu.toOT Pu.move) (fun _ _ => ⟨rfl, rfl, ⟨rfl, rfl, rfl, trivial⟩⟩)
    · exact OpOK2.of (fun g18 => [(.tmp 2, .slice a_2 (List.length p2) c_2)]) _ _ (fun g18 _ => g18) rfl rfl (fun _ => ⟨rfl, trivial⟩) (fun g18 => Pu.toOT Pu.move) (fun _ _ => ⟨rfl, rfl, ⟨rfl, rfl, rfl, trivial⟩⟩)
    · exact OpOK2.ofD [5] (by kernel_rfl) (fun g18 => [(.func 24, .func (.func 24) #[] #[]), (.tmp 23, .slice a_2 (List.length p2) c_2), (.const (.int .i64 32), .int .i64 32)]) _ _ (fun g18 x => (x, g18.2)) rfl rfl (fun _ => ⟨rfl, rfl, rfl, trivial⟩) (fun g18 => OT.call (us := [_, _]) (Pre := []) [.tmp 23, .const (.int .i64 32)] Try.call24 rfl rfl fun w F hs hF hp => impl_Pad_c (hb_2.pass hp) h20) (fun _ _ => ⟨⟨rfl, rfl, rfl, rfl, rfl, trivial, rfl, trivial⟩, rfl, ⟨rfl, rfl, rfl, trivial⟩⟩)
    · exact OpOK2.of (fun g18 => [(.tmp 22, .int .i64 p1), (.tmp 24, .slice g18.1.1 (List.length t19) g18.1.2)]) _ _ (fun g18 _ => g18) rfl rfl (fun _ => ⟨rfl, rfl, trivial⟩) (fun g18 => Pu.toOT (Pu.build (us := [.int .i64 p1, .slice g18.1.1 (List.length t19) g18.1.2]) (cs := [.int .i64 p1, .slice g18.1.1 (List.length t19) g18.1.2]) [(0, .tmp 22), (1, .tmp 24)] st110 rfl rfl rfl)) (fun _ _ => ⟨rfl, rfl, ⟨rfl, rfl, rfl, trivial⟩⟩)
    · exact OpOK2.of (fun g18 => [(.tmp 25, .agg #[.int .i64 p1, .slice g18.1.1 (List.length t19) g18.1.2])]) _ _ (fun g18 x => (g18.1, x)) rfl rfl (fun _ => ⟨rfl, trivial⟩) (fun g18 => OT.buildO (u := .agg #[.int .i64 p1, .slice g18.1.1 (List.length t19) g18.1.2]) (enc := encTWet) (hl := hlTWet) (sub := fun (x : TWet) => x.B) (.tmp 25) (⟨p1, t19⟩ : TWet) sl25.ul sl25.szE sl25.zc rfl rfl rfl rfl) (fun _ _ => ⟨rfl, rfl, ⟨rfl, rfl, rfl, trivial⟩⟩)
    refine HQ.keep [(6, _), (7, _), (21, _), (26, _)] ⟨rfl, rfl, rfl, rfl, trivial⟩ ?_
    refine HQ.keepR [(1, _), (2, _), (3, _), (4, _), (5, _), (7, _)] ⟨rfl, rfl, rfl, rfl, rfl, rfl, trivial⟩ rfl ?_
    refine HQ.dRun 3 rfl rfl (by kernel_rfl) (by kernel_rfl) ?_
    obtain ⟨h27, H⟩ := asr H
    refine HQ.opD [4, 7] [4] [7] (OT.appendO (K := kTWet) sl25 ul25 h27) ⟨rfl, rfl, trivial⟩ ⟨rfl, rfl, trivial⟩ rfl rfl rfl rfl (fun _ => rfl) fun ⟨a25, c26⟩ => ?_
    refine HQ.pu (Pu.fieldB fo27_1 rfl) ⟨rfl, trivial⟩ rfl rfl rfl ?_
    refine HQ.opN [5] [5] [] (OT.storeC (cs' := [.slice a5 (List.length t3.Cells) c6, .slice a25 (List.length (t3.Wet ++ ([(⟨p1, t19⟩ : TWet)] : (List TWet)))) c26, .int .i64 t10.2.Fuse, .bool t10.2.Dead]) sz25 rfl rfl rfl rfl rfl) ⟨rfl, rfl, trivial⟩ ⟨rfl, trivial⟩ rfl rfl rfl (fun _ => rfl) fun _ => ?_
    refine HQ.done ?_
    refine HQ.dEnd rfl ?_
    refine HQ.thenN ?_
    refine HQ.keep [(6, _), (7, _)] ⟨rfl, rfl, trivial⟩ ?_
    refine HQ.rseq ?_
    refine HQ.op [5] [5] (OT.loadBA (vs := [.slice a5 (List.length t3.Cells) c6, .slice a25 (List.length (t3.Wet ++ ([(⟨p1, t19⟩ : TWet)] : (List TWet)))) c26, .int .i64 t10.2.Fuse, .bool t10.2.Dead]) ag27 sz27 rfl rfl) ⟨rfl, trivial⟩ ⟨rfl, trivial⟩ rfl rfl rfl rfl (fun _ => rfl) fun _ => ?_
    refine HQ.opN [2] [2] [] (OT.storeC (cs' := [.slice a5 (List.length t3.Cells) c6, .slice a25 (List.length (t3.Wet ++ ([(⟨p1, t19⟩ : TWet)] : (List TWet)))) c26, .int .i64 t10.2.Fuse, .bool t10.2.Dead]) sz27 rfl rfl rfl rfl rfl) ⟨rfl, rfl, trivial⟩ ⟨rfl, trivial⟩ rfl rfl rfl (fun _ => rfl) fun _ => ?_
    refine HQ.done ?_
    refine HQ.keep [(6, _)] ⟨rfl, trivial⟩ ?_
    refine HQ.ret ?_
    obtain rfl := Option.some.inj H
    exact HQ.fin (vs := [_]) Try.results11 ((a5, c6), (a25, c26)) ⟨⟨_, _, 2, rfl, rfl, ag27, sz27, rfl⟩, trivial⟩ rfl [3, 4] ⟨rfl, rfl, trivial⟩ rfl
  · refine HQ.condF rfl hc ?_
    clear hc
    refine HQ.skipThen ?_
    refine HQ.rseq ?_
    refine HQ.op [5] [5] (OT.loadBA (vs := [.slice a5 (List.length t3.Cells) c6, .slice a7 (List.length t3.Wet) c8, .int .i64 t10.2.Fuse, .bool t10.2.Dead]) ag27 sz27 rfl rfl) ⟨rfl, trivial⟩ ⟨rfl, trivial⟩ rfl rfl rfl rfl (fun _ => rfl) fun _ => ?_
    refine HQ.opN [2] [2] [] (OT.storeC (cs' := [.slice a5 (List.length t3.Cells) c6, .slice a7 (List.length t3.Wet) c8, .int .i64 t10.2.Fuse, .bool t10.2.Dead]) sz27 rfl rfl rfl rfl rfl) ⟨rfl, rfl, trivial⟩ ⟨rfl, trivial⟩ rfl rfl rfl (fun _ => rfl) fun _ => ?_
    refine HQ.done ?_
    refine HQ.keep [(6, _)] ⟨rfl, trivial⟩ ?_
    refine HQ.ret ?_
    obtain rfl := Option.some.inj H
    exact HQ.fin (vs := [_]) Try.results11 ((a5, c6), (a7, c8)) ⟨⟨_, _, 2, rfl, rfl, ag27, sz27, rfl⟩, trivial⟩ rfl [3, 4] ⟨rfl, rfl, trivial⟩ rfl

/-! impl.PutHead -/
theorem impl_PutHead_c {w : World} {k : Nat} {p0 : TDisk} {p1 : THead} {a_0 : Option Addr} {c_0 : Nat} {a_1 : Option Addr} {c_1 : Nat} (hb_0 : BorS kTCell a_0 c_0 p0.Cells w.heap (Lt w Nil)) (hb_1 : BorS kTWet a_1 c_1 p0.Wet w.heap (Lt w Nil)) {r : TDisk} (H : impl_PutHead k p0 p1 = some r) :
    Calls Try.prog 51 #[.agg #[.slice a_0 (List.length p0.Cells) c_0, .slice a_1 (List.length p0.Wet) c_1, .int .i64 p0.Fuse, .bool p0.Dead], .agg #[.int .i64 p1.Epoch, .int .i64 p1.Seq, .int .i64 p1.Root, .int .i64 p1.Size]] w (Rt w Nil (fun g : (Option Addr × Nat) × (Option Addr × Nat) => .agg #[.slice g.1.1 (List.length r.Cells) g.1.2, .slice g.2.1 (List.length r.Wet) g.2.2, .int .i64 r.Fuse, .bool r.Dead]) (fun g => [OwnS kTCell g.1.1 g.1.2 r.Cells, OwnS kTWet g.2.1 g.2.2 r.Wet])) := by
  rw [impl_PutHead] at H
  refine Calls.enter0 (N := 17) (us := [_, _]) Try.func51 rfl rfl rfl ?_
  refine HQ.rseq ?_
  refine HQ.op [] [1] (OT.box (cs := [.slice a_0 (List.length p0.Cells) c_0, .slice a_1 (List.length p0.Wet) c_1, .int .i64 p0.Fuse, .bool p0.Dead]) rfl) ⟨rfl, trivial⟩ trivial rfl rfl rfl rfl (fun _ => rfl) fun b1 => ?_
  refine HQ.op [] [2] (OT.box (cs := [.int .i64 p1.Epoch, .int .i64 p1.Seq, .int .i64 p1.Root, .int .i64 p1.Size]) rfl) ⟨rfl, trivial⟩ trivial rfl rfl rfl rfl (fun _ => rfl) fun b2 => ?_
  refine HQ.op [] [3] (OT.alloc zc27) trivial trivial rfl rfl rfl rfl (fun _ => rfl) fun b3 => ?_
  refine HQ.done ?_
  refine HQ.keep [(2, _), (3, _), (4, _)] ⟨rfl, rfl, rfl, trivial⟩ ?_
  refine HQ.seq ?_
  refine HQ.rseq ?_
  refine HQ.op [2] [2] (OT.loadBA (vs := [.int .i64 p1.Epoch, .int .i64 p1.Seq, .int .i64 p1.Root, .int .i64 p1.Size]) ag68 sz68 rfl rfl) ⟨rfl, trivial⟩ ⟨rfl, trivial⟩ rfl rfl rfl rfl (fun _ => rfl) fun _ => ?_
  obtain ⟨t4, h5, H⟩ := bnd H
  refine HQ.op [] [] (OT.call (us := [_]) (Pre := []) [.tmp 5] Try.call49 rfl rfl fun w F hs hF hp => impl_HeadOk_c h5) ⟨rfl, rfl, trivial⟩ trivial rfl rfl rfl rfl (fun _ => rfl) fun _ => ?_
  refine HQ.pu Pu.not ⟨rfl, trivial⟩ rfl rfl rfl ?_
  refine HQ.done ?_
  refine HQ.keep [(2, _), (3, _), (4, _), (7, _)] ⟨rfl, rfl, rfl, rfl, trivial⟩ ?_
  rcases brk H with ⟨hc, H⟩ | ⟨hc, H⟩
  · refine HQ.condT rfl hc ?_
    clear hc
    refine HQ.rseq ?_
    refine HQ.op [1] [1] (OT.loadBA (vs := [.slice a_0 (List.length p0.Cells) c_0, .slice a_1 (List.length p0.Wet) c_1, .int .i64 p0.Fuse, .bool p0.Dead]) ag27 sz27 rfl rfl) ⟨rfl, trivial⟩ ⟨rfl, trivial⟩ rfl rfl rfl rfl (fun _ => rfl) fun _ => ?_
    obtain ⟨t6, h7, H⟩ := bnd H
    refine HQ.op [] [4, 5] (OT.call (us := [_]) (Pre := []) [.tmp 8] Try.call81 rfl rfl fun w F hs hF hp => impl_copyDisk_c (hb_0.pass hp) (hb_1.pass hp) h7) ⟨rfl, rfl, trivial⟩ trivial rfl rfl rfl rfl (fun _ => rfl) fun ⟨⟨a8, c9⟩, ⟨a10, c11⟩⟩ => ?_
    refine HQ.opN [3] [3] [] (OT.storeC (cs' := [.slice a8 (List.length t6.Cells) c9, .slice a10 (List.length t6.Wet) c11, .int .i64 t6.Fuse, .bool t6.Dead]) sz27 rfl rfl rfl rfl rfl) ⟨rfl, rfl, trivial⟩ ⟨rfl, trivial⟩ rfl rfl rfl (fun _ => rfl) fun _ => ?_
    refine HQ.done ?_
    refine HQ.keep [(2, _), (3, _), (4, _)] ⟨rfl, rfl, rfl, trivial⟩ ?_
    refine HQ.ret ?_
    refine HQ.thenR ?_
    obtain rfl := Option.some.inj H
    exact HQ.fin (vs := [_]) Try.results51 ((a8, c9), (a10, c11)) ⟨⟨_, _, 3, rfl, rfl, ag27, sz27, rfl⟩, trivial⟩ rfl [4, 5] ⟨rfl, rfl, trivial⟩ rfl
  · refine HQ.condF rfl hc ?_
    clear hc
    refine HQ.skipThen ?_
    obtain ⟨t13, h14, H⟩ := bnd H
    refine HQ.drawS mixd [(2, BP b1 0), (3, BP b2 0), (4, BP b3 0)] 6 [⟨[0], [0], []⟩, ⟨[], [], []⟩, ⟨[1], [1], [1]⟩, ⟨[], [], [2]⟩, ⟨[1], [1], []⟩, ⟨[], [2], [4]⟩] [⟨none, none⟩, ⟨none, none⟩, ⟨some 5, none⟩] (fun (g12 : (Option Addr × Nat)) => [.agg #[.slice a_0 (List.length p0.Cells) c_0, .slice a_1 (List.length p0.Wet) c_1, .int .i64 p0.Fuse, .bool p0.Dead], BP b2 0, .int .i64 p1.Epoch, .int .i64 (Int.tmod p1.Epoch 2), .agg #[.int .i64 p1.Epoch, .int .i64 p1.Seq, .int .i64 p1.Root, .int .i64 p1.Size], .slice g12.1 (List.length t13) g12.2]) (fun (g12 : (Option Addr × Nat)) => [Box b1 [.slice a_0 (List.length p0.Cells) c_0, .slice a_1 (List.length p0.Wet) c_1, .int .i64 p0.Fuse, .bool p0.Dead], Box b2 [.int .i64 p1.Epoch, .int .i64 p1.Seq, .int .i64 p1.Root, .int .i64 p1.Size], OwnS kU8 g12.1 g12.2 t13]) (none, 0) [1, 2] [1, 2, 6] [] ⟨rfl, rfl, rfl, trivial⟩ ⟨rfl, rfl, trivial⟩ rfl (by kernel_rfl) (fun _ => rfl) (by kernel_rfl) (fun _ => rfl) ⟨?_, ?_, ?_, ?_, ?_, ?_, trivial⟩ fun g12 => ?_
    · exact OpOK.of (fun g12 => [(.tmp 2, BP b1 0)]) _ _ (fun g12 _ => g12) rfl rfl (fun _ => ⟨rfl, trivial⟩) (fun g12 => OT.loadBA (vs := [.slice a_0 (List.length p0.Cells) c_0, .slice a_1 (List.length p0.Wet) c_1, .int .i64 p0.Fuse, .bool p0.Dead]) ag27 sz27 rfl rfl) (fun _ _ => ⟨rfl, rfl, ⟨rfl, rfl, rfl, trivial⟩⟩)
    · exact OpOK.of (fun g12 => [(.tmp 3, BP b2 0)]) _ _ (fun g12 _ => g12) rfl rfl (fun _ => ⟨rfl, trivial⟩) (fun g12 => Pu.toOT (Pu.fieldB fo68_0 rfl)) (fun _ _ => ⟨rfl, rfl, ⟨rfl, rfl, rfl, trivial⟩⟩)
    · exact OpOK.of (fun g12 => [(.tmp 11, BP b2 0)]) _ _ (fun g12 _ => g12) rfl rfl (fun _ => ⟨rfl, trivial⟩) (fun g12 => OT.loadB sc3 rfl) (fun _ _ => ⟨rfl, rfl, ⟨rfl, rfl, rfl, trivial⟩⟩)
    · exact OpOK.of (fun g12 => [(.tmp 12, .int .i64 p1.Epoch), (.const (.int .i64 2), .int .i64 2)]) _ _ (fun g12 _ => g12) rfl rfl (fun _ => ⟨rfl, rfl, trivial⟩) (fun g12 => Pu.toOT (Pu.rem (by decide))) (fun _ _ => ⟨rfl, rfl, ⟨rfl, rfl, rfl, trivial⟩⟩)
    · exact OpOK.of (fun g12 => [(.tmp 3, BP b2 0)]) _ _ (fun g12 _ => g12) rfl rfl (fun _ => ⟨rfl, trivial⟩) (fun g12 => OT.loadBA (vs := [.int .i64 p1.Epoch, .int .i64 p1.Seq, .int .i64 p1.Root, .int .i64 p1.Size]) ag68 sz68 rfl rfl) (fun _ _ => ⟨rfl, rfl, ⟨rfl, rfl, rfl, trivial⟩⟩)
    · exact OpOK.of (fun g12 => [(.func 40, .func (.func 40) #[] #[]), (.tmp 14, .agg #[.int .i64 p1.Epoch, .int .i64 p1.Seq, .int .i64 p1.Root, .int .i64 p1.Size])]) _ _ (fun g12 x => x) rfl rfl (fun _ => ⟨rfl, rfl, trivial⟩) (fun g12 => OT.call (us := [_]) (Pre := []) [.tmp 14] Try.call40 rfl rfl fun w F hs hF hp => impl_HeadCell_c h14) (fun _ _ => ⟨rfl, rfl, ⟨rfl, rfl, rfl, trivial⟩⟩)
    refine HQ.keep [(4, _), (10, _), (13, _), (15, _)] ⟨rfl, rfl, rfl, rfl, trivial⟩ ?_
    refine HQ.keepR [(1, _), (2, _), (3, _), (6, _)] ⟨rfl, rfl, rfl, rfl, trivial⟩ rfl ?_
    obtain ⟨t17, h18, H⟩ := bnd H
    refine HQ.op [6] [7, 8, 6] (OT.call (us := [_, _, _]) (Pre := [OwnS kU8 g12.1 g12.2 t13]) [.tmp 10, .tmp 13, .tmp 15] Try.call11 rfl rfl fun w F hs hF hp => impl_Write_c (hb_0.pass hp) (hb_1.pass hp) (hs.lend hF 0 rfl) h18) ⟨rfl, rfl, rfl, rfl, trivial⟩ ⟨rfl, trivial⟩ rfl rfl rfl rfl (fun _ => rfl) fun ⟨⟨a19, c20⟩, ⟨a21, c22⟩⟩ => ?_
    refine HQ.opN [3] [3] [] (OT.storeC (cs' := [.slice a19 (List.length t17.Cells) c20, .slice a21 (List.length t17.Wet) c22, .int .i64 t17.Fuse, .bool t17.Dead]) sz27 rfl rfl rfl rfl rfl) ⟨rfl, rfl, trivial⟩ ⟨rfl, trivial⟩ rfl rfl rfl (fun _ => rfl) fun _ => ?_
    refine HQ.done ?_
    refine HQ.keep [(4, _)] ⟨rfl, trivial⟩ ?_
    refine HQ.ret ?_
    obtain rfl := Option.some.inj H
    exact HQ.fin (vs := [_]) Try.results51 ((a19, c20), (a21, c22)) ⟨⟨_, _, 3, rfl, rfl, ag27, sz27, rfl⟩, trivial⟩ rfl [7, 8] ⟨rfl, rfl, trivial⟩ rfl

end Go.Proofs.Sx
