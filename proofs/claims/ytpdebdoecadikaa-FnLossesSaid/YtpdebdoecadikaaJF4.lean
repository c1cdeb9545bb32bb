import Derived.Test.YtpdebdoecadikaaJF3
import Derived.KernelRfl
namespace Go.Proofs.Sx
open Go.RowKit
set_option linter.unusedVariables false
set_option linter.unusedSimpArgs false
set_option maxRecDepth 20000
set_option maxHeartbeats 1000000
/-! impl.copyDisk -/
theorem impl_copyDisk_c {w : World} {k : Nat} {p0 : TDisk} {a_0 : Option Addr} {c_0 : Nat} {a_1 : Option Addr} {c_1 : Nat} (hb_0 : BorS kTCell a_0 c_0 p0.Cells w.heap (Lt w Nil)) (hb_1 : BorS kTWet a_1 c_1 p0.Wet w.heap (Lt w Nil)) {r : TDisk} (H : impl_copyDisk k p0 = some r) :
    Calls Try.prog 48 #[.agg #[.slice a_0 (List.length p0.Cells) c_0, .slice a_1 (List.length p0.Wet) c_1, .int .i64 p0.Fuse, .bool p0.Dead]] w (Rt w Nil (fun g : (Option Addr × Nat) × (Option Addr × Nat) => .agg #[.slice g.1.1 (List.length r.Cells) g.1.2, .slice g.2.1 (List.length r.Wet) g.2.2, .int .i64 r.Fuse, .bool r.Dead]) (fun g => [OwnS kTCell g.1.1 g.1.2 r.Cells, OwnS kTWet g.2.1 g.2.2 r.Wet])) := by
  rw [impl_copyDisk] at H
  refine Calls.enter0 (N := 52) (us := [_]) Try.func48 rfl rfl rfl ?_
  refine HQ.rseq ?_
  refine HQ.op [] [1] (OT.box (cs := [.slice a_0 (List.length p0.Cells) c_0, .slice a_1 (List.length p0.Wet) c_1, .int .i64 p0.Fuse, .bool p0.Dead]) rfl) ⟨rfl, trivial⟩ trivial rfl rfl rfl rfl (fun _ => rfl) fun b1 => ?_
  refine HQ.op [] [2] (OT.alloc zc30) trivial trivial rfl rfl rfl rfl (fun _ => rfl) fun b2 => ?_
  refine HQ.done ?_
  refine HQ.keep [(1, _), (2, _)] ⟨rfl, rfl, trivial⟩ ?_
  refine HQ.rseq ?_
  refine HQ.pu (Pu.fieldB fo30_2 rfl) ⟨rfl, trivial⟩ rfl rfl rfl ?_
  refine HQ.op [1] [1] (OT.loadB sc3 rfl) ⟨rfl, trivial⟩ ⟨rfl, trivial⟩ rfl rfl rfl rfl (fun _ => rfl) fun _ => ?_
  refine HQ.pu (Pu.fieldB fo30_3 rfl) ⟨rfl, trivial⟩ rfl rfl rfl ?_
  refine HQ.op [1] [1] (OT.loadB sc4 rfl) ⟨rfl, trivial⟩ ⟨rfl, trivial⟩ rfl rfl rfl rfl (fun _ => rfl) fun _ => ?_
  refine HQ.pu (Pu.build (us := [.int .i64 p0.Fuse, .bool p0.Dead]) (cs := [.slice none 0 0, .slice none 0 0, .int .i64 p0.Fuse, .bool p0.Dead]) [(2, .tmp 9), (3, .tmp 11)] st30 rfl rfl rfl) ⟨rfl, rfl, trivial⟩ rfl rfl rfl ?_
  refine HQ.op [] [3] (OT.alloc zc30) trivial trivial rfl rfl rfl rfl (fun _ => rfl) fun b3 => ?_
  refine HQ.opN [3] [3] [] (OT.storeC (cs' := [.slice none 0 0, .slice none 0 0, .int .i64 p0.Fuse, .bool p0.Dead]) sz30 rfl rfl rfl rfl rfl) ⟨rfl, rfl, trivial⟩ ⟨rfl, trivial⟩ rfl rfl rfl (fun _ => rfl) fun _ => ?_
  refine HQ.done ?_
  refine HQ.keep [(1, _), (2, _), (3, _)] ⟨rfl, rfl, rfl, trivial⟩ ?_
  refine HQ.seq ?_
  refine HQ.rseq ?_
  refine HQ.pu (Pu.fieldB fo30_0 rfl) ⟨rfl, trivial⟩ rfl rfl rfl ?_
  refine HQ.op [1] [1] (OT.loadB sc27 rfl) ⟨rfl, trivial⟩ ⟨rfl, trivial⟩ rfl rfl rfl rfl (fun _ => rfl) fun _ => ?_
  refine HQ.pu (Pu.len ul27) ⟨rfl, trivial⟩ rfl rfl rfl ?_
  refine HQ.pu Pu.move ⟨rfl, trivial⟩ rfl rfl rfl ?_
  refine HQ.done ?_
  refine HQ.keep [(1, _), (2, _), (3, _), (14, _), (15, _), (16, _)] ⟨rfl, rfl, rfl, rfl, rfl, rfl, trivial⟩ ?_
  refine HQ.block ?_
  refine HQ.nil kTCell 8 rfl ?_
  obtain ⟨o56, h119, H⟩ := bnd H
  refine HQ.loop h119 0 (fun (s : Int × (List TCell)) (g : Option Addr × Nat) => match s, g with | (i20, l21), (a22, c23) => [(1, BP b1 0), (2, BP b2 0), (3, BP b3 0), (14, .slice a_0 (List.length p0.Cells) c_0), (15, .int .i64 ((List.length p0.Cells : Nat) : Int)), (16, .int .i64 i20)]) (fun (s : Int × (List TCell)) (g : Option Addr × Nat) => match s, g with | (i20, l21), (a22, c23) => [(1, Box b1 [.slice a_0 (List.length p0.Cells) c_0, .slice a_1 (List.length p0.Wet) c_1, .int .i64 p0.Fuse, .bool p0.Dead]), (2, Box b2 [.slice none 0 0, .slice none 0 0, .int .i64 0, .bool false]), (3, Box b3 [.slice a22 (List.length l21) c23, .slice none 0 0, .int .i64 p0.Fuse, .bool p0.Dead]), (8, OwnS kTCell a22 c23 l21)]) (fun _ _ _ => False) (none, 0) ⟨rfl, rfl, rfl, rfl, rfl, rfl, trivial⟩ ⟨rfl, rfl, rfl, rfl, trivial⟩ rfl ?_ ?_ ?_
  · clear H h119
    rintro ⟨i20, l21⟩ ⟨a22, c23⟩ o H
    rw [impl_copyDisk_b0] at H
    refine HQ.keep [(1, _), (2, _), (3, _), (14, _), (15, _), (16, _)] ⟨rfl, rfl, rfl, rfl, rfl, rfl, trivial⟩ ?_
    refine HQ.keepR [(1, _), (2, _), (3, _), (8, _)] ⟨rfl, rfl, rfl, rfl, trivial⟩ rfl ?_
    refine HQ.rseq ?_
    refine HQ.pu Pu.lss ⟨rfl, rfl, trivial⟩ rfl rfl rfl ?_
    refine HQ.done ?_
    refine HQ.keep [(1, _), (2, _), (3, _), (14, _), (15, _), (16, _), (17, _)] ⟨rfl, rfl, rfl, rfl, rfl, rfl, rfl, trivial⟩ ?_
    refine HQ.seq ?_
    rcases brk H with ⟨hc, H⟩ | ⟨hc, H⟩
    · refine HQ.condT rfl hc ?_
      clear hc
      refine HQ.skipThen ?_
      refine HQ.seq ?_
      refine HQ.block ?_
      refine HQ.rseq ?_
      obtain ⟨h40, H⟩ := asr H
      refine HQ.op [] [] (OT.indexB ul27 sz79 hb_0 h40) ⟨rfl, rfl, trivial⟩ trivial rfl rfl rfl rfl (fun _ => rfl) fun _ => ?_
      obtain ⟨⟨a41, c42⟩, hb43, hn44⟩ := BorS.nest hb_0 h40
      refine HQ.op [] [] (OT.loadNA (vs := [.bool ((gt p0.Cells i20).Bad), .slice a41 (List.length ((gt p0.Cells i20).B)) c42]) ag79 sz79 hn44 hlTCell rfl rfl) ⟨rfl, trivial⟩ trivial rfl rfl rfl rfl (fun _ => rfl) fun _ => ?_
      refine HQ.op [] [12] (OT.alloc zc79) trivial trivial rfl rfl rfl rfl (fun _ => rfl) fun b45 => ?_
      refine HQ.opN [12] [12] [] (OT.storeC (cs' := [.bool ((gt p0.Cells i20).Bad), .slice a41 (List.length ((gt p0.Cells i20).B)) c42]) sz79 rfl rfl rfl rfl rfl) ⟨rfl, rfl, trivial⟩ ⟨rfl, trivial⟩ rfl rfl rfl (fun _ => rfl) fun _ => ?_
      refine HQ.done ?_
      refine HQ.keep [(1, _), (2, _), (3, _), (14, _), (15, _), (16, _), (5, _)] ⟨rfl, rfl, rfl, rfl, rfl, rfl, rfl, trivial⟩ ?_
      refine HQ.dStart mixd ?_
      obtain ⟨t47, h48, H⟩ := bnd H
      refine HQ.dPart [(1, BP b1 0), (2, BP b2 0), (3, BP b3 0), (14, .slice a_0 (List.length p0.Cells) c_0), (15, .int .i64 ((List.length p0.Cells : Nat) : Int)), (16, .int .i64 i20), (5, BP b45 0)] 9 [⟨[], [], []⟩, ⟨[0], [0], [0]⟩, ⟨[], [], []⟩, ⟨[1], [1], [2]⟩, ⟨[], [], []⟩, ⟨[1], [1], [4]⟩, ⟨[], [2], [5]⟩, ⟨[], [], [3, 6]⟩, ⟨[2], [3], [7]⟩] [⟨none, none⟩, ⟨none, none⟩, ⟨some 6, some 8⟩, ⟨some 8, none⟩] (fun (g46 : (Option Addr × Nat) × (Option Addr × Nat)) => [BP b3 0, .slice a22 (List.length l21) c23, BP b45 0, .bool ((gt p0.Cells i20).Bad), BP b45 1, .slice a41 (List.length ((gt p0.Cells i20).B)) c42, .slice g46.1.1 (List.length t47) g46.1.2, .agg #[.bool ((gt p0.Cells i20).Bad), .slice g46.1.1 (List.length t47) g46.1.2], .slice g46.2.1 (List.length ([(⟨(gt p0.Cells i20).Bad, t47⟩ : TCell)] : (List TCell))) g46.2.2]) (fun (g46 : (Option Addr × Nat) × (Option Addr × Nat)) => [Box b3 [.slice a22 (List.length l21) c23, .slice none 0 0, .int .i64 p0.Fuse, .bool p0.Dead], Box b45 [.bool ((gt p0.Cells i20).Bad), .slice a41 (List.length ((gt p0.Cells i20).B)) c42], OwnS kU8 g46.1.1 g46.1.2 t47, OwnS kTCell g46.2.1 g46.2.2 ([(⟨(gt p0.Cells i20).Bad, t47⟩ : TCell)] : (List TCell))]) ((none, 0), (none, 0)) [3, 12] [3, 12, 14] [] ⟨rfl, rfl, rfl, rfl, rfl, rfl, rfl, trivial⟩ ⟨rfl, rfl, trivial⟩ rfl (by kernel_rfl) (by kernel_rfl) (fun _ => rfl) (by kernel_rfl) (fun _ => rfl) rfl ⟨?_, ?_, ?_, ?_, ?_, ?_, ?_, ?_, ?_, trivial⟩ fun g46 => ?_
      · exact OpOK2.of (fun g46 => [(.tmp 3, BP b3 0)]) _ _ (fun g46 _ => g46) rfl rfl (fun _ => ⟨rfl, trivial⟩) (fun g46 => Pu.toOT (Pu.fieldB fo30_0 rfl)) (fun _ _ => ⟨rfl, rfl, ⟨rfl, rfl, rfl, rfl, trivial⟩⟩)
      · exact OpOK2.of (fun g46 => [(.tmp 20, BP b3 0)]) _ _ (fun g46 _ => g46) rfl rfl (fun _ => ⟨rfl, trivial⟩) (fun g46 => OT.loadB sc27 rfl) (fun _ _ => ⟨rfl, rfl, ⟨rfl, rfl, rfl, rfl, trivial⟩⟩)
      · exact OpOK2.of (fun g46 => [(.tmp 5, BP b45 0)]) _ _ (fun g46 _ => g46) rfl rfl (fun _ => ⟨rfl, trivial⟩) (fun g46 => Pu.toOT (Pu.fieldB fo79_0 rfl)) (fun _ _ => ⟨rfl, rfl, ⟨rfl, rfl, rfl, rfl, trivial⟩⟩)
      · exact OpOK2.of (fun g46 => [(.tmp 22, BP b45 0)]) _ _ (fun g46 _ => g46) rfl rfl (fun _ => ⟨rfl, trivial⟩) (fun g46 => OT.loadB sc4 rfl) (fun _ _ => ⟨rfl, rfl, ⟨rfl, rfl, rfl, rfl, trivial⟩⟩)
      · exact OpOK2.of (fun g46 => [(.tmp 5, BP b45 0)]) _ _ (fun g46 _ => g46) rfl rfl (fun _ => ⟨rfl, trivial⟩) (fun g46 => Pu.toOT (Pu.fieldB fo79_1 rfl)) (fun _ _ => ⟨rfl, rfl, ⟨rfl, rfl, rfl, rfl, trivial⟩⟩)
      · exact OpOK2.of (fun g46 => [(.tmp 24, BP b45 1)]) _ _ (fun g46 _ => g46) rfl rfl (fun _ => ⟨rfl, trivial⟩) (fun g46 => OT.loadB sc63 rfl) (fun _ _ => ⟨rfl, rfl, ⟨rfl, rfl, rfl, rfl, trivial⟩⟩)
      · exact OpOK2.ofD [7] (by kernel_rfl) (fun g46 => [(.func 90, .func (.func 90) #[] #[]), (.tmp 25, .slice a41 (List.length ((gt p0.Cells i20).B)) c42)]) _ _ (fun g46 x => (x, g46.2)) rfl rfl (fun _ => ⟨rfl, rfl, trivial⟩) (fun g46 => OT.call (us := [_]) (Pre := []) [.tmp 25] Try.call90 rfl rfl fun w F hs hF hp => slices_Clone_byte_byte_c (hb43.pass hp) h48) (fun _ _ => ⟨⟨rfl, rfl, rfl, rfl, rfl, rfl, rfl, trivial, rfl, trivial⟩, rfl, ⟨rfl, rfl, rfl, rfl, trivial⟩⟩)
      · exact OpOK2.of (fun g46 => [(.tmp 23, .bool ((gt p0.Cells i20).Bad)), (.tmp 26, .slice g46.1.1 (List.length t47) g46.1.2)]) _ _ (fun g46 _ => g46) rfl rfl (fun _ => ⟨rfl, rfl, trivial⟩) (fun g46 => Pu.toOT (Pu.build (us := [.bool ((gt p0.Cells i20).Bad), .slice g46.1.1 (List.length t47) g46.1.2]) (cs := [.bool ((gt p0.Cells i20).Bad), .slice g46.1.1 (List.length t47) g46.1.2]) [(0, .tmp 23), (1, .tmp 26)] st79 rfl rfl rfl)) (fun _ _ => ⟨rfl, rfl, ⟨rfl, rfl, rfl, rfl, trivial⟩⟩)
      · exact OpOK2.of (fun g46 => [(.tmp 27, .agg #[.bool ((gt p0.Cells i20).Bad), .slice g46.1.1 (List.length t47) g46.1.2])]) _ _ (fun g46 x => (g46.1, x)) rfl rfl (fun _ => ⟨rfl, trivial⟩) (fun g46 => OT.buildO (u := .agg #[.bool ((gt p0.Cells i20).Bad), .slice g46.1.1 (List.length t47) g46.1.2]) (enc := encTCell) (hl := hlTCell) (sub := fun (x : TCell) => x.B) (.tmp 27) (⟨(gt p0.Cells i20).Bad, t47⟩ : TCell) sl27.ul sl27.szE sl27.zc rfl rfl rfl rfl) (fun _ _ => ⟨rfl, rfl, ⟨rfl, rfl, rfl, rfl, trivial⟩⟩)
      refine HQ.keep [(1, _), (2, _), (3, _), (14, _), (15, _), (16, _), (21, _), (28, _)] ⟨rfl, rfl, rfl, rfl, rfl, rfl, rfl, rfl, trivial⟩ ?_
      refine HQ.keepR [(1, _), (2, _), (3, _), (8, _), (12, _), (14, _)] ⟨rfl, rfl, rfl, rfl, rfl, rfl, trivial⟩ rfl ?_
      refine HQ.dRun 3 rfl rfl (by kernel_rfl) (by kernel_rfl) ?_
      obtain ⟨h55, H⟩ := asr H
      refine HQ.opD [8, 14] [8] [14] (OT.appendO (K := kTCell) sl27 ul27 h55) ⟨rfl, rfl, trivial⟩ ⟨rfl, rfl, trivial⟩ rfl rfl rfl rfl (fun _ => rfl) fun ⟨a53, c54⟩ => ?_
      refine HQ.pu (Pu.fieldB fo30_0 rfl) ⟨rfl, trivial⟩ rfl rfl rfl ?_
      refine HQ.opN [3] [3] [] (OT.storeC (cs' := [.slice a53 (List.length (l21 ++ ([(⟨(gt p0.Cells i20).Bad, t47⟩ : TCell)] : (List TCell)))) c54, .slice none 0 0, .int .i64 p0.Fuse, .bool p0.Dead]) sz27 rfl rfl rfl rfl rfl) ⟨rfl, rfl, trivial⟩ ⟨rfl, trivial⟩ rfl rfl rfl (fun _ => rfl) fun _ => ?_
      refine HQ.done ?_
      refine HQ.dEnd rfl ?_
      refine HQ.keep [(1, _), (2, _), (3, _), (14, _), (15, _), (16, _)] ⟨rfl, rfl, rfl, rfl, rfl, rfl, trivial⟩ ?_
      refine HQ.blkN ?_
      refine HQ.thenN ?_
      refine HQ.regionQ ?_
      refine HQ.pu Pu.add ⟨rfl, rfl, trivial⟩ rfl rfl rfl ?_
      refine HQ.pu Pu.move ⟨rfl, trivial⟩ rfl rfl rfl ?_
      refine HQ.done ?_
      refine HQ.keep [(1, _), (2, _), (3, _), (14, _), (15, _), (16, _)] ⟨rfl, rfl, rfl, rfl, rfl, rfl, trivial⟩ ?_
      obtain rfl := Option.some.inj H
      exact HQ.next (a53, c54) ⟨rfl, rfl, rfl, rfl, rfl, rfl, trivial⟩ ⟨rfl, rfl, rfl, rfl, trivial⟩ rfl
    · refine HQ.condF rfl hc ?_
      clear hc
      refine HQ.exit ?_
      refine HQ.thenE ?_
      obtain rfl := Option.some.inj H
      exact HQ.out (a22, c23) ⟨rfl, rfl, rfl, rfl, rfl, rfl, trivial⟩ ⟨rfl, rfl, rfl, rfl, trivial⟩ rfl
  · rintro ⟨i57, l58⟩ rfl ⟨a59, c60⟩
    clear h119
    replace H := H
    refine HQ.keep [(1, _), (2, _), (3, _), (14, _), (15, _), (16, _)] ⟨rfl, rfl, rfl, rfl, rfl, rfl, trivial⟩ ?_
    refine HQ.keepR [(1, _), (2, _), (3, _), (8, _)] ⟨rfl, rfl, rfl, rfl, trivial⟩ rfl ?_
    refine HQ.blkE ?_
    refine HQ.thenN ?_
    refine HQ.seq ?_
    refine HQ.rseq ?_
    refine HQ.pu (Pu.fieldB fo30_1 rfl) ⟨rfl, trivial⟩ rfl rfl rfl ?_
    refine HQ.op [1] [1] (OT.loadB sc28 rfl) ⟨rfl, trivial⟩ ⟨rfl, trivial⟩ rfl rfl rfl rfl (fun _ => rfl) fun _ => ?_
    refine HQ.pu (Pu.len ul28) ⟨rfl, trivial⟩ rfl rfl rfl ?_
    refine HQ.pu Pu.move ⟨rfl, trivial⟩ rfl rfl rfl ?_
    refine HQ.done ?_
    refine HQ.keep [(2, _), (3, _), (33, _), (34, _), (35, _)] ⟨rfl, rfl, rfl, rfl, rfl, trivial⟩ ?_
    refine HQ.block ?_
    refine HQ.nil kTWet 19 rfl ?_
    obtain ⟨o113, h118, H⟩ := bnd H
    refine HQ.loop h118 2 (fun (s : Int × (List TWet)) (g : Option Addr × Nat) => match s, g with | (i77, l78), (a79, c80) => [(2, BP b2 0), (3, BP b3 0), (33, .slice a_1 (List.length p0.Wet) c_1), (34, .int .i64 ((List.length p0.Wet : Nat) : Int)), (35, .int .i64 i77)]) (fun (s : Int × (List TWet)) (g : Option Addr × Nat) => match s, g with | (i77, l78), (a79, c80) => [(2, Box b2 [.slice none 0 0, .slice none 0 0, .int .i64 0, .bool false]), (3, Box b3 [.slice a59 (List.length l58) c60, .slice a79 (List.length l78) c80, .int .i64 p0.Fuse, .bool p0.Dead]), (8, OwnS kTCell a59 c60 l58), (19, OwnS kTWet a79 c80 l78)]) (fun _ _ _ => False) (none, 0) ⟨rfl, rfl, rfl, rfl, rfl, trivial⟩ ⟨rfl, rfl, rfl, rfl, trivial⟩ rfl ?_ ?_ ?_
    · clear H h118
      rintro ⟨i77, l78⟩ ⟨a79, c80⟩ o H
      rw [impl_copyDisk_b1] at H
      refine HQ.keep [(2, _), (3, _), (33, _), (34, _), (35, _)] ⟨rfl, rfl, rfl, rfl, rfl, trivial⟩ ?_
      refine HQ.keepR [(2, _), (3, _), (8, _), (19, _)] ⟨rfl, rfl, rfl, rfl, trivial⟩ rfl ?_
      refine HQ.rseq ?_
      refine HQ.pu Pu.lss ⟨rfl, rfl, trivial⟩ rfl rfl rfl ?_
      refine HQ.done ?_
      refine HQ.keep [(2, _), (3, _), (33, _), (34, _), (35, _), (36, _)] ⟨rfl, rfl, rfl, rfl, rfl, rfl, trivial⟩ ?_
      refine HQ.seq ?_
      rcases brk H with ⟨hc, H⟩ | ⟨hc, H⟩
      · refine HQ.condT rfl hc ?_
        clear hc
        refine HQ.skipThen ?_
        refine HQ.seq ?_
        refine HQ.block ?_
        refine HQ.rseq ?_
        obtain ⟨h97, H⟩ := asr H
        refine HQ.op [] [] (OT.indexB ul28 sz71 hb_1 h97) ⟨rfl, rfl, trivial⟩ trivial rfl rfl rfl rfl (fun _ => rfl) fun _ => ?_
        obtain ⟨⟨a98, c99⟩, hb100, hn101⟩ := BorS.nest hb_1 h97
        refine HQ.op [] [] (OT.loadNA (vs := [.int .i64 ((gt p0.Wet i77).At), .slice a98 (List.length ((gt p0.Wet i77).B)) c99]) ag71 sz71 hn101 hlTWet rfl rfl) ⟨rfl, trivial⟩ trivial rfl rfl rfl rfl (fun _ => rfl) fun _ => ?_
        refine HQ.op [] [23] (OT.alloc zc71) trivial trivial rfl rfl rfl rfl (fun _ => rfl) fun b102 => ?_
        refine HQ.opN [23] [23] [] (OT.storeC (cs' := [.int .i64 ((gt p0.Wet i77).At), .slice a98 (List.length ((gt p0.Wet i77).B)) c99]) sz71 rfl rfl rfl rfl rfl) ⟨rfl, rfl, trivial⟩ ⟨rfl, trivial⟩ rfl rfl rfl (fun _ => rfl) fun _ => ?_
        refine HQ.done ?_
        refine HQ.keep [(2, _), (3, _), (33, _), (34, _), (35, _), (7, _)] ⟨rfl, rfl, rfl, rfl, rfl, rfl, trivial⟩ ?_
        refine HQ.dStart mixd ?_
        obtain ⟨t104, h105, H⟩ := bnd H
        refine HQ.dPart [(2, BP b2 0), (3, BP b3 0), (33, .slice a_1 (List.length p0.Wet) c_1), (34, .int .i64 ((List.length p0.Wet : Nat) : Int)), (35, .int .i64 i77), (7, BP b102 0)] 9 [⟨[], [], []⟩, ⟨[0], [0], [0]⟩, ⟨[], [], []⟩, ⟨[1], [1], [2]⟩, ⟨[], [], []⟩, ⟨[1], [1], [4]⟩, ⟨[], [2], [5]⟩, ⟨[], [], [3, 6]⟩, ⟨[2], [3], [7]⟩] [⟨none, none⟩, ⟨none, none⟩, ⟨some 6, some 8⟩, ⟨some 8, none⟩] (fun (g103 : (Option Addr × Nat) × (Option Addr × Nat)) => [BP b3 1, .slice a79 (List.length l78) c80, BP b102 0, .int .i64 ((gt p0.Wet i77).At), BP b102 1, .slice a98 (List.length ((gt p0.Wet i77).B)) c99, .slice g103.1.1 (List.length t104) g103.1.2, .agg #[.int .i64 ((gt p0.Wet i77).At), .slice g103.1.1 (List.length t104) g103.1.2], .slice g103.2.1 (List.length ([(⟨(gt p0.Wet i77).At, t104⟩ : TWet)] : (List TWet))) g103.2.2]) (fun (g103 : (Option Addr × Nat) × (Option Addr × Nat)) => [Box b3 [.slice a59 (List.length l58) c60, .slice a79 (List.length l78) c80, .int .i64 p0.Fuse, .bool p0.Dead], Box b102 [.int .i64 ((gt p0.Wet i77).At), .slice a98 (List.length ((gt p0.Wet i77).B)) c99], OwnS kU8 g103.1.1 g103.1.2 t104, OwnS kTWet g103.2.1 g103.2.2 ([(⟨(gt p0.Wet i77).At, t104⟩ : TWet)] : (List TWet))]) ((none, 0), (none, 0)) [3, 23] [3, 23, 25] [] ⟨rfl, rfl, rfl, rfl, rfl, rfl, trivial⟩ ⟨rfl, rfl, trivial⟩ rfl (by kernel_rfl) (by kernel_rfl) (fun _ => rfl) (by kernel_rfl) (fun _ => rfl) rfl ⟨?_, ?_, ?_, ?_, ?_, ?_, ?_, ?_, ?_, trivial⟩ fun g103 => ?_
        · exact OpOK2.of (fun g103 => [(.tmp 3, BP b3 0)]) _ _ (fun g103 _ => g103) rfl rfl (fun _ => ⟨rfl, trivial⟩) (fun g103 => Pu.toOT (Pu.fieldB fo30_1 rfl)) (fun _ _ => ⟨rfl, rfl, ⟨rfl, rfl, rfl, rfl, trivial⟩⟩)
        · exact OpOK2.of (fun g103 => [(.tmp 39, BP b3 1)]) _ _ (fun g103 _ => g103) rfl rfl (fun _ => ⟨rfl, trivial⟩) (fun g103 => OT.loadB sc28 rfl) (fun _ _ => ⟨rfl, rfl, ⟨rfl, rfl, rfl, rfl, trivial⟩⟩)
        · exact OpOK2.of (fun g103 => [(.tmp 7, BP b102 0)]) _ _ (fun g103 _ => g103) rfl rfl (fun _ => ⟨rfl, trivial⟩) (fun g103 => Pu.toOT (Pu.fieldB fo71_0 rfl)) (fun _ _ => ⟨rfl, rfl, ⟨rfl, rfl, rfl, rfl, trivial⟩⟩)
        · exact OpOK2.of (fun g103 => [(.tmp 41, BP b102 0)]) _ _ (fun g103 _ => g103) rfl rfl (fun _ => ⟨rfl, trivial⟩) (fun g103 => OT.loadB sc3 rfl) (fun _ _ => ⟨rfl, rfl, ⟨rfl, rfl, rfl, rfl, trivial⟩⟩)
        · exact OpOK2.of (fun g103 => [(.tmp 7, BP b102 0)]) _ _ (fun g103 _ => g103) rfl rfl (fun _ => ⟨rfl, trivial⟩) (fun g103 => Pu.toOT (Pu.fieldB fo71_1 rfl)) (fun _ _ => ⟨rfl, rfl, ⟨rfl, rfl, rfl, rfl, trivial⟩⟩)
        · exact OpOK2.of (fun g103 => [(.tmp 43, BP b102 1)]) _ _ (fun g103 _ => g103) rfl rfl (fun _ => ⟨rfl, trivial⟩) (fun g103 => OT.loadB sc63 rfl) (fun _ _ => ⟨rfl, rfl, ⟨rfl, rfl, rfl, rfl, trivial⟩⟩)
        · exact OpOK2.ofD [7] (by kernel_rfl) (fun g103 => [(.func 90, .func (.func 90) #[] #[]), (.tmp 44, .slice a98 (List.length ((gt p0.Wet i77).B)) c99)]) _ _ (fun g103 x => (x, g103.2)) rfl rfl (fun _ => ⟨rfl, rfl, trivial⟩) (fun g103 => OT.call (us := [_]) (Pre := []) [.tmp 44] Try.call90 rfl rfl fun w F hs hF hp => slices_Clone_byte_byte_c (hb100.pass hp) h105) (fun _ _ => ⟨⟨rfl, rfl, rfl, rfl, rfl, rfl, rfl, trivial, rfl, trivial⟩, rfl, ⟨rfl, rfl, rfl, rfl, trivial⟩⟩)
        · exact OpOK2.of (fun g103 => [(.tmp 42, .int .i64 ((gt p0.Wet i77).At)), (.tmp 45, .slice g103.1.1 (List.length t104) g103.1.2)]) _ _ (fun g103 _ => g103) rfl rfl (fun _ => ⟨rfl, rfl, trivial⟩) (fun g103 => Pu.toOT (Pu.build (us := [.int .i64 ((gt p0.Wet i77).At), .slice g103.1.1 (List.length t104) g103.1.2]) (cs := [.int .i64 ((gt p0.Wet i77).At), .slice g103.1.1 (List.length t104) g103.1.2]) [(0, .tmp 42), (1, .tmp 45)] st71 rfl rfl rfl)) (fun _ _ => ⟨rfl, rfl, ⟨rfl, rfl, rfl, rfl, trivial⟩⟩)
        · exact OpOK2.of (fun g103 => [(.tmp 46, .agg #[.int .i64 ((gt p0.Wet i77).At), .slice g103.1.1 (List.length t104) g103.1.2])]) _ _ (fun g103 x => (g103.1, x)) rfl rfl (fun _ => ⟨rfl, trivial⟩) (fun g103 => OT.buildO (u := .agg #[.int .i64 ((gt p0.Wet i77).At), .slice g103.1.1 (List.length t104) g103.1.2]) (enc := encTWet) (hl := hlTWet) (sub := fun (x : TWet) => x.B) (.tmp 46) (⟨(gt p0.Wet i77).At, t104⟩ : TWet) sl28.ul sl28.szE sl28.zc rfl rfl rfl rfl) (fun _ _ => ⟨rfl, rfl, ⟨rfl, rfl, rfl, rfl, trivial⟩⟩)
        refine HQ.keep [(2, _), (3, _), (33, _), (34, _), (35, _), (40, _), (47, _)] ⟨rfl, rfl, rfl, rfl, rfl, rfl, rfl, trivial⟩ ?_
        refine HQ.keepR [(2, _), (3, _), (8, _), (19, _), (23, _), (25, _)] ⟨rfl, rfl, rfl, rfl, rfl, rfl, trivial⟩ rfl ?_
        refine HQ.dRun 3 rfl rfl (by kernel_rfl) (by kernel_rfl) ?_
        obtain ⟨h112, H⟩ := asr H
        refine HQ.opD [19, 25] [19] [25] (OT.appendO (K := kTWet) sl28 ul28 h112) ⟨rfl, rfl, trivial⟩ ⟨rfl, rfl, trivial⟩ rfl rfl rfl rfl (fun _ => rfl) fun ⟨a110, c111⟩ => ?_
        refine HQ.pu (Pu.fieldB fo30_1 rfl) ⟨rfl, trivial⟩ rfl rfl rfl ?_
        refine HQ.opN [3] [3] [] (OT.storeC (cs' := [.slice a59 (List.length l58) c60, .slice a110 (List.length (l78 ++ ([(⟨(gt p0.Wet i77).At, t104⟩ : TWet)] : (List TWet)))) c111, .int .i64 p0.Fuse, .bool p0.Dead]) sz28 rfl rfl rfl rfl rfl) ⟨rfl, rfl, trivial⟩ ⟨rfl, trivial⟩ rfl rfl rfl (fun _ => rfl) fun _ => ?_
        refine HQ.done ?_
        refine HQ.dEnd rfl ?_
        refine HQ.keep [(2, _), (3, _), (33, _), (34, _), (35, _)] ⟨rfl, rfl, rfl, rfl, rfl, trivial⟩ ?_
        refine HQ.blkN ?_
        refine HQ.thenN ?_
        refine HQ.regionQ ?_
        refine HQ.pu Pu.add ⟨rfl, rfl, trivial⟩ rfl rfl rfl ?_
        refine HQ.pu Pu.move ⟨rfl, trivial⟩ rfl rfl rfl ?_
        refine HQ.done ?_
        refine HQ.keep [(2, _), (3, _), (33, _), (34, _), (35, _)] ⟨rfl, rfl, rfl, rfl, rfl, trivial⟩ ?_
        obtain rfl := Option.some.inj H
        exact HQ.next (a110, c111) ⟨rfl, rfl, rfl, rfl, rfl, trivial⟩ ⟨rfl, rfl, rfl, rfl, trivial⟩ rfl
      · refine HQ.condF rfl hc ?_
        clear hc
        refine HQ.exit ?_
        refine HQ.thenE ?_
        obtain rfl := Option.some.inj H
        exact HQ.out (a79, c80) ⟨rfl, rfl, rfl, rfl, rfl, trivial⟩ ⟨rfl, rfl, rfl, rfl, trivial⟩ rfl
    · rintro ⟨i114, l115⟩ rfl ⟨a116, c117⟩
      clear h118
      replace H := H
      refine HQ.keep [(2, _), (3, _), (33, _), (34, _), (35, _)] ⟨rfl, rfl, rfl, rfl, rfl, trivial⟩ ?_
      refine HQ.keepR [(2, _), (3, _), (8, _), (19, _)] ⟨rfl, rfl, rfl, rfl, trivial⟩ rfl ?_
      refine HQ.blkE ?_
      refine HQ.thenN ?_
      refine HQ.rseq ?_
      refine HQ.op [3] [3] (OT.loadBA (vs := [.slice a59 (List.length l58) c60, .slice a116 (List.length l115) c117, .int .i64 p0.Fuse, .bool p0.Dead]) ag30 sz30 rfl rfl) ⟨rfl, trivial⟩ ⟨rfl, trivial⟩ rfl rfl rfl rfl (fun _ => rfl) fun _ => ?_
      refine HQ.opN [2] [2] [] (OT.storeC (cs' := [.slice a59 (List.length l58) c60, .slice a116 (List.length l115) c117, .int .i64 p0.Fuse, .bool p0.Dead]) sz30 rfl rfl rfl rfl rfl) ⟨rfl, rfl, trivial⟩ ⟨rfl, trivial⟩ rfl rfl rfl (fun _ => rfl) fun _ => ?_
      refine HQ.done ?_
      refine HQ.keep [(2, _)] ⟨rfl, trivial⟩ ?_
      refine HQ.ret ?_
      obtain rfl := Option.some.inj H
      exact HQ.fin (vs := [_]) Try.results48 ((a59, c60), (a116, c117)) ⟨⟨_, _, 2, rfl, rfl, ag30, sz30, rfl⟩, trivial⟩ rfl [8, 19] ⟨rfl, rfl, trivial⟩ rfl
    · exact fun r h a w hf => hf.elim
  · exact fun r h a w hf => hf.elim

/-! impl.in -/
theorem impl_in_c {w : World} {p0 : Int} {p1 : Int} {p2 : Int}   {r : Bool} (H : impl_in p0 p1 p2 = some r) :
    Calls Try.prog 95 #[.int .i64 p0, .int .i64 p1, .int .i64 p2] w (Rt w Nil (fun _ : Unit => .bool r) (fun _ => [])) := by
  rw [impl_in] at H
  refine Calls.enter0 (N := 15) (us := [_, _, _]) Try.func95 rfl rfl rfl ?_
  refine HQ.rseq ?_
  refine HQ.pu Pu.assign ⟨rfl, trivial⟩ rfl rfl rfl ?_
  refine HQ.done ?_
  refine HQ.keep [(0, _), (1, _), (2, _), (6, _)] ⟨rfl, rfl, rfl, rfl, trivial⟩ ?_
  refine HQ.rseq ?_
  refine HQ.pu Pu.move ⟨rfl, trivial⟩ rfl rfl rfl ?_
  refine HQ.pu Pu.move ⟨rfl, trivial⟩ rfl rfl rfl ?_
  refine HQ.pu Pu.leq ⟨rfl, rfl, trivial⟩ rfl rfl rfl ?_
  refine HQ.pu Pu.move ⟨rfl, trivial⟩ rfl rfl rfl ?_
  refine HQ.cutAt 4 [(14, .bool ((decide (p1 ≤ p0)) && (decide (p0 ≤ p2)))), (6, .bool false)] [] ?_ ?_
  · rcases Bool.eq_false_or_eq_true (decide (p1 ≤ p0)) with hg1 | hg1
    · refine HQ.on rfl rfl hg1 ?_
      refine HQ.pu Pu.move ⟨rfl, trivial⟩ rfl rfl rfl ?_
      refine HQ.on rfl rfl hg1 ?_
      refine HQ.pu Pu.move ⟨rfl, trivial⟩ rfl rfl rfl ?_
      refine HQ.on rfl rfl hg1 ?_
      refine HQ.pu Pu.leq ⟨rfl, rfl, trivial⟩ rfl rfl rfl ?_
      refine HQ.pu (Pu.pickAT hg1) ⟨rfl, rfl, trivial⟩ rfl rfl rfl ?_
      exact HQ.mid ⟨rfl, rfl, trivial⟩ trivial rfl
    · refine HQ.off rfl rfl hg1 rfl ?_
      refine HQ.off rfl rfl hg1 rfl ?_
      refine HQ.off rfl rfl hg1 rfl ?_
      refine HQ.pu (Pu.pickAF (u := (decide (p0 ≤ p2))) hg1) ⟨rfl, rfl, trivial⟩ rfl rfl rfl ?_
      exact HQ.mid ⟨rfl, rfl, trivial⟩ trivial rfl
  refine HQ.pu Pu.assign ⟨rfl, trivial⟩ rfl rfl rfl ?_
  refine HQ.done ?_
  refine HQ.keep [(6, _)] ⟨rfl, trivial⟩ ?_
  refine HQ.ret ?_
  obtain rfl := Option.some.inj H
  exact HQ.fin (vs := [_]) Try.results95 () ⟨rfl, trivial⟩ rfl [] trivial rfl

/-! (*impl.Disk).store -/
theorem impl_Disk_store_c {w : World} {k : Nat} {p0 : TDisk} {p1 : Int} {p2 : TCell} {β_0 : Nat} {a_0 : Option Addr} {c_0 : Nat} {a_1 : Option Addr} {c_1 : Nat} {a_2 : Option Addr} {c_2 : Nat} {F0 : Fp} (hs0 : Sat [Box β_0 [.slice a_0 (List.length p0.Cells) c_0, .slice a_1 (List.length p0.Wet) c_1, .int .i64 p0.Fuse, .bool p0.Dead], OwnS kTCell a_0 c_0 p0.Cells, OwnS kU8 a_2 c_2 p2.B] w.heap F0) (hF0 : ∀ b, F0 b → b < w.heap.size)  {r : TDisk} (H : impl_Disk_store k p0 p1 p2 = some r) :
    Calls Try.prog 50 #[BP β_0 0, .int .i64 p1, .agg #[.bool p2.Bad, .slice a_2 (List.length p2.B) c_2]] w (Rt w F0 (fun g : Option Addr × Nat => .tuple #[]) (fun g => [Box β_0 [.slice g.1 (List.length r.Cells) g.2, .slice a_1 (List.length p0.Wet) c_1, .int .i64 r.Fuse, .bool r.Dead], OwnS kTCell g.1 g.2 r.Cells])) := by
  rw [impl_Disk_store] at H
  refine Calls.enter (N := 33) (us := [_, _, _]) (F0 := F0) (Γ0 := [(2, Box β_0 [.slice a_0 (List.length p0.Cells) c_0, .slice a_1 (List.length p0.Wet) c_1, .int .i64 p0.Fuse, .bool p0.Dead]), (1, OwnS kTCell a_0 c_0 p0.Cells), (3, OwnS kU8 a_2 c_2 p2.B)]) Try.func50 rfl rfl rfl hs0 hF0 ?_
  refine HQ.rseq ?_
  refine HQ.op [] [4] (OT.box (cs := [.bool p2.Bad, .slice a_2 (List.length p2.B) c_2]) rfl) ⟨rfl, trivial⟩ trivial rfl rfl rfl rfl (fun _ => rfl) fun b1 => ?_
  refine HQ.done ?_
  refine HQ.keep [(0, _), (1, _), (5, _)] ⟨rfl, rfl, rfl, trivial⟩ ?_
  refine HQ.seq ?_
  refine HQ.rseq ?_
  refine HQ.pu Pu.move ⟨rfl, trivial⟩ rfl rfl rfl ?_
  obtain ⟨t2, h3, H⟩ := bnd H
  refine HQ.op [] [] (OT.call (us := [_, _, _]) (Pre := []) [.tmp 6, .const (.int .i64 0), .const (.int .i64 113)] Try.call95 rfl rfl fun w F hs hF hp => impl_in_c h3) ⟨rfl, rfl, rfl, rfl, trivial⟩ trivial rfl rfl rfl rfl (fun _ => rfl) fun _ => ?_
  refine HQ.pu Pu.not ⟨rfl, trivial⟩ rfl rfl rfl ?_
  refine HQ.done ?_
  refine HQ.keep [(0, _), (1, _), (5, _), (8, _)] ⟨rfl, rfl, rfl, rfl, trivial⟩ ?_
  rcases brk H with ⟨hc, H⟩ | ⟨hc, H⟩
  · refine HQ.condT rfl hc ?_
    clear hc
    refine HQ.ret ?_
    refine HQ.thenR ?_
    obtain rfl := Option.some.inj H
    exact HQ.fin (vs := []) Try.results50 (a_0, c_0) trivial rfl [2, 1] ⟨rfl, rfl, trivial⟩ rfl
  · refine HQ.condF rfl hc ?_
    clear hc
    refine HQ.skipThen ?_
    refine HQ.seq ?_
    refine HQ.block ?_
    obtain ⟨o22, h31, H⟩ := bnd H
    refine HQ.loop h31 0 (fun (s : (List TCell)) (g : Option Addr × Nat) => match s, g with | l9, (a10, c11) => [(0, BP β_0 0), (1, .int .i64 p1), (5, BP b1 0)]) (fun (s : (List TCell)) (g : Option Addr × Nat) => match s, g with | l9, (a10, c11) => [(2, Box β_0 [.slice a10 (List.length l9) c11, .slice a_1 (List.length p0.Wet) c_1, .int .i64 p0.Fuse, .bool p0.Dead]), (4, Box b1 [.bool p2.Bad, .slice a_2 (List.length p2.B) c_2]), (1, OwnS kTCell a10 c11 l9), (3, OwnS kU8 a_2 c_2 p2.B)]) (fun _ _ _ => False) (a_0, c_0) ⟨rfl, rfl, rfl, trivial⟩ ⟨rfl, rfl, rfl, rfl, trivial⟩ rfl ?_ ?_ ?_
    · clear H h31
      rintro l9 ⟨a10, c11⟩ o H
      rw [impl_Disk_store_b0] at H
      refine HQ.keep [(0, _), (1, _), (5, _)] ⟨rfl, rfl, rfl, trivial⟩ ?_
      refine HQ.keepR [(2, _), (4, _), (1, _), (3, _)] ⟨rfl, rfl, rfl, rfl, trivial⟩ rfl ?_
      refine HQ.seq ?_
      refine HQ.rseq ?_
      refine HQ.pu Pu.move ⟨rfl, trivial⟩ rfl rfl rfl ?_
      refine HQ.pu Pu.nilCheck ⟨rfl, trivial⟩ rfl rfl rfl ?_
      refine HQ.pu (Pu.fieldB fo30_0 rfl) ⟨rfl, trivial⟩ rfl rfl rfl ?_
      refine HQ.op [2] [2] (OT.loadB sc27 rfl) ⟨rfl, trivial⟩ ⟨rfl, trivial⟩ rfl rfl rfl rfl (fun _ => rfl) fun _ => ?_
      refine HQ.pu (Pu.len ul27) ⟨rfl, trivial⟩ rfl rfl rfl ?_
      refine HQ.pu Pu.move ⟨rfl, trivial⟩ rfl rfl rfl ?_
      refine HQ.pu Pu.leq ⟨rfl, rfl, trivial⟩ rfl rfl rfl ?_
      refine HQ.done ?_
      refine HQ.keep [(0, _), (1, _), (5, _), (15, _)] ⟨rfl, rfl, rfl, rfl, trivial⟩ ?_
      rcases brk H with ⟨hc, H⟩ | ⟨hc, H⟩
      · refine HQ.condT rfl hc ?_
        clear hc
        refine HQ.skipThen ?_
        refine HQ.block ?_
        refine HQ.regionQ ?_
        refine HQ.pu Pu.move ⟨rfl, trivial⟩ rfl rfl rfl ?_
        refine HQ.pu Pu.move ⟨rfl, trivial⟩ rfl rfl rfl ?_
        refine HQ.pu Pu.nilCheck ⟨rfl, trivial⟩ rfl rfl rfl ?_
        refine HQ.pu (Pu.fieldB fo30_0 rfl) ⟨rfl, trivial⟩ rfl rfl rfl ?_
        refine HQ.op [2] [2] (OT.loadB sc27 rfl) ⟨rfl, trivial⟩ ⟨rfl, trivial⟩ rfl rfl rfl rfl (fun _ => rfl) fun _ => ?_
        refine HQ.pu (Pu.build (us := []) (cs := [.bool false, .slice none 0 0]) [] st79 rfl rfl rfl) trivial rfl rfl rfl ?_
        refine HQ.nil kU8 9 rfl ?_
        refine HQ.opD [9] [10] [9] (OT.buildO (u := .agg #[.bool false, .slice none 0 0]) (enc := encTCell) (hl := hlTCell) (sub := fun (x : TCell) => x.B) (.tmp 21) (⟨false, ([] : (List Int))⟩ : TCell) sl27.ul sl27.szE sl27.zc rfl rfl rfl rfl) ⟨rfl, trivial⟩ ⟨rfl, trivial⟩ rfl rfl rfl rfl (fun _ => rfl) fun ⟨a17, c18⟩ => ?_
        obtain ⟨h21, H⟩ := asr H
        refine HQ.opD [1, 10] [1] [10] (OT.appendO (K := kTCell) sl27 ul27 h21) ⟨rfl, rfl, trivial⟩ ⟨rfl, rfl, trivial⟩ rfl rfl rfl rfl (fun _ => rfl) fun ⟨a19, c20⟩ => ?_
        refine HQ.pu Pu.nilCheck ⟨rfl, trivial⟩ rfl rfl rfl ?_
        refine HQ.pu (Pu.fieldB fo30_0 rfl) ⟨rfl, trivial⟩ rfl rfl rfl ?_
        refine HQ.opN [2] [2] [] (OT.storeC (cs' := [.slice a19 (List.length (l9 ++ ([(⟨false, ([] : (List Int))⟩ : TCell)] : (List TCell)))) c20, .slice a_1 (List.length p0.Wet) c_1, .int .i64 p0.Fuse, .bool p0.Dead]) sz27 rfl rfl rfl rfl rfl) ⟨rfl, rfl, trivial⟩ ⟨rfl, trivial⟩ rfl rfl rfl (fun _ => rfl) fun _ => ?_
        refine HQ.done ?_
        refine HQ.keep [(0, _), (1, _), (5, _)] ⟨rfl, rfl, rfl, trivial⟩ ?_
        refine HQ.blkN ?_
        obtain rfl := Option.some.inj H
        exact HQ.next (a19, c20) ⟨rfl, rfl, rfl, trivial⟩ ⟨rfl, rfl, rfl, rfl, trivial⟩ rfl
      · refine HQ.condF rfl hc ?_
        clear hc
        refine HQ.exit ?_
        refine HQ.thenE ?_
        obtain rfl := Option.some.inj H
        exact HQ.out (a10, c11) ⟨rfl, rfl, rfl, trivial⟩ ⟨rfl, rfl, rfl, rfl, trivial⟩ rfl
    · rintro l23 rfl ⟨a24, c25⟩
      clear h31
      replace H := H
      refine HQ.keep [(0, _), (1, _), (5, _)] ⟨rfl, rfl, rfl, trivial⟩ ?_
      refine HQ.keepR [(2, _), (4, _), (1, _), (3, _)] ⟨rfl, rfl, rfl, rfl, trivial⟩ rfl ?_
      refine HQ.blkE ?_
      refine HQ.thenN ?_
      refine HQ.draw mixd [(0, BP β_0 0), (1, .int .i64 p1), (5, BP b1 0)] 6 [⟨[], [], []⟩, ⟨[], [], [0]⟩, ⟨[], [], [1]⟩, ⟨[0], [0], [2]⟩, ⟨[], [], []⟩, ⟨[1], [1], []⟩] [⟨none, none⟩, ⟨none, none⟩] (fun (g26 : Unit) => [BP β_0 0, BP β_0 0, BP β_0 0, .slice a24 (List.length l23) c25, .int .i64 p1, .agg #[.bool p2.Bad, .slice a_2 (List.length p2.B) c_2]]) (fun (g26 : Unit) => [Box β_0 [.slice a24 (List.length l23) c25, .slice a_1 (List.length p0.Wet) c_1, .int .i64 p0.Fuse, .bool p0.Dead], Box b1 [.bool p2.Bad, .slice a_2 (List.length p2.B) c_2]]) () [2, 4] [2, 4] [] ⟨rfl, rfl, rfl, trivial⟩ ⟨rfl, rfl, trivial⟩ rfl (by kernel_rfl) (fun _ => rfl) (by kernel_rfl) (fun _ => rfl) ⟨?_, ?_, ?_, ?_, ?_, ?_, trivial⟩ fun g26 => ?_
      · exact OpOK.of (fun g26 => [(.tmp 0, BP β_0 0)]) _ _ (fun g26 _ => g26) rfl rfl (fun _ => ⟨rfl, trivial⟩) (fun g26 => Pu.toOT Pu.move) (fun _ _ => ⟨rfl, rfl, ⟨rfl, rfl, trivial⟩⟩)
      · exact OpOK.of (fun g26 => [(.tmp 26, BP β_0 0)]) _ _ (fun g26 _ => g26) rfl rfl (fun _ => ⟨rfl, trivial⟩) (fun g26 => Pu.toOT Pu.nilCheck) (fun _ _ => ⟨rfl, rfl, ⟨rfl, rfl, trivial⟩⟩)
      · exact OpOK.of (fun g26 => [(.tmp 27, BP β_0 0)]) _ _ (fun g26 _ => g26) rfl rfl (fun _ => ⟨rfl, trivial⟩) (fun g26 => Pu.toOT (Pu.fieldB fo30_0 rfl)) (fun _ _ => ⟨rfl, rfl, ⟨rfl, rfl, trivial⟩⟩)
      · exact OpOK.of (fun g26 => [(.tmp 28, BP β_0 0)]) _ _ (fun g26 _ => g26) rfl rfl (fun _ => ⟨rfl, trivial⟩) (fun g26 => OT.loadB sc27 rfl) (fun _ _ => ⟨rfl, rfl, ⟨rfl, rfl, trivial⟩⟩)
      · exact OpOK.of (fun g26 => [(.tmp 1, .int .i64 p1)]) _ _ (fun g26 _ => g26) rfl rfl (fun _ => ⟨rfl, trivial⟩) (fun g26 => Pu.toOT Pu.move) (fun _ _ => ⟨rfl, rfl, ⟨rfl, rfl, trivial⟩⟩)
      · exact OpOK.of (fun g26 => [(.tmp 5, BP b1 0)]) _ _ (fun g26 _ => g26) rfl rfl (fun _ => ⟨rfl, trivial⟩) (fun g26 => OT.loadBA (vs := [.bool p2.Bad, .slice a_2 (List.length p2.B) c_2]) ag79 sz79 rfl rfl) (fun _ _ => ⟨rfl, rfl, ⟨rfl, rfl, trivial⟩⟩)
      refine HQ.keep [(29, _), (30, _), (31, _)] ⟨rfl, rfl, rfl, trivial⟩ ?_
      refine HQ.keepR [(2, _), (4, _), (1, _), (3, _)] ⟨rfl, rfl, rfl, rfl, trivial⟩ rfl ?_
      obtain ⟨h27, H⟩ := asr H
      refine HQ.op [1] [1] (OT.indexO ul27 sz79 h27) ⟨rfl, rfl, trivial⟩ ⟨rfl, trivial⟩ rfl rfl rfl rfl (fun _ => rfl) fun _ => ?_
      refine HQ.opN [1, 3] [1] [3] (OT.storeW p2 sz79 rfl rfl rfl h27 rfl (fun _ => rfl) rfl) ⟨rfl, rfl, trivial⟩ ⟨rfl, rfl, trivial⟩ rfl rfl rfl (fun _ => rfl) fun _ => ?_
      obtain ⟨l28, h29, H⟩ := bnd H
      replace h29 := Option.some.inj h29
      refine HQ.reR (B := OwnS kTCell a24 c25 l28) 1 rfl (by intro _ _ hb; rw [← h29]; exact hb) ?_
      have h30 : List.length l28 = List.length l23 := by rw [← h29, List.length_set]
      refine HQ.re (v' := .slice a24 (List.length l28) c25) 29 rfl (by simp [h30]) ?_
      refine HQ.reR (B := Box β_0 [.slice a24 (List.length l28) c25, .slice a_1 (List.length p0.Wet) c_1, .int .i64 p0.Fuse, .bool p0.Dead]) 2 rfl (fun _ _ hb => by rw [show List.length l28 = List.length l23 from (by simp [h30])]; exact hb) ?_
      refine HQ.done ?_
      refine HQ.keep [] trivial ?_
      obtain rfl := Option.some.inj H
      exact HQ.fin (vs := []) Try.results50 (a24, c25) trivial rfl [2, 1] ⟨rfl, rfl, trivial⟩ rfl
    · exact fun r h a w hf => hf.elim

/-! impl.Crash -/
theorem impl_Crash_c {w : World} {k : Nat} {p0 : TDisk} {p1 : (List Int)} {p2 : Int} {a_0 : Option Addr} {c_0 : Nat} {a_1 : Option Addr} {c_1 : Nat} {a_2 : Option Addr} {c_2 : Nat} (hb_0 : BorS kTCell a_0 c_0 p0.Cells w.heap (Lt w Nil)) (hb_1 : BorS kTWet a_1 c_1 p0.Wet w.heap (Lt w Nil)) (hb_2 : BorS kI a_2 c_2 p1 w.heap (Lt w Nil)) {r : TDisk} (H : impl_Crash k p0 p1 p2 = some r) :
    Calls Try.prog 18 #[.agg #[.slice a_0 (List.length p0.Cells) c_0, .slice a_1 (List.length p0.Wet) c_1, .int .i64 p0.Fuse, .bool p0.Dead], .slice a_2 (List.length p1) c_2, .int .i64 p2] w (Rt w Nil (fun g : (Option Addr × Nat) × (Option Addr × Nat) => .agg #[.slice g.1.1 (List.length r.Cells) g.1.2, .slice g.2.1 (List.length r.Wet) g.2.2, .int .i64 r.Fuse, .bool r.Dead]) (fun g => [OwnS kTCell g.1.1 g.1.2 r.Cells, OwnS kTWet g.2.1 g.2.2 r.Wet])) := by
  rw [impl_Crash] at H
  refine Calls.enter0 (N := 49) (us := [_, _, _]) Try.func18 rfl rfl rfl ?_
  refine HQ.rseq ?_
  refine HQ.op [] [1] (OT.box (cs := [.slice a_0 (List.length p0.Cells) c_0, .slice a_1 (List.length p0.Wet) c_1, .int .i64 p0.Fuse, .bool p0.Dead]) rfl) ⟨rfl, trivial⟩ trivial rfl rfl rfl rfl (fun _ => rfl) fun b1 => ?_
  refine HQ.op [] [2] (OT.alloc zc30) trivial trivial rfl rfl rfl rfl (fun _ => rfl) fun b2 => ?_
  refine HQ.done ?_
  refine HQ.keep [(1, _), (2, _), (3, _), (6, _)] ⟨rfl, rfl, rfl, rfl, trivial⟩ ?_
  refine HQ.rseq ?_
  refine HQ.op [1] [1] (OT.loadBA (vs := [.slice a_0 (List.length p0.Cells) c_0, .slice a_1 (List.length p0.Wet) c_1, .int .i64 p0.Fuse, .bool p0.Dead]) ag30 sz30 rfl rfl) ⟨rfl, trivial⟩ ⟨rfl, trivial⟩ rfl rfl rfl rfl (fun _ => rfl) fun _ => ?_
  obtain ⟨t3, h4, H⟩ := bnd H
  refine HQ.op [] [3, 4] (OT.call (us := [_]) (Pre := []) [.tmp 10] Try.call48 rfl rfl fun w F hs hF hp => impl_copyDisk_c (hb_0.pass hp) (hb_1.pass hp) h4) ⟨rfl, rfl, trivial⟩ trivial rfl rfl rfl rfl (fun _ => rfl) fun ⟨⟨a5, c6⟩, ⟨a7, c8⟩⟩ => ?_
  refine HQ.op [] [5] (OT.alloc zc30) trivial trivial rfl rfl rfl rfl (fun _ => rfl) fun b9 => ?_
  refine HQ.opN [5] [5] [] (OT.storeC (cs' := [.slice a5 (List.length t3.Cells) c6, .slice a7 (List.length t3.Wet) c8, .int .i64 t3.Fuse, .bool t3.Dead]) sz30 rfl rfl rfl rfl rfl) ⟨rfl, rfl, trivial⟩ ⟨rfl, trivial⟩ rfl rfl rfl (fun _ => rfl) fun _ => ?_
  refine HQ.done ?_
  refine HQ.keep [(1, _), (2, _), (6, _), (7, _)] ⟨rfl, rfl, rfl, rfl, trivial⟩ ?_
  refine HQ.seq ?_
  refine HQ.rseq ?_
  refine HQ.pu (Pu.fieldB fo30_1 rfl) ⟨rfl, trivial⟩ rfl rfl rfl ?_
  refine HQ.op [5] [5] (OT.loadB sc28 rfl) ⟨rfl, trivial⟩ ⟨rfl, trivial⟩ rfl rfl rfl rfl (fun _ => rfl) fun _ => ?_
  refine HQ.pu (Pu.len ul28) ⟨rfl, trivial⟩ rfl rfl rfl ?_
  refine HQ.pu Pu.move ⟨rfl, trivial⟩ rfl rfl rfl ?_
  refine HQ.done ?_
  refine HQ.keep [(1, _), (2, _), (6, _), (7, _), (13, _), (14, _), (15, _)] ⟨rfl, rfl, rfl, rfl, rfl, rfl, rfl, trivial⟩ ?_
  refine HQ.block ?_
  refine HQ.toRob 4 rfl ?_
  obtain ⟨o59, h67, H⟩ := bnd H
  refine HQ.loop h67 0 (fun (s : Int × Int × (List TCell) × Int × Bool) (g : Option Addr × Nat) => match s, g with | (i24, i25, l26, i29, q30), (a27, c28) => [(1, .slice a_2 (List.length p1) c_2), (2, .int .i64 p2), (6, BP b2 0), (7, BP b9 0), (13, .slice a7 (List.length t3.Wet) c8), (14, .int .i64 ((List.length t3.Wet : Nat) : Int)), (15, .int .i64 i25)]) (fun (s : Int × Int × (List TCell) × Int × Bool) (g : Option Addr × Nat) => match s, g with | (i24, i25, l26, i29, q30), (a27, c28) => [(2, Box b2 [.slice none 0 0, .slice none 0 0, .int .i64 0, .bool false]), (5, Box b9 [.slice a27 (List.length l26) c28, .slice a7 (List.length t3.Wet) c8, .int .i64 i29, .bool q30]), (3, OwnS kTCell a27 c28 l26), (4, RobS 2 encTWet hlTWet kU8 (fun x => x.B) a7 c8 t3.Wet i24)]) (fun _ _ _ => False) (a5, c6) ⟨rfl, rfl, rfl, rfl, rfl, rfl, rfl, trivial⟩ ⟨rfl, rfl, rfl, rfl, trivial⟩ rfl ?_ ?_ ?_
  · clear H h67
    rintro ⟨i24, i25, l26, i29, q30⟩ ⟨a27, c28⟩ o H
    rw [impl_Crash_b0] at H
    refine HQ.keep [(1, _), (2, _), (6, _), (7, _), (13, _), (14, _), (15, _)] ⟨rfl, rfl, rfl, rfl, rfl, rfl, rfl, trivial⟩ ?_
    refine HQ.keepR [(2, _), (5, _), (3, _), (4, _)] ⟨rfl, rfl, rfl, rfl, trivial⟩ rfl ?_
    refine HQ.rseq ?_
    refine HQ.pu Pu.lss ⟨rfl, rfl, trivial⟩ rfl rfl rfl ?_
    refine HQ.done ?_
    refine HQ.keep [(1, _), (2, _), (6, _), (7, _), (13, _), (14, _), (15, _), (16, _)] ⟨rfl, rfl, rfl, rfl, rfl, rfl, rfl, rfl, trivial⟩ ?_
    refine HQ.seq ?_
    rcases brk H with ⟨hc, H⟩ | ⟨hc, H⟩
    · refine HQ.condT rfl hc ?_
      clear hc
      refine HQ.skipThen ?_
      refine HQ.seq ?_
      refine HQ.block ?_
      refine HQ.rseq ?_
      refine HQ.pu Pu.move ⟨rfl, trivial⟩ rfl rfl rfl ?_
      obtain ⟨h45, H⟩ := asr H
      refine HQ.op [4] [4] (OT.indexR ul28 sz71 h45) ⟨rfl, rfl, trivial⟩ ⟨rfl, trivial⟩ rfl rfl rfl rfl (fun _ => rfl) fun _ => ?_
      obtain ⟨h46, H⟩ := asr H
      refine HQ.op [4] [4, 16] (OT.robA (vs := fun pa pc => [.int .i64 ((gt t3.Wet i25).At), .slice pa (List.length ((gt t3.Wet i25).B)) pc]) ag71 sz71 h45 h46 (fun _ _ => rfl) rfl) ⟨rfl, trivial⟩ ⟨rfl, trivial⟩ rfl rfl rfl rfl (fun _ => rfl) fun ⟨a47, c48⟩ => ?_
      refine HQ.op [] [17] (OT.alloc zc71) trivial trivial rfl rfl rfl rfl (fun _ => rfl) fun b49 => ?_
      refine HQ.pu Pu.assign ⟨rfl, trivial⟩ rfl rfl rfl ?_
      refine HQ.opN [17] [17] [] (OT.storeC (cs' := [.int .i64 ((gt t3.Wet i25).At), .slice a47 (List.length ((gt t3.Wet i25).B)) c48]) sz71 rfl rfl rfl rfl rfl) ⟨rfl, rfl, trivial⟩ ⟨rfl, trivial⟩ rfl rfl rfl (fun _ => rfl) fun _ => ?_
      refine HQ.done ?_
      refine HQ.keep [(1, _), (2, _), (6, _), (7, _), (13, _), (14, _), (15, _), (9, _), (8, _)] ⟨rfl, rfl, rfl, rfl, rfl, rfl, rfl, rfl, rfl, trivial⟩ ?_
      refine HQ.seq ?_
      refine HQ.rseq ?_
      refine HQ.pu Pu.move ⟨rfl, trivial⟩ rfl rfl rfl ?_
      refine HQ.pu Pu.move ⟨rfl, trivial⟩ rfl rfl rfl ?_
      refine HQ.pu (Pu.len ul36) ⟨rfl, trivial⟩ rfl rfl rfl ?_
      refine HQ.pu Pu.geq ⟨rfl, rfl, trivial⟩ rfl rfl rfl ?_
      refine HQ.done ?_
      refine HQ.keep [(1, _), (2, _), (6, _), (7, _), (13, _), (14, _), (15, _), (9, _), (8, _), (23, _)] ⟨rfl, rfl, rfl, rfl, rfl, rfl, rfl, rfl, rfl, rfl, trivial⟩ ?_
      rcases brk H with ⟨hc, H⟩ | ⟨hc, H⟩
      · refine HQ.condT rfl hc ?_
        clear hc
        refine HQ.exit ?_
        refine HQ.thenE ?_
        refine HQ.blkO rfl ?_
        refine HQ.thenE ?_
        obtain rfl := Option.some.inj H
        exact HQ.out (a27, c28) ⟨rfl, rfl, rfl, rfl, rfl, rfl, rfl, trivial⟩ ⟨rfl, rfl, rfl, rfl, trivial⟩ rfl
      · refine HQ.condF rfl hc ?_
        clear hc
        refine HQ.skipThen ?_
        refine HQ.rseq ?_
        refine HQ.pu Pu.move ⟨rfl, trivial⟩ rfl rfl rfl ?_
        refine HQ.pu Pu.move ⟨rfl, trivial⟩ rfl rfl rfl ?_
        obtain ⟨h50, H⟩ := asr H
        refine HQ.op [] [] (OT.indexB ul36 sz3 hb_2 h50) ⟨rfl, rfl, trivial⟩ trivial rfl rfl rfl rfl (fun _ => rfl) fun _ => ?_
        refine HQ.op [] [] (OT.loadF sc3 hb_2 h50 rfl) ⟨rfl, trivial⟩ trivial rfl rfl rfl rfl (fun _ => rfl) fun _ => ?_
        refine HQ.done ?_
        refine HQ.keep [(1, _), (2, _), (6, _), (7, _), (13, _), (14, _), (15, _), (9, _), (27, _)] ⟨rfl, rfl, rfl, rfl, rfl, rfl, rfl, rfl, rfl, trivial⟩ ?_
        refine HQ.block ?_
        refine HQ.rseq ?_
        refine HQ.pu Pu.eql ⟨rfl, rfl, trivial⟩ rfl rfl rfl ?_
        refine HQ.pu Pu.assign ⟨rfl, trivial⟩ rfl rfl rfl ?_
        refine HQ.done ?_
        refine HQ.keep [(1, _), (2, _), (6, _), (7, _), (13, _), (14, _), (15, _), (9, _), (27, _), (28, _)] ⟨rfl, rfl, rfl, rfl, rfl, rfl, rfl, rfl, rfl, rfl, trivial⟩ ?_
        rcases brk H with ⟨hc, H⟩ | ⟨hc, H⟩
        · refine HQ.condT rfl hc ?_
          clear hc
          refine HQ.regionQ ?_
          refine HQ.pu (Pu.fieldB fo71_0 rfl) ⟨rfl, trivial⟩ rfl rfl rfl ?_
          refine HQ.op [17] [17] (OT.loadB sc3 rfl) ⟨rfl, trivial⟩ ⟨rfl, trivial⟩ rfl rfl rfl rfl (fun _ => rfl) fun _ => ?_
          refine HQ.pu (Pu.fieldB fo71_1 rfl) ⟨rfl, trivial⟩ rfl rfl rfl ?_
          refine HQ.op [17] [17] (OT.loadB sc63 rfl) ⟨rfl, trivial⟩ ⟨rfl, trivial⟩ rfl rfl rfl rfl (fun _ => rfl) fun _ => ?_
          refine HQ.pu (Pu.build (us := [.slice a47 (List.length ((gt t3.Wet i25).B)) c48]) (cs := [.bool false, .slice a47 (List.length ((gt t3.Wet i25).B)) c48]) [(1, .tmp 33)] st79 rfl rfl rfl) ⟨rfl, trivial⟩ rfl rfl rfl ?_
          obtain ⟨t51, h52, H⟩ := bnd H
          refine HQ.opD [5, 3, 16] [5, 18] [3, 16] (OT.callM (us := [_, _, _]) (PreX := [Box b9 [.slice a27 (List.length l26) c28, .slice a7 (List.length t3.Wet) c8, .int .i64 i29, .bool q30], OwnS kTCell a27 c28 l26, OwnS kU8 a47 c48 ((gt t3.Wet i25).B)]) (PreL := []) [.tmp 7, .tmp 31, .tmp 34] Try.call50 rfl rfl fun w FX FL hs1 hF1 hs2 hF2 hp => impl_Disk_store_c (p0 := (⟨l26, t3.Wet, i29, q30⟩ : TDisk)) (p1 := (gt t3.Wet i25).At) (p2 := (⟨false, (gt t3.Wet i25).B⟩ : TCell)) hs1 hF1 h52) ⟨rfl, rfl, rfl, rfl, trivial⟩ ⟨rfl, rfl, rfl, trivial⟩ rfl rfl rfl rfl (fun _ => rfl) fun ⟨a53, c54⟩ => ?_
          refine HQ.done ?_
          refine HQ.keep [(1, _), (2, _), (6, _), (7, _), (13, _), (14, _), (15, _)] ⟨rfl, rfl, rfl, rfl, rfl, rfl, rfl, trivial⟩ ?_
          refine HQ.blkN ?_
          refine HQ.blkN ?_
          refine HQ.thenN ?_
          refine HQ.regionQ ?_
          refine HQ.pu Pu.add ⟨rfl, rfl, trivial⟩ rfl rfl rfl ?_
          refine HQ.pu Pu.move ⟨rfl, trivial⟩ rfl rfl rfl ?_
          refine HQ.done ?_
          refine HQ.keep [(1, _), (2, _), (6, _), (7, _), (13, _), (14, _), (15, _)] ⟨rfl, rfl, rfl, rfl, rfl, rfl, rfl, trivial⟩ ?_
          refine HQ.mv 3 18 rfl rfl ?_
          obtain rfl := Option.some.inj H
          exact HQ.next (a53, c54) ⟨rfl, rfl, rfl, rfl, rfl, rfl, rfl, trivial⟩ ⟨rfl, rfl, rfl, rfl, trivial⟩ rfl
        · refine HQ.condF rfl hc ?_
          clear hc
          refine HQ.rseq ?_
          refine HQ.pu Pu.eql ⟨rfl, rfl, trivial⟩ rfl rfl rfl ?_
          refine HQ.pu Pu.assign ⟨rfl, trivial⟩ rfl rfl rfl ?_
          refine HQ.done ?_
          refine HQ.keep [(1, _), (2, _), (6, _), (7, _), (13, _), (14, _), (15, _), (9, _), (36, _)] ⟨rfl, rfl, rfl, rfl, rfl, rfl, rfl, rfl, rfl, trivial⟩ ?_
          rcases brk H with ⟨hc, H⟩ | ⟨hc, H⟩
          · refine HQ.condT rfl hc ?_
            clear hc
            refine HQ.regionQ ?_
            refine HQ.pu (Pu.fieldB fo71_0 rfl) ⟨rfl, trivial⟩ rfl rfl rfl ?_
            refine HQ.op [17] [17] (OT.loadB sc3 rfl) ⟨rfl, trivial⟩ ⟨rfl, trivial⟩ rfl rfl rfl rfl (fun _ => rfl) fun _ => ?_
            refine HQ.pu (Pu.build (us := [.bool true]) (cs := [.bool true, .slice none 0 0]) [(0, .const (.bool true))] st79 rfl rfl rfl) ⟨rfl, trivial⟩ rfl rfl rfl ?_
            obtain ⟨t55, h56, H⟩ := bnd H
            refine HQ.nil kU8 19 rfl ?_
            refine HQ.opD [5, 3, 19] [5, 20] [3, 19] (OT.callM (us := [_, _, _]) (PreX := [Box b9 [.slice a27 (List.length l26) c28, .slice a7 (List.length t3.Wet) c8, .int .i64 i29, .bool q30], OwnS kTCell a27 c28 l26, OwnS kU8 none 0 ([] : List Int)]) (PreL := []) [.tmp 7, .tmp 39, .tmp 40] Try.call50 rfl rfl fun w FX FL hs1 hF1 hs2 hF2 hp => impl_Disk_store_c (p0 := (⟨l26, t3.Wet, i29, q30⟩ : TDisk)) (p1 := (gt t3.Wet i25).At) (p2 := (⟨true, ([] : (List Int))⟩ : TCell)) hs1 hF1 h56) ⟨rfl, rfl, rfl, rfl, trivial⟩ ⟨rfl, rfl, rfl, trivial⟩ rfl rfl rfl rfl (fun _ => rfl) fun ⟨a57, c58⟩ => ?_
            refine HQ.done ?_
            refine HQ.keep [(1, _), (2, _), (6, _), (7, _), (13, _), (14, _), (15, _)] ⟨rfl, rfl, rfl, rfl, rfl, rfl, rfl, trivial⟩ ?_
            refine HQ.blkN ?_
            refine HQ.blkN ?_
            refine HQ.thenN ?_
            refine HQ.regionQ ?_
            refine HQ.pu Pu.add ⟨rfl, rfl, trivial⟩ rfl rfl rfl ?_
            refine HQ.pu Pu.move ⟨rfl, trivial⟩ rfl rfl rfl ?_
            refine HQ.done ?_
            refine HQ.keep [(1, _), (2, _), (6, _), (7, _), (13, _), (14, _), (15, _)] ⟨rfl, rfl, rfl, rfl, rfl, rfl, rfl, trivial⟩ ?_
            refine HQ.mv 3 20 rfl rfl ?_
            obtain rfl := Option.some.inj H
            exact HQ.next (a57, c58) ⟨rfl, rfl, rfl, rfl, rfl, rfl, rfl, trivial⟩ ⟨rfl, rfl, rfl, rfl, trivial⟩ rfl
          · refine HQ.condF rfl hc ?_
            clear hc
            refine HQ.skip ?_
            refine HQ.blkN ?_
            refine HQ.blkN ?_
            refine HQ.thenN ?_
            refine HQ.regionQ ?_
            refine HQ.pu Pu.add ⟨rfl, rfl, trivial⟩ rfl rfl rfl ?_
            refine HQ.pu Pu.move ⟨rfl, trivial⟩ rfl rfl rfl ?_
            refine HQ.done ?_
            refine HQ.keep [(1, _), (2, _), (6, _), (7, _), (13, _), (14, _), (15, _)] ⟨rfl, rfl, rfl, rfl, rfl, rfl, rfl, trivial⟩ ?_
            obtain rfl := Option.some.inj H
            exact HQ.next (a27, c28) ⟨rfl, rfl, rfl, rfl, rfl, rfl, rfl, trivial⟩ ⟨rfl, rfl, rfl, rfl, trivial⟩ rfl
    · refine HQ.condF rfl hc ?_
      clear hc
      refine HQ.exit ?_
      refine HQ.thenE ?_
      obtain rfl := Option.some.inj H
      exact HQ.out (a27, c28) ⟨rfl, rfl, rfl, rfl, rfl, rfl, rfl, trivial⟩ ⟨rfl, rfl, rfl, rfl, trivial⟩ rfl
  · rintro ⟨i60, i61, l62, i65, q66⟩ rfl ⟨a63, c64⟩
    clear h67
    replace H := H
    refine HQ.keep [(1, _), (2, _), (6, _), (7, _), (13, _), (14, _), (15, _)] ⟨rfl, rfl, rfl, rfl, rfl, rfl, rfl, trivial⟩ ?_
    refine HQ.keepR [(2, _), (5, _), (3, _), (4, _)] ⟨rfl, rfl, rfl, rfl, trivial⟩ rfl ?_
    refine HQ.blkE ?_
    refine HQ.thenN ?_
    refine HQ.rseq ?_
    refine HQ.pu (Pu.fieldB fo30_1 rfl) ⟨rfl, trivial⟩ rfl rfl rfl ?_
    refine HQ.opN [5] [5] [] (OT.storeC (cs' := [.slice a63 (List.length l62) c64, .slice none 0 0, .int .i64 i65, .bool q66]) sz28 rfl rfl rfl rfl rfl) ⟨rfl, rfl, trivial⟩ ⟨rfl, trivial⟩ rfl rfl rfl (fun _ => rfl) fun _ => ?_
    refine HQ.done ?_
    refine HQ.keep [(2, _), (6, _), (7, _)] ⟨rfl, rfl, rfl, trivial⟩ ?_
    refine HQ.rseq ?_
    refine HQ.pu (Pu.fieldB fo30_3 rfl) ⟨rfl, trivial⟩ rfl rfl rfl ?_
    refine HQ.opN [5] [5] [] (OT.storeC (cs' := [.slice a63 (List.length l62) c64, .slice none 0 0, .int .i64 i65, .bool false]) sz4 rfl rfl rfl rfl rfl) ⟨rfl, rfl, trivial⟩ ⟨rfl, trivial⟩ rfl rfl rfl (fun _ => rfl) fun _ => ?_
    refine HQ.done ?_
    refine HQ.keep [(2, _), (6, _), (7, _)] ⟨rfl, rfl, rfl, trivial⟩ ?_
    refine HQ.rseq ?_
    refine HQ.pu Pu.move ⟨rfl, trivial⟩ rfl rfl rfl ?_
    refine HQ.pu Pu.max ⟨rfl, rfl, trivial⟩ rfl rfl rfl ?_
    refine HQ.pu (Pu.fieldB fo30_2 rfl) ⟨rfl, trivial⟩ rfl rfl rfl ?_
    refine HQ.opN [5] [5] [] (OT.storeC (cs' := [.slice a63 (List.length l62) c64, .slice none 0 0, .int .i64 (if (-1) > p2 then (-1) else p2), .bool false]) sz3 rfl rfl rfl rfl rfl) ⟨rfl, rfl, trivial⟩ ⟨rfl, trivial⟩ rfl rfl rfl (fun _ => rfl) fun _ => ?_
    refine HQ.done ?_
    refine HQ.keep [(6, _), (7, _)] ⟨rfl, rfl, trivial⟩ ?_
    refine HQ.rseq ?_
    refine HQ.op [5] [5] (OT.loadBA (vs := [.slice a63 (List.length l62) c64, .slice none 0 0, .int .i64 (if (-1) > p2 then (-1) else p2), .bool false]) ag30 sz30 rfl rfl) ⟨rfl, trivial⟩ ⟨rfl, trivial⟩ rfl rfl rfl rfl (fun _ => rfl) fun _ => ?_
    refine HQ.opN [2] [2] [] (OT.storeC (cs' := [.slice a63 (List.length l62) c64, .slice none 0 0, .int .i64 (if (-1) > p2 then (-1) else p2), .bool false]) sz30 rfl rfl rfl rfl rfl) ⟨rfl, rfl, trivial⟩ ⟨rfl, trivial⟩ rfl rfl rfl (fun _ => rfl) fun _ => ?_
    refine HQ.done ?_
    refine HQ.keep [(6, _)] ⟨rfl, trivial⟩ ?_
    refine HQ.ret ?_
    obtain rfl := Option.some.inj H
    refine HQ.nil kTWet 21 rfl ?_
    exact HQ.fin (vs := [_]) Try.results18 ((a63, c64), (none, 0)) ⟨⟨_, _, 2, rfl, rfl, ag30, sz30, rfl⟩, trivial⟩ rfl [3, 21] ⟨rfl, rfl, trivial⟩ rfl
  · exact fun r h a w hf => hf.elim

/-! spec.Most -/
theorem spec_Most_c {w : World} {p0 : Int} {p1 : Int}   {r : Int} (H : spec_Most p0 p1 = some r) :
    Calls Try.prog 57 #[.int .i64 p0, .int .i64 p1] w (Rt w Nil (fun _ : Unit => .int .i64 r) (fun _ => [])) := by
  rw [spec_Most] at H
  refine Calls.enter0 (N := 10) (us := [_, _]) Try.func57 rfl rfl rfl ?_
  refine HQ.rseq ?_
  refine HQ.pu Pu.assign ⟨rfl, trivial⟩ rfl rfl rfl ?_
  refine HQ.done ?_
  refine HQ.keep [(0, _), (1, _), (4, _)] ⟨rfl, rfl, rfl, trivial⟩ ?_
  refine HQ.seq ?_
  refine HQ.rseq ?_
  refine HQ.pu Pu.move ⟨rfl, trivial⟩ rfl rfl rfl ?_
  refine HQ.pu Pu.move ⟨rfl, trivial⟩ rfl rfl rfl ?_
  refine HQ.pu Pu.gtr ⟨rfl, rfl, trivial⟩ rfl rfl rfl ?_
  refine HQ.done ?_
  refine HQ.keep [(0, _), (1, _), (4, _), (7, _)] ⟨rfl, rfl, rfl, rfl, trivial⟩ ?_
  rcases brk H with ⟨hc, H⟩ | ⟨hc, H⟩
  · refine HQ.condT rfl hc ?_
    clear hc
    refine HQ.rseq ?_
    refine HQ.pu Pu.move ⟨rfl, trivial⟩ rfl rfl rfl ?_
    refine HQ.pu Pu.assign ⟨rfl, trivial⟩ rfl rfl rfl ?_
    refine HQ.done ?_
    refine HQ.keep [(0, _), (4, _)] ⟨rfl, rfl, trivial⟩ ?_
    refine HQ.ret ?_
    refine HQ.thenR ?_
    obtain rfl := Option.some.inj H
    exact HQ.fin (vs := [_]) Try.results57 () ⟨rfl, trivial⟩ rfl [] trivial rfl
  · refine HQ.condF rfl hc ?_
    clear hc
    refine HQ.skipThen ?_
    refine HQ.rseq ?_
    refine HQ.pu Pu.move ⟨rfl, trivial⟩ rfl rfl rfl ?_
    refine HQ.pu Pu.assign ⟨rfl, trivial⟩ rfl rfl rfl ?_
    refine HQ.done ?_
    refine HQ.keep [(4, _)] ⟨rfl, trivial⟩ ?_
    refine HQ.ret ?_
    obtain rfl := Option.some.inj H
    exact HQ.fin (vs := [_]) Try.results57 () ⟨rfl, trivial⟩ rfl [] trivial rfl

end Go.Proofs.Sx
