import Derived.Test.YtgfhnepkpbmbcaaBF8
import Derived.KernelRfl
namespace Go.Proofs.Sx
open Go.RowKit
set_option linter.unusedVariables false
set_option linter.unusedSimpArgs false
set_option maxRecDepth 20000
set_option maxHeartbeats 1000000
/-! impl.copyDisk -/
theorem impl_copyDisk_c {w : World} {k : Nat} {p0 : TDisk} {a_0 : Option Addr} {c_0 : Nat} {a_1 : Option Addr} {c_1 : Nat} (hb_0 : BorS kTCell a_0 c_0 p0.Cells w.heap (Lt w Nil)) (hb_1 : BorS kTWet a_1 c_1 p0.Wet w.heap (Lt w Nil)) {r : TDisk} (H : impl_copyDisk k p0 = some r) :
    Calls Try.prog 89 #[.agg #[.slice a_0 (List.length p0.Cells) c_0, .slice a_1 (List.length p0.Wet) c_1, .int .i64 p0.Fuse, .bool p0.Dead]] w (Rt w Nil (fun g : (Option Addr × Nat) × (Option Addr × Nat) => .agg #[.slice g.1.1 (List.length r.Cells) g.1.2, .slice g.2.1 (List.length r.Wet) g.2.2, .int .i64 r.Fuse, .bool r.Dead]) (fun g => [OwnS kTCell g.1.1 g.1.2 r.Cells, OwnS kTWet g.2.1 g.2.2 r.Wet])) := by
  rw [impl_copyDisk] at H
  refine Calls.enter0 (N := 52) (us := [_]) Try.func89 rfl rfl rfl ?_
  refine HQ.rseq ?_
  refine HQ.op [] [1] (OT.box (cs := [.slice a_0 (List.length p0.Cells) c_0, .slice a_1 (List.length p0.Wet) c_1, .int .i64 p0.Fuse, .bool p0.Dead]) rfl) ⟨rfl, trivial⟩ trivial rfl rfl rfl rfl (fun _ => rfl) fun b1 => ?_
  refine HQ.op [] [2] (OT.alloc zc42) trivial trivial rfl rfl rfl rfl (fun _ => rfl) fun b2 => ?_
  refine HQ.done ?_
  refine HQ.keep [(1, _), (2, _)] ⟨rfl, rfl, trivial⟩ ?_
  refine HQ.rseq ?_
  refine HQ.pu (Pu.fieldB fo42_2 rfl) ⟨rfl, trivial⟩ rfl rfl rfl ?_
  refine HQ.op [1] [1] (OT.loadB sc3 rfl) ⟨rfl, trivial⟩ ⟨rfl, trivial⟩ rfl rfl rfl rfl (fun _ => rfl) fun _ => ?_
  refine HQ.pu (Pu.fieldB fo42_3 rfl) ⟨rfl, trivial⟩ rfl rfl rfl ?_
  refine HQ.op [1] [1] (OT.loadB sc4 rfl) ⟨rfl, trivial⟩ ⟨rfl, trivial⟩ rfl rfl rfl rfl (fun _ => rfl) fun _ => ?_
  refine HQ.pu (Pu.build (us := [.int .i64 p0.Fuse, .bool p0.Dead]) (cs := [.slice none 0 0, .slice none 0 0, .int .i64 p0.Fuse, .bool p0.Dead]) [(2, .tmp 9), (3, .tmp 11)] st42 rfl rfl rfl) ⟨rfl, rfl, trivial⟩ rfl rfl rfl ?_
  refine HQ.op [] [3] (OT.alloc zc42) trivial trivial rfl rfl rfl rfl (fun _ => rfl) fun b3 => ?_
  refine HQ.opN [3] [3] [] (OT.storeC (cs' := [.slice none 0 0, .slice none 0 0, .int .i64 p0.Fuse, .bool p0.Dead]) sz42 rfl rfl rfl rfl rfl) ⟨rfl, rfl, trivial⟩ ⟨rfl, trivial⟩ rfl rfl rfl (fun _ => rfl) fun _ => ?_
  refine HQ.done ?_
  refine HQ.keep [(1, _), (2, _), (3, _)] ⟨rfl, rfl, rfl, trivial⟩ ?_
  refine HQ.seq ?_
  refine HQ.rseq ?_
  refine HQ.pu (Pu.fieldB fo42_0 rfl) ⟨rfl, trivial⟩ rfl rfl rfl ?_
  refine HQ.op [1] [1] (OT.loadB sc39 rfl) ⟨rfl, trivial⟩ ⟨rfl, trivial⟩ rfl rfl rfl rfl (fun _ => rfl) fun _ => ?_
  refine HQ.pu (Pu.len ul39) ⟨rfl, trivial⟩ rfl rfl rfl ?_
  refine HQ.pu Pu.move ⟨rfl, trivial⟩ rfl rfl rfl ?_
  refine HQ.done ?_
  refine HQ.keep [(1, _), (2, _), (3, _), (14, _), (15, _), (16, _)] ⟨rfl, rfl, rfl, rfl, rfl, rfl, trivial⟩ ?_
  refine HQ.block ?_
  refine HQ.nil kTCell 8 rfl ?_
  obtain ⟨o56, h119, H⟩ := bnd H
  refine HQ.loop h119 0 (fun (s : Int × (List TCell)) (g : Option Addr × Nat) => match s, g with | (i20, l21), (a22, c23) => [(1, BP b1 0), (2, BP b2 0), (3, BP b3 0), (14, .slice a_0 (List.length p0.Cells) c_0), (15, .int .i64 ((List.length p0.Cells : Nat) : Int)), (16, .int .i64 i20)]) (fun (s : Int × (List TCell)) (g : Option Addr × Nat) => match s, g with | (i20, l21), (a22, c23) => [(1, Box b1 [.slice a_0 (List.length p0.Cells) c_0, .slice a_1 (List.length p0.Wet) c_1, .int .i64 p0.Fuse, .bool p0.Dead]), (2, Box b2 [.slice none 0 0, .slice none 0 0, .int .i64 0, .bool false]), (3, Box b3 [.slice a22 (List.length l21) c23, .slice none 0 0, .int .i64 p0.Fuse, .bool p0.Dead]), (8, OwnS kTCell a22 c23 l21)]) (fun _ _ _ => False) (none, 0) ⟨rfl, rfl, rfl, rfl, rfl, rfl, trivial⟩ ⟨rfl, rfl, rfl, rfl, trivial⟩ rfl ?_ ?_ ?_
  · clear H h119
    rintro ⟨i20, l21⟩ ⟨a22, c23⟩ o H
    rw [impl_copyDisk_b0] at H
    refine HQ.keep [(1, _), (2, _), (3, _), (14, _), (15, _), (16, _)] ⟨rfl, rfl, rfl, rfl, rfl, rfl, trivial⟩ ?_
    refine HQ.keepR [(1, _), (2, _), (3, _), (8, _)] ⟨rfl, rfl, rfl, rfl, trivial⟩ rfl ?_
    refine HQ.rseq ?_
    refine HQ.pu Pu.lss ⟨rfl, rfl, trivial⟩ rfl rfl rfl ?_
    refine HQ.done ?_
    refine HQ.keep [(1, _), (2, _), (3, _), (14, _), (15, _), (16, _), (17, _)] ⟨rfl, rfl, rfl, rfl, rfl, rfl, rfl, trivial⟩ ?_
    refine HQ.seq ?_
    rcases brk H with ⟨hc, H⟩ | ⟨hc, H⟩
    · refine HQ.condT rfl hc ?_
      clear hc
      refine HQ.skipThen ?_
      refine HQ.seq ?_
      refine HQ.block ?_
      refine HQ.rseq ?_
      obtain ⟨h40, H⟩ := asr H
      refine HQ.op [] [] (OT.indexB ul39 sz140 hb_0 h40) ⟨rfl, rfl, trivial⟩ trivial rfl rfl rfl rfl (fun _ => rfl) fun _ => ?_
      obtain ⟨⟨a41, c42⟩, hb43, hn44⟩ := BorS.nest hb_0 h40
      refine HQ.op [] [] (OT.loadNA (vs := [.bool ((gt p0.Cells i20).Bad), .slice a41 (List.length ((gt p0.Cells i20).B)) c42]) ag140 sz140 hn44 hlTCell rfl rfl) ⟨rfl, trivial⟩ trivial rfl rfl rfl rfl (fun _ => rfl) fun _ => ?_
      refine HQ.op [] [12] (OT.alloc zc140) trivial trivial rfl rfl rfl rfl (fun _ => rfl) fun b45 => ?_
      refine HQ.opN [12] [12] [] (OT.storeC (cs' := [.bool ((gt p0.Cells i20).Bad), .slice a41 (List.length ((gt p0.Cells i20).B)) c42]) sz140 rfl rfl rfl rfl rfl) ⟨rfl, rfl, trivial⟩ ⟨rfl, trivial⟩ rfl rfl rfl (fun _ => rfl) fun _ => ?_
      refine HQ.done ?_
      refine HQ.keep [(1, _), (2, _), (3, _), (14, _), (15, _), (16, _), (5, _)] ⟨rfl, rfl, rfl, rfl, rfl, rfl, rfl, trivial⟩ ?_
      refine HQ.dStart mixd ?_
      obtain ⟨t47, h48, H⟩ := bnd H
      refine HQ.dPart [(1, BP b1 0), (2, BP b2 0), (3, BP b3 0), (14, .slice a_0 (List.length p0.Cells) c_0), (15, .int .i64 ((List.length p0.Cells : Nat) : Int)), (16, .int .i64 i20), (5, BP b45 0)] 9 [⟨[], [], []⟩, ⟨[0], [0], [0]⟩, ⟨[], [], []⟩, ⟨[1], [1], [2]⟩, ⟨[], [], []⟩, ⟨[1], [1], [4]⟩, ⟨[], [2], [5]⟩, ⟨[], [], [3, 6]⟩, ⟨[2], [3], [7]⟩] [⟨none, none⟩, ⟨none, none⟩, ⟨some 6, some 8⟩, ⟨some 8, none⟩] (fun (g46 : (Option Addr × Nat) × (Option Addr × Nat)) => [BP b3 0, .slice a22 (List.length l21) c23, BP b45 0, .bool ((gt p0.Cells i20).Bad), BP b45 1, .slice a41 (List.length ((gt p0.Cells i20).B)) c42, .slice g46.1.1 (List.length t47) g46.1.2, .agg #[.bool ((gt p0.Cells i20).Bad), .slice g46.1.1 (List.length t47) g46.1.2], .slice g46.2.1 (List.length ([(⟨(gt p0.Cells i20).Bad, t47⟩ : TCell)] : (List TCell))) g46.2.2]) (fun (g46 : (Option Addr × Nat) × (Option Addr × Nat)) => [Box b3 [.slice a22 (List.length l21) c23, .slice none 0 0, .int .i64 p0.Fuse, .bool p0.Dead], Box b45 [.bool ((gt p0.Cells i20).Bad), .slice a41 (List.length ((gt p0.Cells i20).B)) c42], OwnS kU8 g46.1.1 g46.1.2 t47, OwnS kTCell g46.2.1 g46.2.2 ([(⟨(gt p0.Cells i20).Bad, t47⟩ : TCell)] : (List TCell))]) ((none, 0), (none, 0)) [3, 12] [3, 12, 14] [] ⟨rfl, rfl, rfl, rfl, rfl, rfl, rfl, trivial⟩ ⟨rfl, rfl, trivial⟩ rfl (by kernel_rfl) (by kernel_rfl) (fun _ => rfl) (by kernel_rfl) (fun _ => rfl) rfl ⟨?_, ?_, ?_, ?_, ?_, ?_, ?_, ?_, ?_, trivial⟩ fun g46 => ?_
      · exact OpOK2.of (fun g46 => [(.tmp 3, BP b3 0)]) _ _ (fun g46 _ => g46) rfl rfl (fun _ => ⟨rfl, trivial⟩) (fun g46 => Pu.toOT (Pu.fieldB fo42_0 rfl)) (fun _ _ => ⟨rfl, rfl, ⟨rfl, rfl, rfl, rfl, trivial⟩⟩)
      · exact OpOK2.of (fun g46 => [(.tmp 20, BP b3 0)]) _ _ (fun g46 _ => g46) rfl rfl (fun _ => ⟨rfl, trivial⟩) (fun g46 => OT.loadB sc39 rfl) (fun _ _ => ⟨rfl, rfl, ⟨rfl, rfl, rfl, rfl, trivial⟩⟩)
      · exact OpOK2.of (fun g46 => [(.tmp 5, BP b45 0)]) _ _ (fun g46 _ => g46) rfl rfl (fun _ => ⟨rfl, trivial⟩) (fun g46 => Pu.toOT (Pu.fieldB fo140_0 rfl)) (fun _ _ => ⟨rfl, rfl, ⟨rfl, rfl, rfl, rfl, trivial⟩⟩)
      · exact OpOK2.of (fun g46 => [(.tmp 22, BP b45 0)]) _ _ (fun g46 _ => g46) rfl rfl (fun _ => ⟨rfl, trivial⟩) (fun g46 => OT.loadB sc4 rfl) (fun _ _ => ⟨rfl, rfl, ⟨rfl, rfl, rfl, rfl, trivial⟩⟩)
      · exact OpOK2.of (fun g46 => [(.tmp 5, BP b45 0)]) _ _ (fun g46 _ => g46) rfl rfl (fun _ => ⟨rfl, trivial⟩) (fun g46 => Pu.toOT (Pu.fieldB fo140_1 rfl)) (fun _ _ => ⟨rfl, rfl, ⟨rfl, rfl, rfl, rfl, trivial⟩⟩)
      · exact OpOK2.of (fun g46 => [(.tmp 24, BP b45 1)]) _ _ (fun g46 _ => g46) rfl rfl (fun _ => ⟨rfl, trivial⟩) (fun g46 => OT.loadB sc37 rfl) (fun _ _ => ⟨rfl, rfl, ⟨rfl, rfl, rfl, rfl, trivial⟩⟩)
      · exact OpOK2.ofD [7] (by kernel_rfl) (fun g46 => [(.func 154, .func (.func 154) #[] #[]), (.tmp 25, .slice a41 (List.length ((gt p0.Cells i20).B)) c42)]) _ _ (fun g46 x => (x, g46.2)) rfl rfl (fun _ => ⟨rfl, rfl, trivial⟩) (fun g46 => OT.call (us := [_]) (Pre := []) [.tmp 25] Try.call154 rfl rfl fun w F hs hF hp => slices_Clone_byte_byte_c (hb43.pass hp) h48) (fun _ _ => ⟨⟨rfl, rfl, rfl, rfl, rfl, rfl, rfl, trivial, rfl, trivial⟩, rfl, ⟨rfl, rfl, rfl, rfl, trivial⟩⟩)
      · exact OpOK2.of (fun g46 => [(.tmp 23, .bool ((gt p0.Cells i20).Bad)), (.tmp 26, .slice g46.1.1 (List.length t47) g46.1.2)]) _ _ (fun g46 _ => g46) rfl rfl (fun _ => ⟨rfl, rfl, trivial⟩) (fun g46 => Pu.toOT (Pu.build (us := [.bool ((gt p0.Cells i20).Bad), .slice g46.1.1 (List.length t47) g46.1.2]) (cs := [.bool ((gt p0.Cells i20).Bad), .slice g46.1.1 (List.length t47) g46.1.2]) [(0, .tmp 23), (1, .tmp 26)] st140 rfl rfl rfl)) (fun _ _ => ⟨rfl, rfl, ⟨rfl, rfl, rfl, rfl, trivial⟩⟩)
      · exact OpOK2.of (fun g46 => [(.tmp 27, .agg #[.bool ((gt p0.Cells i20).Bad), .slice g46.1.1 (List.length t47) g46.1.2])]) _ _ (fun g46 x => (g46.1, x)) rfl rfl (fun _ => ⟨rfl, trivial⟩) (fun g46 => OT.buildO (u := .agg #[.bool ((gt p0.Cells i20).Bad), .slice g46.1.1 (List.length t47) g46.1.2]) (enc := encTCell) (hl := hlTCell) (sub := fun (x : TCell) => x.B) (.tmp 27) (⟨(gt p0.Cells i20).Bad, t47⟩ : TCell) sl39.ul sl39.szE sl39.zc rfl rfl rfl rfl) (fun _ _ => ⟨rfl, rfl, ⟨rfl, rfl, rfl, rfl, trivial⟩⟩)
      refine HQ.keep [(1, _), (2, _), (3, _), (14, _), (15, _), (16, _), (21, _), (28, _)] ⟨rfl, rfl, rfl, rfl, rfl, rfl, rfl, rfl, trivial⟩ ?_
      refine HQ.keepR [(1, _), (2, _), (3, _), (8, _), (12, _), (14, _)] ⟨rfl, rfl, rfl, rfl, rfl, rfl, trivial⟩ rfl ?_
      refine HQ.dRun 3 rfl rfl (by kernel_rfl) (by kernel_rfl) ?_
      obtain ⟨h55, H⟩ := asr H
      refine HQ.opD [8, 14] [8] [14] (OT.appendO (K := kTCell) sl39 ul39 h55) ⟨rfl, rfl, trivial⟩ ⟨rfl, rfl, trivial⟩ rfl rfl rfl rfl (fun _ => rfl) fun ⟨a53, c54⟩ => ?_
      refine HQ.pu (Pu.fieldB fo42_0 rfl) ⟨rfl, trivial⟩ rfl rfl rfl ?_
      refine HQ.opN [3] [3] [] (OT.storeC (cs' := [.slice a53 (List.length (l21 ++ ([(⟨(gt p0.Cells i20).Bad, t47⟩ : TCell)] : (List TCell)))) c54, .slice none 0 0, .int .i64 p0.Fuse, .bool p0.Dead]) sz39 rfl rfl rfl rfl rfl) ⟨rfl, rfl, trivial⟩ ⟨rfl, trivial⟩ rfl rfl rfl (fun _ => rfl) fun _ => ?_
      refine HQ.done ?_
      refine HQ.dEnd rfl ?_
      refine HQ.keep [(1, _), (2, _), (3, _), (14, _), (15, _), (16, _)] ⟨rfl, rfl, rfl, rfl, rfl, rfl, trivial⟩ ?_
      refine HQ.blkN ?_
      refine HQ.thenN ?_
      refine HQ.regionQ ?_
      refine HQ.pu Pu.add ⟨rfl, rfl, trivial⟩ rfl rfl rfl ?_
      refine HQ.pu Pu.move ⟨rfl, trivial⟩ rfl rfl rfl ?_
      refine HQ.done ?_
      refine HQ.keep [(1, _), (2, _), (3, _), (14, _), (15, _), (16, _)] ⟨rfl, rfl, rfl, rfl, rfl, rfl, trivial⟩ ?_
      obtain rfl := Option.some.inj H
      exact HQ.next (a53, c54) ⟨rfl, rfl, rfl, rfl, rfl, rfl, trivial⟩ ⟨rfl, rfl, rfl, rfl, trivial⟩ rfl
    · refine HQ.condF rfl hc ?_
      clear hc
      refine HQ.exit ?_
      refine HQ.thenE ?_
      obtain rfl := Option.some.inj H
      exact HQ.out (a22, c23) ⟨rfl, rfl, rfl, rfl, rfl, rfl, trivial⟩ ⟨rfl, rfl, rfl, rfl, trivial⟩ rfl
  · rintro ⟨i57, l58⟩ rfl ⟨a59, c60⟩
    clear h119
    replace H := H
    refine HQ.keep [(1, _), (2, _), (3, _), (14, _), (15, _), (16, _)] ⟨rfl, rfl, rfl, rfl, rfl, rfl, trivial⟩ ?_
    refine HQ.keepR [(1, _), (2, _), (3, _), (8, _)] ⟨rfl, rfl, rfl, rfl, trivial⟩ rfl ?_
    refine HQ.blkE ?_
    refine HQ.thenN ?_
    refine HQ.seq ?_
    refine HQ.rseq ?_
    refine HQ.pu (Pu.fieldB fo42_1 rfl) ⟨rfl, trivial⟩ rfl rfl rfl ?_
    refine HQ.op [1] [1] (OT.loadB sc40 rfl) ⟨rfl, trivial⟩ ⟨rfl, trivial⟩ rfl rfl rfl rfl (fun _ => rfl) fun _ => ?_
    refine HQ.pu (Pu.len ul40) ⟨rfl, trivial⟩ rfl rfl rfl ?_
    refine HQ.pu Pu.move ⟨rfl, trivial⟩ rfl rfl rfl ?_
    refine HQ.done ?_
    refine HQ.keep [(2, _), (3, _), (33, _), (34, _), (35, _)] ⟨rfl, rfl, rfl, rfl, rfl, trivial⟩ ?_
    refine HQ.block ?_
    refine HQ.nil kTWet 19 rfl ?_
    obtain ⟨o113, h118, H⟩ := bnd H
    refine HQ.loop h118 2 (fun (s : Int × (List TWet)) (g : Option Addr × Nat) => match s, g with | (i77, l78), (a79, c80) => [(2, BP b2 0), (3, BP b3 0), (33, .slice a_1 (List.length p0.Wet) c_1), (34, .int .i64 ((List.length p0.Wet : Nat) : Int)), (35, .int .i64 i77)]) (fun (s : Int × (List TWet)) (g : Option Addr × Nat) => match s, g with | (i77, l78), (a79, c80) => [(2, Box b2 [.slice none 0 0, .slice none 0 0, .int .i64 0, .bool false]), (3, Box b3 [.slice a59 (List.length l58) c60, .slice a79 (List.length l78) c80, .int .i64 p0.Fuse, .bool p0.Dead]), (8, OwnS kTCell a59 c60 l58), (19, OwnS kTWet a79 c80 l78)]) (fun _ _ _ => False) (none, 0) ⟨rfl, rfl, rfl, rfl, rfl, trivial⟩ ⟨rfl, rfl, rfl, rfl, trivial⟩ rfl ?_ ?_ ?_
    · clear H h118
      rintro ⟨i77, l78⟩ ⟨a79, c80⟩ o H
      rw [impl_copyDisk_b1] at H
      refine HQ.keep [(2, _), (3, _), (33, _), (34, _), (35, _)] ⟨rfl, rfl, rfl, rfl, rfl, trivial⟩ ?_
      refine HQ.keepR [(2, _), (3, _), (8, _), (19, _)] ⟨rfl, rfl, rfl, rfl, trivial⟩ rfl ?_
      refine HQ.rseq ?_
      refine HQ.pu Pu.lss ⟨rfl, rfl, trivial⟩ rfl rfl rfl ?_
      refine HQ.done ?_
      refine HQ.keep [(2, _), (3, _), (33, _), (34, _), (35, _), (36, _)] ⟨rfl, rfl, rfl, rfl, rfl, rfl, trivial⟩ ?_
      refine HQ.seq ?_
      rcases brk H with ⟨hc, H⟩ | ⟨hc, H⟩
      · refine HQ.condT rfl hc ?_
        clear hc
        refine HQ.skipThen ?_
        refine HQ.seq ?_
        refine HQ.block ?_
        refine HQ.rseq ?_
        obtain ⟨h97, H⟩ := asr H
        refine HQ.op [] [] (OT.indexB ul40 sz130 hb_1 h97) ⟨rfl, rfl, trivial⟩ trivial rfl rfl rfl rfl (fun _ => rfl) fun _ => ?_
        obtain ⟨⟨a98, c99⟩, hb100, hn101⟩ := BorS.nest hb_1 h97
        refine HQ.op [] [] (OT.loadNA (vs := [.int .i64 ((gt p0.Wet i77).At), .slice a98 (List.length ((gt p0.Wet i77).B)) c99]) ag130 sz130 hn101 hlTWet rfl rfl) ⟨rfl, trivial⟩ trivial rfl rfl rfl rfl (fun _ => rfl) fun _ => ?_
        refine HQ.op [] [23] (OT.alloc zc130) trivial trivial rfl rfl rfl rfl (fun _ => rfl) fun b102 => ?_
        refine HQ.opN [23] [23] [] (OT.storeC (cs' := [.int .i64 ((gt p0.Wet i77).At), .slice a98 (List.length ((gt p0.Wet i77).B)) c99]) sz130 rfl rfl rfl rfl rfl) ⟨rfl, rfl, trivial⟩ ⟨rfl, trivial⟩ rfl rfl rfl (fun _ => rfl) fun _ => ?_
        refine HQ.done ?_
        refine HQ.keep [(2, _), (3, _), (33, _), (34, _), (35, _), (7, _)] ⟨rfl, rfl, rfl, rfl, rfl, rfl, trivial⟩ ?_
        refine HQ.dStart mixd ?_
        obtain ⟨t104, h105, H⟩ := bnd H
        refine HQ.dPart [(2, BP b2 0), (3, BP b3 0), (33, .slice a_1 (List.length p0.Wet) c_1), (34, .int .i64 ((List.length p0.Wet : Nat) : Int)), (35, .int .i64 i77), (7, BP b102 0)] 9 [⟨[], [], []⟩, ⟨[0], [0], [0]⟩, ⟨[], [], []⟩, ⟨[1], [1], [2]⟩, ⟨[], [], []⟩, ⟨[1], [1], [4]⟩, ⟨[], [2], [5]⟩, ⟨[], [], [3, 6]⟩, ⟨[2], [3], [7]⟩] [⟨none, none⟩, ⟨none, none⟩, ⟨some 6, some 8⟩, ⟨some 8, none⟩] (fun (g103 : (Option Addr × Nat) × (Option Addr × Nat)) => [BP b3 1, .slice a79 (List.length l78) c80, BP b102 0, .int .i64 ((gt p0.Wet i77).At), BP b102 1, .slice a98 (List.length ((gt p0.Wet i77).B)) c99, .slice g103.1.1 (List.length t104) g103.1.2, .agg #[.int .i64 ((gt p0.Wet i77).At), .slice g103.1.1 (List.length t104) g103.1.2], .slice g103.2.1 (List.length ([(⟨(gt p0.Wet i77).At, t104⟩ : TWet)] : (List TWet))) g103.2.2]) (fun (g103 : (Option Addr × Nat) × (Option Addr × Nat)) => [Box b3 [.slice a59 (List.length l58) c60, .slice a79 (List.length l78) c80, .int .i64 p0.Fuse, .bool p0.Dead], Box b102 [.int .i64 ((gt p0.Wet i77).At), .slice a98 (List.length ((gt p0.Wet i77).B)) c99], OwnS kU8 g103.1.1 g103.1.2 t104, OwnS kTWet g103.2.1 g103.2.2 ([(⟨(gt p0.Wet i77).At, t104⟩ : TWet)] : (List TWet))]) ((none, 0), (none, 0)) [3, 23] [3, 23, 25] [] ⟨rfl, rfl, rfl, rfl, rfl, rfl, trivial⟩ ⟨rfl, rfl, trivial⟩ rfl (by kernel_rfl) (by kernel_rfl) (fun _ => rfl) (by kernel_rfl) (fun _ => rfl) rfl ⟨?_, ?_, ?_, ?_, ?_, ?_, ?_, ?_, ?_, trivial⟩ fun g103 => ?_
        · exact OpOK2.of (fun g103 => [(.tmp 3, BP b3 0)]) _ _ (fun g103 _ => g103) rfl rfl (fun _ => ⟨rfl, trivial⟩) (fun g103 => Pu.toOT (Pu.fieldB fo42_1 rfl)) (fun _ _ => ⟨rfl, rfl, ⟨rfl, rfl, rfl, rfl, trivial⟩⟩)
        · exact OpOK2.of (fun g103 => [(.tmp 39, BP b3 1)]) _ _ (fun g103 _ => g103) rfl rfl (fun _ => ⟨rfl, trivial⟩) (fun g103 => OT.loadB sc40 rfl) (fun _ _ => ⟨rfl, rfl, ⟨rfl, rfl, rfl, rfl, trivial⟩⟩)
        · exact OpOK2.of (fun g103 => [(.tmp 7, BP b102 0)]) _ _ (fun g103 _ => g103) rfl rfl (fun _ => ⟨rfl, trivial⟩) (fun g103 => Pu.toOT (Pu.fieldB fo130_0 rfl)) (fun _ _ => ⟨rfl, rfl, ⟨rfl, rfl, rfl, rfl, trivial⟩⟩)
        · exact OpOK2.of (fun g103 => [(.tmp 41, BP b102 0)]) _ _ (fun g103 _ => g103) rfl rfl (fun _ => ⟨rfl, trivial⟩) (fun g103 => OT.loadB sc3 rfl) (fun _ _ => ⟨rfl, rfl, ⟨rfl, rfl, rfl, rfl, trivial⟩⟩)
        · exact OpOK2.of (fun g103 => [(.tmp 7, BP b102 0)]) _ _ (fun g103 _ => g103) rfl rfl (fun _ => ⟨rfl, trivial⟩) (fun g103 => Pu.toOT (Pu.fieldB fo130_1 rfl)) (fun _ _ => ⟨rfl, rfl, ⟨rfl, rfl, rfl, rfl, trivial⟩⟩)
        · exact OpOK2.of (fun g103 => [(.tmp 43, BP b102 1)]) _ _ (fun g103 _ => g103) rfl rfl (fun _ => ⟨rfl, trivial⟩) (fun g103 => OT.loadB sc37 rfl) (fun _ _ => ⟨rfl, rfl, ⟨rfl, rfl, rfl, rfl, trivial⟩⟩)
        · exact OpOK2.ofD [7] (by kernel_rfl) (fun g103 => [(.func 154, .func (.func 154) #[] #[]), (.tmp 44, .slice a98 (List.length ((gt p0.Wet i77).B)) c99)]) _ _ (fun g103 x => (x, g103.2)) rfl rfl (fun _ => ⟨rfl, rfl, trivial⟩) (fun g103 => OT.call (us := [_]) (Pre := []) [.tmp 44] Try.call154 rfl rfl fun w F hs hF hp => slices_Clone_byte_byte_c (hb100.pass hp) h105) (fun _ _ => ⟨⟨rfl, rfl, rfl, rfl, rfl, rfl, rfl, trivial, rfl, trivial⟩, rfl, ⟨rfl, rfl, rfl, rfl, trivial⟩⟩)
        · exact OpOK2.of (fun g103 => [(.tmp 42, .int .i64 ((gt p0.Wet i77).At)), (.tmp 45, .slice g103.1.1 (List.length t104) g103.1.2)]) _ _ (fun g103 _ => g103) rfl rfl (fun _ => ⟨rfl, rfl, trivial⟩) (fun g103 => Pu.toOT (Pu.build (us := [.int .i64 ((gt p0.Wet i77).At), .slice g103.1.1 (List.length t104) g103.1.2]) (cs := [.int .i64 ((gt p0.Wet i77).At), .slice g103.1.1 (List.length t104) g103.1.2]) [(0, .tmp 42), (1, .tmp 45)] st130 rfl rfl rfl)) (fun _ _ => ⟨rfl, rfl, ⟨rfl, rfl, rfl, rfl, trivial⟩⟩)
        · exact OpOK2.of (fun g103 => [(.tmp 46, .agg #[.int .i64 ((gt p0.Wet i77).At), .slice g103.1.1 (List.length t104) g103.1.2])]) _ _ (fun g103 x => (g103.1, x)) rfl rfl (fun _ => ⟨rfl, trivial⟩) (fun g103 => OT.buildO (u := .agg #[.int .i64 ((gt p0.Wet i77).At), .slice g103.1.1 (List.length t104) g103.1.2]) (enc := encTWet) (hl := hlTWet) (sub := fun (x : TWet) => x.B) (.tmp 46) (⟨(gt p0.Wet i77).At, t104⟩ : TWet) sl40.ul sl40.szE sl40.zc rfl rfl rfl rfl) (fun _ _ => ⟨rfl, rfl, ⟨rfl, rfl, rfl, rfl, trivial⟩⟩)
        refine HQ.keep [(2, _), (3, _), (33, _), (34, _), (35, _), (40, _), (47, _)] ⟨rfl, rfl, rfl, rfl, rfl, rfl, rfl, trivial⟩ ?_
        refine HQ.keepR [(2, _), (3, _), (8, _), (19, _), (23, _), (25, _)] ⟨rfl, rfl, rfl, rfl, rfl, rfl, trivial⟩ rfl ?_
        refine HQ.dRun 3 rfl rfl (by kernel_rfl) (by kernel_rfl) ?_
        obtain ⟨h112, H⟩ := asr H
        refine HQ.opD [19, 25] [19] [25] (OT.appendO (K := kTWet) sl40 ul40 h112) ⟨rfl, rfl, trivial⟩ ⟨rfl, rfl, trivial⟩ rfl rfl rfl rfl (fun _ => rfl) fun ⟨a110, c111⟩ => ?_
        refine HQ.pu (Pu.fieldB fo42_1 rfl) ⟨rfl, trivial⟩ rfl rfl rfl ?_
        refine HQ.opN [3] [3] [] (OT.storeC (cs' := [.slice a59 (List.length l58) c60, .slice a110 (List.length (l78 ++ ([(⟨(gt p0.Wet i77).At, t104⟩ : TWet)] : (List TWet)))) c111, .int .i64 p0.Fuse, .bool p0.Dead]) sz40 rfl rfl rfl rfl rfl) ⟨rfl, rfl, trivial⟩ ⟨rfl, trivial⟩ rfl rfl rfl (fun _ => rfl) fun _ => ?_
        refine HQ.done ?_
        refine HQ.dEnd rfl ?_
        refine HQ.keep [(2, _), (3, _), (33, _), (34, _), (35, _)] ⟨rfl, rfl, rfl, rfl, rfl, trivial⟩ ?_
        refine HQ.blkN ?_
        refine HQ.thenN ?_
        refine HQ.regionQ ?_
        refine HQ.pu Pu.add ⟨rfl, rfl, trivial⟩ rfl rfl rfl ?_
        refine HQ.pu Pu.move ⟨rfl, trivial⟩ rfl rfl rfl ?_
        refine HQ.done ?_
        refine HQ.keep [(2, _), (3, _), (33, _), (34, _), (35, _)] ⟨rfl, rfl, rfl, rfl, rfl, trivial⟩ ?_
        obtain rfl := Option.some.inj H
        exact HQ.next (a110, c111) ⟨rfl, rfl, rfl, rfl, rfl, trivial⟩ ⟨rfl, rfl, rfl, rfl, trivial⟩ rfl
      · refine HQ.condF rfl hc ?_
        clear hc
        refine HQ.exit ?_
        refine HQ.thenE ?_
        obtain rfl := Option.some.inj H
        exact HQ.out (a79, c80) ⟨rfl, rfl, rfl, rfl, rfl, trivial⟩ ⟨rfl, rfl, rfl, rfl, trivial⟩ rfl
    · rintro ⟨i114, l115⟩ rfl ⟨a116, c117⟩
      clear h118
      replace H := H
      refine HQ.keep [(2, _), (3, _), (33, _), (34, _), (35, _)] ⟨rfl, rfl, rfl, rfl, rfl, trivial⟩ ?_
      refine HQ.keepR [(2, _), (3, _), (8, _), (19, _)] ⟨rfl, rfl, rfl, rfl, trivial⟩ rfl ?_
      refine HQ.blkE ?_
      refine HQ.thenN ?_
      refine HQ.rseq ?_
      refine HQ.op [3] [3] (OT.loadBA (vs := [.slice a59 (List.length l58) c60, .slice a116 (List.length l115) c117, .int .i64 p0.Fuse, .bool p0.Dead]) ag42 sz42 rfl rfl) ⟨rfl, trivial⟩ ⟨rfl, trivial⟩ rfl rfl rfl rfl (fun _ => rfl) fun _ => ?_
      refine HQ.opN [2] [2] [] (OT.storeC (cs' := [.slice a59 (List.length l58) c60, .slice a116 (List.length l115) c117, .int .i64 p0.Fuse, .bool p0.Dead]) sz42 rfl rfl rfl rfl rfl) ⟨rfl, rfl, trivial⟩ ⟨rfl, trivial⟩ rfl rfl rfl (fun _ => rfl) fun _ => ?_
      refine HQ.done ?_
      refine HQ.keep [(2, _)] ⟨rfl, trivial⟩ ?_
      refine HQ.ret ?_
      obtain rfl := Option.some.inj H
      exact HQ.fin (vs := [_]) Try.results89 ((a59, c60), (a116, c117)) ⟨⟨_, _, 2, rfl, rfl, ag42, sz42, rfl⟩, trivial⟩ rfl [8, 19] ⟨rfl, rfl, trivial⟩ rfl
    · exact fun r h a w hf => hf.elim
  · exact fun r h a w hf => hf.elim

/-! (*impl.Disk).burn -/
theorem impl_Disk_burn_c {w : World} {p0 : TDisk} {β_0 : Nat} {a_0 : Option Addr} {c_0 : Nat} {a_1 : Option Addr} {c_1 : Nat} {F0 : Fp} (hs0 : Sat [Box β_0 [.slice a_0 (List.length p0.Cells) c_0, .slice a_1 (List.length p0.Wet) c_1, .int .i64 p0.Fuse, .bool p0.Dead]] w.heap F0) (hF0 : ∀ b, F0 b → b < w.heap.size)  {r : Bool × TDisk} (H : impl_Disk_burn p0 = some r) :
    Calls Try.prog 90 #[BP β_0 0] w (Rt w F0 (fun _ : Unit => .bool r.1) (fun _ => [Box β_0 [.slice a_0 (List.length p0.Cells) c_0, .slice a_1 (List.length p0.Wet) c_1, .int .i64 r.2.Fuse, .bool r.2.Dead]])) := by
  rw [impl_Disk_burn] at H
  refine Calls.enter (N := 27) (us := [_]) (F0 := F0) (Γ0 := [(1, Box β_0 [.slice a_0 (List.length p0.Cells) c_0, .slice a_1 (List.length p0.Wet) c_1, .int .i64 p0.Fuse, .bool p0.Dead])]) Try.func90 rfl rfl rfl hs0 hF0 ?_
  refine HQ.rseq ?_
  refine HQ.pu Pu.assign ⟨rfl, trivial⟩ rfl rfl rfl ?_
  refine HQ.done ?_
  refine HQ.keep [(0, _), (2, _)] ⟨rfl, rfl, trivial⟩ ?_
  refine HQ.seq ?_
  refine HQ.rseq ?_
  refine HQ.pu Pu.move ⟨rfl, trivial⟩ rfl rfl rfl ?_
  refine HQ.pu Pu.nilCheck ⟨rfl, trivial⟩ rfl rfl rfl ?_
  refine HQ.pu (Pu.fieldB fo42_3 rfl) ⟨rfl, trivial⟩ rfl rfl rfl ?_
  refine HQ.op [1] [1] (OT.loadB sc4 rfl) ⟨rfl, trivial⟩ ⟨rfl, trivial⟩ rfl rfl rfl rfl (fun _ => rfl) fun _ => ?_
  refine HQ.done ?_
  refine HQ.keep [(0, _), (2, _), (6, _)] ⟨rfl, rfl, rfl, trivial⟩ ?_
  rcases brk H with ⟨hc, H⟩ | ⟨hc, H⟩
  · refine HQ.condT rfl hc ?_
    clear hc
    refine HQ.rseq ?_
    refine HQ.pu Pu.assign ⟨rfl, trivial⟩ rfl rfl rfl ?_
    refine HQ.done ?_
    refine HQ.keep [(0, _), (2, _)] ⟨rfl, rfl, trivial⟩ ?_
    refine HQ.ret ?_
    refine HQ.thenR ?_
    obtain rfl := Option.some.inj H
    exact HQ.fin (vs := [_]) Try.results90 () ⟨rfl, trivial⟩ rfl [1] ⟨rfl, trivial⟩ rfl
  · refine HQ.condF rfl hc ?_
    clear hc
    refine HQ.skipThen ?_
    refine HQ.seq ?_
    refine HQ.rseq ?_
    refine HQ.pu Pu.move ⟨rfl, trivial⟩ rfl rfl rfl ?_
    refine HQ.pu Pu.nilCheck ⟨rfl, trivial⟩ rfl rfl rfl ?_
    refine HQ.pu (Pu.fieldB fo42_2 rfl) ⟨rfl, trivial⟩ rfl rfl rfl ?_
    refine HQ.op [1] [1] (OT.loadB sc3 rfl) ⟨rfl, trivial⟩ ⟨rfl, trivial⟩ rfl rfl rfl rfl (fun _ => rfl) fun _ => ?_
    refine HQ.pu Pu.eql ⟨rfl, rfl, trivial⟩ rfl rfl rfl ?_
    refine HQ.done ?_
    refine HQ.keep [(0, _), (2, _), (11, _)] ⟨rfl, rfl, rfl, trivial⟩ ?_
    rcases brk H with ⟨hc, H⟩ | ⟨hc, H⟩
    · refine HQ.condT rfl hc ?_
      clear hc
      refine HQ.rseq ?_
      refine HQ.pu Pu.move ⟨rfl, trivial⟩ rfl rfl rfl ?_
      refine HQ.pu Pu.nilCheck ⟨rfl, trivial⟩ rfl rfl rfl ?_
      refine HQ.pu (Pu.fieldB fo42_3 rfl) ⟨rfl, trivial⟩ rfl rfl rfl ?_
      refine HQ.opN [1] [1] [] (OT.storeC (cs' := [.slice a_0 (List.length p0.Cells) c_0, .slice a_1 (List.length p0.Wet) c_1, .int .i64 p0.Fuse, .bool true]) sz4 rfl rfl rfl rfl rfl) ⟨rfl, rfl, trivial⟩ ⟨rfl, trivial⟩ rfl rfl rfl (fun _ => rfl) fun _ => ?_
      refine HQ.done ?_
      refine HQ.keep [(0, _), (2, _)] ⟨rfl, rfl, trivial⟩ ?_
      refine HQ.rseq ?_
      refine HQ.pu Pu.assign ⟨rfl, trivial⟩ rfl rfl rfl ?_
      refine HQ.done ?_
      refine HQ.keep [(0, _), (2, _)] ⟨rfl, rfl, trivial⟩ ?_
      refine HQ.ret ?_
      refine HQ.thenR ?_
      obtain rfl := Option.some.inj H
      exact HQ.fin (vs := [_]) Try.results90 () ⟨rfl, trivial⟩ rfl [1] ⟨rfl, trivial⟩ rfl
    · refine HQ.condF rfl hc ?_
      clear hc
      refine HQ.skipThen ?_
      refine HQ.seq ?_
      refine HQ.rseq ?_
      refine HQ.pu Pu.move ⟨rfl, trivial⟩ rfl rfl rfl ?_
      refine HQ.pu Pu.nilCheck ⟨rfl, trivial⟩ rfl rfl rfl ?_
      refine HQ.pu (Pu.fieldB fo42_2 rfl) ⟨rfl, trivial⟩ rfl rfl rfl ?_
      refine HQ.op [1] [1] (OT.loadB sc3 rfl) ⟨rfl, trivial⟩ ⟨rfl, trivial⟩ rfl rfl rfl rfl (fun _ => rfl) fun _ => ?_
      refine HQ.pu Pu.gtr ⟨rfl, rfl, trivial⟩ rfl rfl rfl ?_
      refine HQ.done ?_
      refine HQ.keep [(0, _), (2, _), (19, _)] ⟨rfl, rfl, rfl, trivial⟩ ?_
      rcases brk H with ⟨hc, H⟩ | ⟨hc, H⟩
      · refine HQ.condT rfl hc ?_
        clear hc
        refine HQ.region ?_
        refine HQ.pu Pu.move ⟨rfl, trivial⟩ rfl rfl rfl ?_
        refine HQ.pu Pu.nilCheck ⟨rfl, trivial⟩ rfl rfl rfl ?_
        refine HQ.pu (Pu.fieldB fo42_2 rfl) ⟨rfl, trivial⟩ rfl rfl rfl ?_
        refine HQ.op [1] [1] (OT.loadB sc3 rfl) ⟨rfl, trivial⟩ ⟨rfl, trivial⟩ rfl rfl rfl rfl (fun _ => rfl) fun _ => ?_
        refine HQ.pu Pu.sub ⟨rfl, rfl, trivial⟩ rfl rfl rfl ?_
        refine HQ.pu Pu.nilCheck ⟨rfl, trivial⟩ rfl rfl rfl ?_
        refine HQ.pu (Pu.fieldB fo42_2 rfl) ⟨rfl, trivial⟩ rfl rfl rfl ?_
        refine HQ.opN [1] [1] [] (OT.storeC (cs' := [.slice a_0 (List.length p0.Cells) c_0, .slice a_1 (List.length p0.Wet) c_1, .int .i64 (wrap64 (p0.Fuse - 1)), .bool p0.Dead]) sz3 rfl rfl rfl rfl rfl) ⟨rfl, rfl, trivial⟩ ⟨rfl, trivial⟩ rfl rfl rfl (fun _ => rfl) fun _ => ?_
        refine HQ.done ?_
        refine HQ.keep [(2, _)] ⟨rfl, trivial⟩ ?_
        refine HQ.rseq ?_
        refine HQ.pu Pu.assign ⟨rfl, trivial⟩ rfl rfl rfl ?_
        refine HQ.done ?_
        refine HQ.keep [(2, _)] ⟨rfl, trivial⟩ ?_
        refine HQ.ret ?_
        obtain rfl := Option.some.inj H
        exact HQ.fin (vs := [_]) Try.results90 () ⟨rfl, trivial⟩ rfl [1] ⟨rfl, trivial⟩ rfl
      · refine HQ.condF rfl hc ?_
        clear hc
        refine HQ.skipThen ?_
        refine HQ.rseq ?_
        refine HQ.pu Pu.assign ⟨rfl, trivial⟩ rfl rfl rfl ?_
        refine HQ.done ?_
        refine HQ.keep [(2, _)] ⟨rfl, trivial⟩ ?_
        refine HQ.ret ?_
        obtain rfl := Option.some.inj H
        exact HQ.fin (vs := [_]) Try.results90 () ⟨rfl, trivial⟩ rfl [1] ⟨rfl, trivial⟩ rfl

/-! impl.Write -/
theorem impl_Write_c {w : World} {k : Nat} {p0 : TDisk} {p1 : Int} {p2 : (List Int)} {a_0 : Option Addr} {c_0 : Nat} {a_1 : Option Addr} {c_1 : Nat} {a_2 : Option Addr} {c_2 : Nat} (hb_0 : BorS kTCell a_0 c_0 p0.Cells w.heap (Lt w Nil)) (hb_1 : BorS kTWet a_1 c_1 p0.Wet w.heap (Lt w Nil)) (hb_2 : BorS kU8 a_2 c_2 p2 w.heap (Lt w Nil)) {r : TDisk} (H : impl_Write k p0 p1 p2 = some r) :
    Calls Try.prog 28 #[.agg #[.slice a_0 (List.length p0.Cells) c_0, .slice a_1 (List.length p0.Wet) c_1, .int .i64 p0.Fuse, .bool p0.Dead], .int .i64 p1, .slice a_2 (List.length p2) c_2] w (Rt w Nil (fun g : (Option Addr × Nat) × (Option Addr × Nat) => .agg #[.slice g.1.1 (List.length r.Cells) g.1.2, .slice g.2.1 (List.length r.Wet) g.2.2, .int .i64 r.Fuse, .bool r.Dead]) (fun g => [OwnS kTCell g.1.1 g.1.2 r.Cells, OwnS kTWet g.2.1 g.2.2 r.Wet])) := by
  rw [impl_Write] at H
  refine Calls.enter0 (N := 30) (us := [_, _, _]) Try.func28 rfl rfl rfl ?_
  refine HQ.rseq ?_
  refine HQ.op [] [1] (OT.box (cs := [.slice a_0 (List.length p0.Cells) c_0, .slice a_1 (List.length p0.Wet) c_1, .int .i64 p0.Fuse, .bool p0.Dead]) rfl) ⟨rfl, trivial⟩ trivial rfl rfl rfl rfl (fun _ => rfl) fun b1 => ?_
  refine HQ.op [] [2] (OT.alloc zc42) trivial trivial rfl rfl rfl rfl (fun _ => rfl) fun b2 => ?_
  refine HQ.done ?_
  refine HQ.keep [(1, _), (2, _), (3, _), (6, _)] ⟨rfl, rfl, rfl, rfl, trivial⟩ ?_
  refine HQ.rseq ?_
  refine HQ.op [1] [1] (OT.loadBA (vs := [.slice a_0 (List.length p0.Cells) c_0, .slice a_1 (List.length p0.Wet) c_1, .int .i64 p0.Fuse, .bool p0.Dead]) ag42 sz42 rfl rfl) ⟨rfl, trivial⟩ ⟨rfl, trivial⟩ rfl rfl rfl rfl (fun _ => rfl) fun _ => ?_
  obtain ⟨t3, h4, H⟩ := bnd H
  refine HQ.op [] [3, 4] (OT.call (us := [_]) (Pre := []) [.tmp 8] Try.call89 rfl rfl fun w F hs hF hp => impl_copyDisk_c (hb_0.pass hp) (hb_1.pass hp) h4) ⟨rfl, rfl, trivial⟩ trivial rfl rfl rfl rfl (fun _ => rfl) fun ⟨⟨a5, c6⟩, ⟨a7, c8⟩⟩ => ?_
  refine HQ.op [] [5] (OT.alloc zc42) trivial trivial rfl rfl rfl rfl (fun _ => rfl) fun b9 => ?_
  refine HQ.opN [5] [5] [] (OT.storeC (cs' := [.slice a5 (List.length t3.Cells) c6, .slice a7 (List.length t3.Wet) c8, .int .i64 t3.Fuse, .bool t3.Dead]) sz42 rfl rfl rfl rfl rfl) ⟨rfl, rfl, trivial⟩ ⟨rfl, trivial⟩ rfl rfl rfl (fun _ => rfl) fun _ => ?_
  refine HQ.done ?_
  refine HQ.keep [(1, _), (2, _), (6, _), (7, _)] ⟨rfl, rfl, rfl, rfl, trivial⟩ ?_
  refine HQ.seq ?_
  refine HQ.rseq ?_
  obtain ⟨t10, h11, H⟩ := bnd H
  refine HQ.op [5] [5] (OT.callM (us := [_]) (PreX := [Box b9 [.slice a5 (List.length t3.Cells) c6, .slice a7 (List.length t3.Wet) c8, .int .i64 t3.Fuse, .bool t3.Dead]]) (PreL := []) [.tmp 7] Try.call90 rfl rfl fun w FX FL hs1 hF1 hs2 hF2 hp => impl_Disk_burn_c hs1 hF1 h11) ⟨rfl, rfl, trivial⟩ ⟨rfl, trivial⟩ rfl rfl rfl rfl (fun _ => rfl) fun _ => ?_
  refine HQ.pu Pu.move ⟨rfl, trivial⟩ rfl rfl rfl ?_
  obtain ⟨c15, h16, H⟩ := bnd H
  refine HQ.cutAt 3 [(14, .bool c15), (1, .int .i64 p1), (2, .slice a_2 (List.length p2) c_2), (6, BP b2 0), (7, BP b9 0)] [(1, Box b1 [.slice a_0 (List.length p0.Cells) c_0, .slice a_1 (List.length p0.Wet) c_1, .int .i64 p0.Fuse, .bool p0.Dead]), (2, Box b2 [.slice none 0 0, .slice none 0 0, .int .i64 0, .bool false]), (3, OwnS kTCell a5 c6 t3.Cells), (4, OwnS kTWet a7 c8 t3.Wet), (5, Box b9 [.slice a5 (List.length t3.Cells) c6, .slice a7 (List.length t3.Wet) c8, .int .i64 t10.2.Fuse, .bool t10.2.Dead])] ?_ ?_
  · clear H
    have H := h16
    rcases brk H with ⟨hg12, H⟩ | ⟨hg12, H⟩
    · refine HQ.on rfl rfl hg12 ?_
      refine HQ.pu Pu.move ⟨rfl, trivial⟩ rfl rfl rfl ?_
      refine HQ.on rfl rfl hg12 ?_
      obtain ⟨t13, h14, H⟩ := bnd H
      refine HQ.op [] [] (OT.call (us := [_, _, _]) (Pre := []) [.tmp 12, .const (.int .i64 0), .const (.int .i64 113)] Try.call91 rfl rfl fun w F hs hF hp => impl_in_c h14) ⟨rfl, rfl, rfl, rfl, trivial⟩ trivial rfl rfl rfl rfl (fun _ => rfl) fun _ => ?_
      obtain rfl := Option.some.inj H
      refine HQ.pu (Pu.pickC1 hg12) ⟨rfl, rfl, trivial⟩ rfl rfl rfl ?_
      exact HQ.mid ⟨rfl, rfl, rfl, rfl, rfl, trivial⟩ ⟨rfl, rfl, rfl, rfl, rfl, trivial⟩ rfl
    · obtain rfl := Option.some.inj H
      refine HQ.off rfl rfl hg12 rfl ?_
      refine HQ.off rfl rfl hg12 rfl ?_
      refine HQ.pu (Pu.pickC0 hg12) ⟨rfl, rfl, trivial⟩ rfl rfl rfl ?_
      exact HQ.mid ⟨rfl, rfl, rfl, rfl, rfl, trivial⟩ ⟨rfl, rfl, rfl, rfl, rfl, trivial⟩ rfl
  refine HQ.pu Pu.move ⟨rfl, trivial⟩ rfl rfl rfl ?_
  refine HQ.cutAt 4 [(19, .bool (c15 && (decide (((List.length p2 : Nat) : Int) ≤ 32)))), (1, .int .i64 p1), (2, .slice a_2 (List.length p2) c_2), (6, BP b2 0), (7, BP b9 0)] [(1, Box b1 [.slice a_0 (List.length p0.Cells) c_0, .slice a_1 (List.length p0.Wet) c_1, .int .i64 p0.Fuse, .bool p0.Dead]), (2, Box b2 [.slice none 0 0, .slice none 0 0, .int .i64 0, .bool false]), (3, OwnS kTCell a5 c6 t3.Cells), (4, OwnS kTWet a7 c8 t3.Wet), (5, Box b9 [.slice a5 (List.length t3.Cells) c6, .slice a7 (List.length t3.Wet) c8, .int .i64 t10.2.Fuse, .bool t10.2.Dead])] ?_ ?_
  · rcases Bool.eq_false_or_eq_true c15 with hg17 | hg17
    · refine HQ.on rfl rfl hg17 ?_
      refine HQ.pu Pu.move ⟨rfl, trivial⟩ rfl rfl rfl ?_
      refine HQ.on rfl rfl hg17 ?_
      refine HQ.pu (Pu.len ul37) ⟨rfl, trivial⟩ rfl rfl rfl ?_
      refine HQ.on rfl rfl hg17 ?_
      refine HQ.pu Pu.leq ⟨rfl, rfl, trivial⟩ rfl rfl rfl ?_
      refine HQ.pu (Pu.pickAT hg17) ⟨rfl, rfl, trivial⟩ rfl rfl rfl ?_
      exact HQ.mid ⟨rfl, rfl, rfl, rfl, rfl, trivial⟩ ⟨rfl, rfl, rfl, rfl, rfl, trivial⟩ rfl
    · refine HQ.off rfl rfl hg17 rfl ?_
      refine HQ.off rfl rfl hg17 rfl ?_
      refine HQ.off rfl rfl hg17 rfl ?_
      refine HQ.pu (Pu.pickAF (u := (decide (((List.length p2 : Nat) : Int) ≤ 32))) hg17) ⟨rfl, rfl, trivial⟩ rfl rfl rfl ?_
      exact HQ.mid ⟨rfl, rfl, rfl, rfl, rfl, trivial⟩ ⟨rfl, rfl, rfl, rfl, rfl, trivial⟩ rfl
  refine HQ.done ?_
  refine HQ.keep [(19, _), (1, _), (2, _), (6, _), (7, _)] ⟨rfl, rfl, rfl, rfl, rfl, trivial⟩ ?_
  rcases brk H with ⟨hc, H⟩ | ⟨hc, H⟩
  · refine HQ.condT rfl hc ?_
    clear hc
    refine HQ.dStart mixd ?_
    obtain ⟨t19, h20, H⟩ := bnd H
    refine HQ.dPart [(1, .int .i64 p1), (2, .slice a_2 (List.length p2) c_2), (6, BP b2 0), (7, BP b9 0)] 7 [⟨[], [], []⟩, ⟨[0], [0], [0]⟩, ⟨[], [], []⟩, ⟨[], [], []⟩, ⟨[], [1], [3]⟩, ⟨[], [], [2, 4]⟩, ⟨[1], [2], [5]⟩] [⟨none, none⟩, ⟨some 4, some 6⟩, ⟨some 6, none⟩] (fun (g18 : (Option Addr × Nat) × (Option Addr × Nat)) => [BP b9 1, .slice a7 (List.length t3.Wet) c8, .int .i64 p1, .slice a_2 (List.length p2) c_2, .slice g18.1.1 (List.length t19) g18.1.2, .agg #[.int .i64 p1, .slice g18.1.1 (List.length t19) g18.1.2], .slice g18.2.1 (List.length ([(⟨p1, t19⟩ : TWet)] : (List TWet))) g18.2.2]) (fun (g18 : (Option Addr × Nat) × (Option Addr × Nat)) => [Box b9 [.slice a5 (List.length t3.Cells) c6, .slice a7 (List.length t3.Wet) c8, .int .i64 t10.2.Fuse, .bool t10.2.Dead], OwnS kU8 g18.1.1 g18.1.2 t19, OwnS kTWet g18.2.1 g18.2.2 ([(⟨p1, t19⟩ : TWet)] : (List TWet))]) ((none, 0), (none, 0)) [5] [5, 7] [] ⟨rfl, rfl, rfl, rfl, trivial⟩ ⟨rfl, trivial⟩ rfl (by kernel_rfl) (by kernel_rfl) (fun _ => rfl) (by kernel_rfl) (fun _ => rfl) rfl ⟨?_, ?_, ?_, ?_, ?_, ?_, ?_, trivial⟩ fun g18 => ?_
    · exact OpOK2.of (fun g18 => [(.tmp 7, BP b9 0)]) _ _ (fun g18 _ => g18) rfl rfl (fun _ => ⟨rfl, trivial⟩) (fun g18 => Pu.toOT (Pu.fieldB fo42_1 rfl)) (fun _ _ => ⟨rfl, rfl, ⟨rfl, rfl, rfl, trivial⟩⟩)
    · exact OpOK2.of (fun g18 => [(.tmp 20, BP b9 1)]) _ _ (fun g18 _ => g18) rfl rfl (fun _ => ⟨rfl, trivial⟩) (fun g18 => OT.loadB sc40 rfl) (fun _ _ => ⟨rfl, rfl, ⟨rfl, rfl, rfl, trivial⟩⟩)
    · exact OpOK2.of (fun g18 => [(.tmp 1, .int .i64 p1)]) _ _ (fun g18 _ => g18) rfl rfl (fun _ => ⟨rfl, trivial⟩) (fun g18 => Pu.toOT Pu.move) (fun _ _ => ⟨rfl, rfl, ⟨rfl, rfl, rfl, trivial⟩⟩)
    · exact OpOK2.of (fun g18 => [(.tmp 2, .slice a_2 (List.length p2) c_2)]) _ _ (fun g18 _ => g18) rfl rfl (fun _ => ⟨rfl, trivial⟩) (fun g18 => Pu.toOT Pu.move) (fun _ _ => ⟨rfl, rfl, ⟨rfl, rfl, rfl, trivial⟩⟩)
    · exact OpOK2.ofD [5] (by kernel_rfl) (fun g18 => [(.func 92, .func (.func 92) #[] #[]), (.tmp 23, .slice a_2 (List.length p2) c_2), (.const (.int .i64 32), .int .i64 32)]) _ _ (fun g18 x => (x, g18.2)) rfl rfl (fun _ => ⟨rfl, rfl, rfl, trivial⟩) (fun g18 => OT.call (us := [_, _]) (Pre := []) [.tmp 23, .const (.int .i64 32)] Try.call92 rfl rfl fun w F hs hF hp => impl_Pad_c (hb_2.pass hp) h20) (fun _ _ => ⟨⟨rfl, rfl, rfl, rfl, rfl, trivial, rfl, trivial⟩, rfl, ⟨rfl, rfl, rfl, trivial⟩⟩)
    · exact OpOK2.of (fun g18 => [(.tmp 22, .int .i64 p1), (.tmp 24, .slice g18.1.1 (List.length t19) g18.1.2)]) _ _ (fun g18 _ => g18) rfl rfl (fun _ => ⟨rfl, rfl, trivial⟩) (fun g18 => Pu.toOT (Pu.build (us := [.int .i64 p1, .slice g18.1.1 (List.length t19) g18.1.2]) (cs := [.int .i64 p1, .slice g18.1.1 (List.length t19) g18.1.2]) [(0, .tmp 22), (1, .tmp 24)] st130 rfl rfl rfl)) (fun _ _ => ⟨rfl, rfl, ⟨rfl, rfl, rfl, trivial⟩⟩)
    · exact OpOK2.of (fun g18 => [(.tmp 25, .agg #[.int .i64 p1, .slice g18.1.1 (List.length t19) g18.1.2])]) _ _ (fun g18 x => (g18.1, x)) rfl rfl (fun _ => ⟨rfl, trivial⟩) (fun g18 => OT.buildO (u := .agg #[.int .i64 p1, .slice g18.1.1 (List.length t19) g18.1.2]) (enc := encTWet) (hl := hlTWet) (sub := fun (x : TWet) => x.B) (.tmp 25) (⟨p1, t19⟩ : TWet) sl40.ul sl40.szE sl40.zc rfl rfl rfl rfl) (fun _ _ => ⟨rfl, rfl, ⟨rfl, rfl, rfl, trivial⟩⟩)
    refine HQ.keep [(6, _), (7, _), (21, _), (26, _)] ⟨rfl, rfl, rfl, rfl, trivial⟩ ?_
    refine HQ.keepR [(1, _), (2, _), (3, _), (4, _), (5, _), (7, _)] ⟨rfl, rfl, rfl, rfl, rfl, rfl, trivial⟩ rfl ?_
    refine HQ.dRun 3 rfl rfl (by kernel_rfl) (by kernel_rfl) ?_
    obtain ⟨h27, H⟩ := asr H
    refine HQ.opD [4, 7] [4] [7] (OT.appendO (K := kTWet) sl40 ul40 h27) ⟨rfl, rfl, trivial⟩ ⟨rfl, rfl, trivial⟩ rfl rfl rfl rfl (fun _ => rfl) fun ⟨a25, c26⟩ => ?_
    refine HQ.pu (Pu.fieldB fo42_1 rfl) ⟨rfl, trivial⟩ rfl rfl rfl ?_
    refine HQ.opN [5] [5] [] (OT.storeC (cs' := [.slice a5 (List.length t3.Cells) c6, .slice a25 (List.length (t3.Wet ++ ([(⟨p1, t19⟩ : TWet)] : (List TWet)))) c26, .int .i64 t10.2.Fuse, .bool t10.2.Dead]) sz40 rfl rfl rfl rfl rfl) ⟨rfl, rfl, trivial⟩ ⟨rfl, trivial⟩ rfl rfl rfl (fun _ => rfl) fun _ => ?_
    refine HQ.done ?_
    refine HQ.dEnd rfl ?_
    refine HQ.thenN ?_
    refine HQ.keep [(6, _), (7, _)] ⟨rfl, rfl, trivial⟩ ?_
    refine HQ.rseq ?_
    refine HQ.op [5] [5] (OT.loadBA (vs := [.slice a5 (List.length t3.Cells) c6, .slice a25 (List.length (t3.Wet ++ ([(⟨p1, t19⟩ : TWet)] : (List TWet)))) c26, .int .i64 t10.2.Fuse, .bool t10.2.Dead]) ag42 sz42 rfl rfl) ⟨rfl, trivial⟩ ⟨rfl, trivial⟩ rfl rfl rfl rfl (fun _ => rfl) fun _ => ?_
    refine HQ.opN [2] [2] [] (OT.storeC (cs' := [.slice a5 (List.length t3.Cells) c6, .slice a25 (List.length (t3.Wet ++ ([(⟨p1, t19⟩ : TWet)] : (List TWet)))) c26, .int .i64 t10.2.Fuse, .bool t10.2.Dead]) sz42 rfl rfl rfl rfl rfl) ⟨rfl, rfl, trivial⟩ ⟨rfl, trivial⟩ rfl rfl rfl (fun _ => rfl) fun _ => ?_
    refine HQ.done ?_
    refine HQ.keep [(6, _)] ⟨rfl, trivial⟩ ?_
    refine HQ.ret ?_
    obtain rfl := Option.some.inj H
    exact HQ.fin (vs := [_]) Try.results28 ((a5, c6), (a25, c26)) ⟨⟨_, _, 2, rfl, rfl, ag42, sz42, rfl⟩, trivial⟩ rfl [3, 4] ⟨rfl, rfl, trivial⟩ rfl
  · refine HQ.condF rfl hc ?_
    clear hc
    refine HQ.skipThen ?_
    refine HQ.rseq ?_
    refine HQ.op [5] [5] (OT.loadBA (vs := [.slice a5 (List.length t3.Cells) c6, .slice a7 (List.length t3.Wet) c8, .int .i64 t10.2.Fuse, .bool t10.2.Dead]) ag42 sz42 rfl rfl) ⟨rfl, trivial⟩ ⟨rfl, trivial⟩ rfl rfl rfl rfl (fun _ => rfl) fun _ => ?_
    refine HQ.opN [2] [2] [] (OT.storeC (cs' := [.slice a5 (List.length t3.Cells) c6, .slice a7 (List.length t3.Wet) c8, .int .i64 t10.2.Fuse, .bool t10.2.Dead]) sz42 rfl rfl rfl rfl rfl) ⟨rfl, rfl, trivial⟩ ⟨rfl, trivial⟩ rfl rfl rfl (fun _ => rfl) fun _ => ?_
    refine HQ.done ?_
    refine HQ.keep [(6, _)] ⟨rfl, trivial⟩ ?_
    refine HQ.ret ?_
    obtain rfl := Option.some.inj H
    exact HQ.fin (vs := [_]) Try.results28 ((a5, c6), (a7, c8)) ⟨⟨_, _, 2, rfl, rfl, ag42, sz42, rfl⟩, trivial⟩ rfl [3, 4] ⟨rfl, rfl, trivial⟩ rfl

/-! impl.Append -/
theorem impl_Append_c {w : World} {k : Nat} {p0 : TDisk} {p1 : Int} {p2 : Int} {p3 : TTx} {a_0 : Option Addr} {c_0 : Nat} {a_1 : Option Addr} {c_1 : Nat} {a_2 : Option Addr} {c_2 : Nat} (hb_0 : BorS kTCell a_0 c_0 p0.Cells w.heap (Lt w Nil)) (hb_1 : BorS kTWet a_1 c_1 p0.Wet w.heap (Lt w Nil)) (hb_2 : BorS kTChange a_2 c_2 p3.Puts w.heap (Lt w Nil)) {r : TDisk × Int} (H : impl_Append k p0 p1 p2 p3 = some r) :
    Calls Try.prog 74 #[.agg #[.slice a_0 (List.length p0.Cells) c_0, .slice a_1 (List.length p0.Wet) c_1, .int .i64 p0.Fuse, .bool p0.Dead], .int .i64 p1, .int .i64 p2, .agg #[.int .i64 p3.Seq, .int .i64 p3.Root, .int .i64 p3.Size, .slice a_2 (List.length p3.Puts) c_2]] w (Rt w Nil (fun g : (Option Addr × Nat) × (Option Addr × Nat) => .tuple #[.agg #[.slice g.1.1 (List.length r.1.Cells) g.1.2, .slice g.2.1 (List.length r.1.Wet) g.2.2, .int .i64 r.1.Fuse, .bool r.1.Dead], .int .i64 r.2]) (fun g => [OwnS kTCell g.1.1 g.1.2 r.1.Cells, OwnS kTWet g.2.1 g.2.2 r.1.Wet])) := by
  rw [impl_Append] at H
  refine Calls.enter0 (N := 54) (us := [_, _, _, _]) Try.func74 rfl rfl rfl ?_
  refine HQ.rseq ?_
  refine HQ.op [] [1] (OT.box (cs := [.slice a_0 (List.length p0.Cells) c_0, .slice a_1 (List.length p0.Wet) c_1, .int .i64 p0.Fuse, .bool p0.Dead]) rfl) ⟨rfl, trivial⟩ trivial rfl rfl rfl rfl (fun _ => rfl) fun b1 => ?_
  refine HQ.op [] [2] (OT.box (cs := [.int .i64 p3.Seq, .int .i64 p3.Root, .int .i64 p3.Size, .slice a_2 (List.length p3.Puts) c_2]) rfl) ⟨rfl, trivial⟩ trivial rfl rfl rfl rfl (fun _ => rfl) fun b2 => ?_
  refine HQ.op [] [3] (OT.alloc zc42) trivial trivial rfl rfl rfl rfl (fun _ => rfl) fun b3 => ?_
  refine HQ.pu Pu.assign ⟨rfl, trivial⟩ rfl rfl rfl ?_
  refine HQ.done ?_
  refine HQ.keep [(1, _), (2, _), (4, _), (7, _), (8, _), (9, _)] ⟨rfl, rfl, rfl, rfl, rfl, rfl, trivial⟩ ?_
  refine HQ.rseq ?_
  refine HQ.pu Pu.move ⟨rfl, trivial⟩ rfl rfl rfl ?_
  refine HQ.op [2] [2] (OT.loadBA (vs := [.int .i64 p3.Seq, .int .i64 p3.Root, .int .i64 p3.Size, .slice a_2 (List.length p3.Puts) c_2]) ag60 sz60 rfl rfl) ⟨rfl, trivial⟩ ⟨rfl, trivial⟩ rfl rfl rfl rfl (fun _ => rfl) fun _ => ?_
  obtain ⟨t4, h5, H⟩ := bnd H
  refine HQ.op [] [4] (OT.call (us := [_, _]) (Pre := []) [.tmp 14, .tmp 15] Try.call69 rfl rfl fun w F hs hF hp => impl_TxCells_c (hb_2.pass hp) h5) ⟨rfl, rfl, rfl, trivial⟩ trivial rfl rfl rfl rfl (fun _ => rfl) fun ⟨a6, c7⟩ => ?_
  refine HQ.pu Pu.assign ⟨rfl, trivial⟩ rfl rfl rfl ?_
  refine HQ.done ?_
  refine HQ.keep [(1, _), (4, _), (8, _), (9, _), (10, _)] ⟨rfl, rfl, rfl, rfl, rfl, trivial⟩ ?_
  refine HQ.rseq ?_
  refine HQ.op [1] [1] (OT.loadBA (vs := [.slice a_0 (List.length p0.Cells) c_0, .slice a_1 (List.length p0.Wet) c_1, .int .i64 p0.Fuse, .bool p0.Dead]) ag42 sz42 rfl rfl) ⟨rfl, trivial⟩ ⟨rfl, trivial⟩ rfl rfl rfl rfl (fun _ => rfl) fun _ => ?_
  obtain ⟨t8, h9, H⟩ := bnd H
  refine HQ.op [] [5, 6] (OT.call (us := [_]) (Pre := []) [.tmp 17] Try.call89 rfl rfl fun w F hs hF hp => impl_copyDisk_c (hb_0.pass hp) (hb_1.pass hp) h9) ⟨rfl, rfl, trivial⟩ trivial rfl rfl rfl rfl (fun _ => rfl) fun ⟨⟨a10, c11⟩, ⟨a12, c13⟩⟩ => ?_
  refine HQ.op [] [7] (OT.alloc zc42) trivial trivial rfl rfl rfl rfl (fun _ => rfl) fun b14 => ?_
  refine HQ.opN [7] [7] [] (OT.storeC (cs' := [.slice a10 (List.length t8.Cells) c11, .slice a12 (List.length t8.Wet) c13, .int .i64 t8.Fuse, .bool t8.Dead]) sz42 rfl rfl rfl rfl rfl) ⟨rfl, rfl, trivial⟩ ⟨rfl, trivial⟩ rfl rfl rfl (fun _ => rfl) fun _ => ?_
  refine HQ.done ?_
  refine HQ.keep [(1, _), (8, _), (9, _), (10, _), (11, _)] ⟨rfl, rfl, rfl, rfl, rfl, trivial⟩ ?_
  refine HQ.seq ?_
  refine HQ.rseq ?_
  refine HQ.pu Pu.move ⟨rfl, trivial⟩ rfl rfl rfl ?_
  refine HQ.pu (Pu.len ul110) ⟨rfl, trivial⟩ rfl rfl rfl ?_
  refine HQ.pu Pu.eql ⟨rfl, rfl, trivial⟩ rfl rfl rfl ?_
  refine HQ.pu Pu.move ⟨rfl, trivial⟩ rfl rfl rfl ?_
  refine HQ.cutAt 3 [(25, .bool ((decide (((List.length t4 : Nat) : Int) = 0)) || (decide (p1 < 0)))), (1, .int .i64 p1), (8, BP b3 0), (9, .int .i64 0), (10, .slice a6 (List.length t4) c7), (11, BP b14 0)] [(1, Box b1 [.slice a_0 (List.length p0.Cells) c_0, .slice a_1 (List.length p0.Wet) c_1, .int .i64 p0.Fuse, .bool p0.Dead]), (2, Box b2 [.int .i64 p3.Seq, .int .i64 p3.Root, .int .i64 p3.Size, .slice a_2 (List.length p3.Puts) c_2]), (3, Box b3 [.slice none 0 0, .slice none 0 0, .int .i64 0, .bool false]), (4, OwnS (kS kU8) a6 c7 t4), (5, OwnS kTCell a10 c11 t8.Cells), (6, OwnS kTWet a12 c13 t8.Wet), (7, Box b14 [.slice a10 (List.length t8.Cells) c11, .slice a12 (List.length t8.Wet) c13, .int .i64 t8.Fuse, .bool t8.Dead])] ?_ ?_
  · rcases Bool.eq_false_or_eq_true (decide (((List.length t4 : Nat) : Int) = 0)) with hg15 | hg15
    · refine HQ.off rfl rfl hg15 rfl ?_
      refine HQ.off rfl rfl hg15 rfl ?_
      refine HQ.pu (Pu.pickOT (u := (decide (p1 < 0))) hg15) ⟨rfl, rfl, trivial⟩ rfl rfl rfl ?_
      exact HQ.mid ⟨rfl, rfl, rfl, rfl, rfl, rfl, trivial⟩ ⟨rfl, rfl, rfl, rfl, rfl, rfl, rfl, trivial⟩ rfl
    · refine HQ.on rfl rfl hg15 ?_
      refine HQ.pu Pu.move ⟨rfl, trivial⟩ rfl rfl rfl ?_
      refine HQ.on rfl rfl hg15 ?_
      refine HQ.pu Pu.lss ⟨rfl, rfl, trivial⟩ rfl rfl rfl ?_
      refine HQ.pu (Pu.pickOF hg15) ⟨rfl, rfl, trivial⟩ rfl rfl rfl ?_
      exact HQ.mid ⟨rfl, rfl, rfl, rfl, rfl, rfl, trivial⟩ ⟨rfl, rfl, rfl, rfl, rfl, rfl, rfl, trivial⟩ rfl
  refine HQ.pu Pu.move ⟨rfl, trivial⟩ rfl rfl rfl ?_
  refine HQ.cutAt 6 [(32, .bool (((decide (((List.length t4 : Nat) : Int) = 0)) || (decide (p1 < 0))) || (decide (p1 > (wrap64 (64 - ((List.length t4 : Nat) : Int))))))), (1, .int .i64 p1), (8, BP b3 0), (9, .int .i64 0), (10, .slice a6 (List.length t4) c7), (11, BP b14 0)] [(1, Box b1 [.slice a_0 (List.length p0.Cells) c_0, .slice a_1 (List.length p0.Wet) c_1, .int .i64 p0.Fuse, .bool p0.Dead]), (2, Box b2 [.int .i64 p3.Seq, .int .i64 p3.Root, .int .i64 p3.Size, .slice a_2 (List.length p3.Puts) c_2]), (3, Box b3 [.slice none 0 0, .slice none 0 0, .int .i64 0, .bool false]), (4, OwnS (kS kU8) a6 c7 t4), (5, OwnS kTCell a10 c11 t8.Cells), (6, OwnS kTWet a12 c13 t8.Wet), (7, Box b14 [.slice a10 (List.length t8.Cells) c11, .slice a12 (List.length t8.Wet) c13, .int .i64 t8.Fuse, .bool t8.Dead])] ?_ ?_
  · rcases Bool.eq_false_or_eq_true ((decide (((List.length t4 : Nat) : Int) = 0)) || (decide (p1 < 0))) with hg16 | hg16
    · refine HQ.off rfl rfl hg16 rfl ?_
      refine HQ.off rfl rfl hg16 rfl ?_
      refine HQ.off rfl rfl hg16 rfl ?_
      refine HQ.off rfl rfl hg16 rfl ?_
      refine HQ.off rfl rfl hg16 rfl ?_
      refine HQ.pu (Pu.pickOT (u := (decide (p1 > (wrap64 (64 - ((List.length t4 : Nat) : Int)))))) hg16) ⟨rfl, rfl, trivial⟩ rfl rfl rfl ?_
      exact HQ.mid ⟨rfl, rfl, rfl, rfl, rfl, rfl, trivial⟩ ⟨rfl, rfl, rfl, rfl, rfl, rfl, rfl, trivial⟩ rfl
    · refine HQ.on rfl rfl hg16 ?_
      refine HQ.pu Pu.move ⟨rfl, trivial⟩ rfl rfl rfl ?_
      refine HQ.on rfl rfl hg16 ?_
      refine HQ.pu Pu.move ⟨rfl, trivial⟩ rfl rfl rfl ?_
      refine HQ.on rfl rfl hg16 ?_
      refine HQ.pu (Pu.len ul110) ⟨rfl, trivial⟩ rfl rfl rfl ?_
      refine HQ.on rfl rfl hg16 ?_
      refine HQ.pu Pu.sub ⟨rfl, rfl, trivial⟩ rfl rfl rfl ?_
      refine HQ.on rfl rfl hg16 ?_
      refine HQ.pu Pu.gtr ⟨rfl, rfl, trivial⟩ rfl rfl rfl ?_
      refine HQ.pu (Pu.pickOF hg16) ⟨rfl, rfl, trivial⟩ rfl rfl rfl ?_
      exact HQ.mid ⟨rfl, rfl, rfl, rfl, rfl, rfl, trivial⟩ ⟨rfl, rfl, rfl, rfl, rfl, rfl, rfl, trivial⟩ rfl
  refine HQ.done ?_
  refine HQ.keep [(32, _), (1, _), (8, _), (9, _), (10, _), (11, _)] ⟨rfl, rfl, rfl, rfl, rfl, rfl, trivial⟩ ?_
  rcases brk H with ⟨hc, H⟩ | ⟨hc, H⟩
  · refine HQ.condT rfl hc ?_
    clear hc
    refine HQ.rseq ?_
    refine HQ.op [7] [7] (OT.loadBA (vs := [.slice a10 (List.length t8.Cells) c11, .slice a12 (List.length t8.Wet) c13, .int .i64 t8.Fuse, .bool t8.Dead]) ag42 sz42 rfl rfl) ⟨rfl, trivial⟩ ⟨rfl, trivial⟩ rfl rfl rfl rfl (fun _ => rfl) fun _ => ?_
    refine HQ.opN [3] [3] [] (OT.storeC (cs' := [.slice a10 (List.length t8.Cells) c11, .slice a12 (List.length t8.Wet) c13, .int .i64 t8.Fuse, .bool t8.Dead]) sz42 rfl rfl rfl rfl rfl) ⟨rfl, rfl, trivial⟩ ⟨rfl, trivial⟩ rfl rfl rfl (fun _ => rfl) fun _ => ?_
    refine HQ.pu Pu.assign ⟨rfl, trivial⟩ rfl rfl rfl ?_
    refine HQ.done ?_
    refine HQ.keep [(1, _), (8, _), (9, _), (10, _), (11, _)] ⟨rfl, rfl, rfl, rfl, rfl, trivial⟩ ?_
    refine HQ.ret ?_
    refine HQ.thenR ?_
    obtain rfl := Option.some.inj H
    exact HQ.fin (vs := [_, _]) Try.results74 ((a10, c11), (a12, c13)) ⟨⟨_, _, 3, rfl, rfl, ag42, sz42, rfl⟩, rfl, trivial⟩ rfl [5, 6] ⟨rfl, rfl, trivial⟩ rfl
  · refine HQ.condF rfl hc ?_
    clear hc
    refine HQ.skipThen ?_
    refine HQ.seq ?_
    refine HQ.rseq ?_
    refine HQ.pu Pu.move ⟨rfl, trivial⟩ rfl rfl rfl ?_
    refine HQ.pu (Pu.len ul110) ⟨rfl, trivial⟩ rfl rfl rfl ?_
    refine HQ.pu Pu.move ⟨rfl, trivial⟩ rfl rfl rfl ?_
    refine HQ.done ?_
    refine HQ.keep [(1, _), (8, _), (9, _), (10, _), (11, _), (34, _), (35, _), (36, _)] ⟨rfl, rfl, rfl, rfl, rfl, rfl, rfl, rfl, trivial⟩ ?_
    refine HQ.block ?_
    obtain ⟨o53, h63, H⟩ := bnd H
    refine HQ.loop h63 0 (fun (s : Int × (List TCell) × (List TWet) × Int × Bool) (g : (Option Addr × Nat) × (Option Addr × Nat)) => match s, g with | (i26, l27, l30, i33, q34), ((a28, c29), (a31, c32)) => [(1, .int .i64 p1), (8, BP b3 0), (9, .int .i64 0), (10, .slice a6 (List.length t4) c7), (11, BP b14 0), (34, .slice a6 (List.length t4) c7), (35, .int .i64 ((List.length t4 : Nat) : Int)), (36, .int .i64 i26)]) (fun (s : Int × (List TCell) × (List TWet) × Int × Bool) (g : (Option Addr × Nat) × (Option Addr × Nat)) => match s, g with | (i26, l27, l30, i33, q34), ((a28, c29), (a31, c32)) => [(3, Box b3 [.slice none 0 0, .slice none 0 0, .int .i64 0, .bool false]), (7, Box b14 [.slice a28 (List.length l27) c29, .slice a31 (List.length l30) c32, .int .i64 i33, .bool q34]), (4, OwnS (kS kU8) a6 c7 t4), (5, OwnS kTCell a28 c29 l27), (6, OwnS kTWet a31 c32 l30)]) (fun _ _ _ => False) ((a10, c11), (a12, c13)) ⟨rfl, rfl, rfl, rfl, rfl, rfl, rfl, rfl, trivial⟩ ⟨rfl, rfl, rfl, rfl, rfl, trivial⟩ rfl ?_ ?_ ?_
    · clear H h63
      rintro ⟨i26, l27, l30, i33, q34⟩ ⟨⟨a28, c29⟩, ⟨a31, c32⟩⟩ o H
      rw [impl_Append_b0] at H
      refine HQ.keep [(1, _), (8, _), (9, _), (10, _), (11, _), (34, _), (35, _), (36, _)] ⟨rfl, rfl, rfl, rfl, rfl, rfl, rfl, rfl, trivial⟩ ?_
      refine HQ.keepR [(3, _), (7, _), (4, _), (5, _), (6, _)] ⟨rfl, rfl, rfl, rfl, rfl, trivial⟩ rfl ?_
      refine HQ.rseq ?_
      refine HQ.pu Pu.lss ⟨rfl, rfl, trivial⟩ rfl rfl rfl ?_
      refine HQ.done ?_
      refine HQ.keep [(1, _), (8, _), (9, _), (10, _), (11, _), (34, _), (35, _), (36, _), (37, _)] ⟨rfl, rfl, rfl, rfl, rfl, rfl, rfl, rfl, rfl, trivial⟩ ?_
      refine HQ.seq ?_
      rcases brk H with ⟨hc, H⟩ | ⟨hc, H⟩
      · refine HQ.condT rfl hc ?_
        clear hc
        refine HQ.skipThen ?_
        refine HQ.seq ?_
        refine HQ.block ?_
        refine HQ.rseq ?_
        refine HQ.pu Pu.move ⟨rfl, trivial⟩ rfl rfl rfl ?_
        obtain ⟨h44, H⟩ := asr H
        refine HQ.op [4] [4] (OT.indexO ul110 sz37 h44) ⟨rfl, rfl, trivial⟩ ⟨rfl, trivial⟩ rfl rfl rfl rfl (fun _ => rfl) fun _ => ?_
        refine HQ.op [4] [4, 14] (OT.focus (v := fun a45 c46 => .slice a45 (List.length (gt t4 i26)) c46) (fun _ ys => ys) sc37 h44 (fun _ _ => rfl) (fun _ _ _ => rfl) (fun _ _ => rfl)) ⟨rfl, trivial⟩ ⟨rfl, trivial⟩ rfl rfl rfl rfl (fun _ => rfl) fun ⟨a45, c46⟩ => ?_
        refine HQ.pu Pu.assign ⟨rfl, trivial⟩ rfl rfl rfl ?_
        refine HQ.pu Pu.assign ⟨rfl, trivial⟩ rfl rfl rfl ?_
        refine HQ.done ?_
        refine HQ.keep [(1, _), (8, _), (9, _), (10, _), (11, _), (34, _), (35, _), (36, _), (12, _), (13, _)] ⟨rfl, rfl, rfl, rfl, rfl, rfl, rfl, rfl, rfl, rfl, trivial⟩ ?_
        refine HQ.regionQ ?_
        refine HQ.op [7] [7] (OT.loadBA (vs := [.slice a28 (List.length l27) c29, .slice a31 (List.length l30) c32, .int .i64 i33, .bool q34]) ag42 sz42 rfl rfl) ⟨rfl, trivial⟩ ⟨rfl, trivial⟩ rfl rfl rfl rfl (fun _ => rfl) fun _ => ?_
        refine HQ.pu Pu.move ⟨rfl, trivial⟩ rfl rfl rfl ?_
        refine HQ.pu Pu.add ⟨rfl, rfl, trivial⟩ rfl rfl rfl ?_
        refine HQ.pu Pu.move ⟨rfl, trivial⟩ rfl rfl rfl ?_
        refine HQ.pu Pu.add ⟨rfl, rfl, trivial⟩ rfl rfl rfl ?_
        refine HQ.pu Pu.move ⟨rfl, trivial⟩ rfl rfl rfl ?_
        obtain ⟨t47, h48, H⟩ := bnd H
        refine HQ.op [5, 6, 14] [15, 16, 5, 6, 14] (OT.call (us := [_, _, _]) (Pre := [OwnS kTCell a28 c29 l27, OwnS kTWet a31 c32 l30, OwnS kU8 a45 c46 (gt t4 i26)]) [.tmp 41, .tmp 45, .tmp 46] Try.call28 rfl rfl fun w F hs hF hp => impl_Write_c (hs.lend hF 0 rfl) (hs.lend hF 1 rfl) (hs.lend hF 2 rfl) h48) ⟨rfl, rfl, rfl, rfl, trivial⟩ ⟨rfl, rfl, rfl, trivial⟩ rfl rfl rfl rfl (fun _ => rfl) fun ⟨⟨a49, c50⟩, ⟨a51, c52⟩⟩ => ?_
        refine HQ.opN [7] [7] [] (OT.storeC (cs' := [.slice a49 (List.length t47.Cells) c50, .slice a51 (List.length t47.Wet) c52, .int .i64 t47.Fuse, .bool t47.Dead]) sz42 rfl rfl rfl rfl rfl) ⟨rfl, rfl, trivial⟩ ⟨rfl, trivial⟩ rfl rfl rfl (fun _ => rfl) fun _ => ?_
        refine HQ.done ?_
        refine HQ.keep [(1, _), (8, _), (9, _), (10, _), (11, _), (34, _), (35, _), (36, _)] ⟨rfl, rfl, rfl, rfl, rfl, rfl, rfl, rfl, trivial⟩ ?_
        refine HQ.blkN ?_
        refine HQ.thenN ?_
        refine HQ.regionQ ?_
        refine HQ.pu Pu.add ⟨rfl, rfl, trivial⟩ rfl rfl rfl ?_
        refine HQ.pu Pu.move ⟨rfl, trivial⟩ rfl rfl rfl ?_
        refine HQ.done ?_
        refine HQ.keep [(1, _), (8, _), (9, _), (10, _), (11, _), (34, _), (35, _), (36, _)] ⟨rfl, rfl, rfl, rfl, rfl, rfl, rfl, rfl, trivial⟩ ?_
        refine HQ.unfocus (xs' := t4) 4 14 rfl rfl rfl rfl (set_put rfl h44) ?_
        refine HQ.mv 5 15 rfl rfl ?_
        refine HQ.mv 6 16 rfl rfl ?_
        obtain rfl := Option.some.inj H
        exact HQ.next ((a49, c50), (a51, c52)) ⟨rfl, rfl, rfl, rfl, rfl, rfl, rfl, rfl, trivial⟩ ⟨rfl, rfl, rfl, rfl, rfl, trivial⟩ rfl
      · refine HQ.condF rfl hc ?_
        clear hc
        refine HQ.exit ?_
        refine HQ.thenE ?_
        obtain rfl := Option.some.inj H
        exact HQ.out ((a28, c29), (a31, c32)) ⟨rfl, rfl, rfl, rfl, rfl, rfl, rfl, rfl, trivial⟩ ⟨rfl, rfl, rfl, rfl, rfl, trivial⟩ rfl
    · rintro ⟨i54, l55, l58, i61, q62⟩ rfl ⟨⟨a56, c57⟩, ⟨a59, c60⟩⟩
      clear h63
      replace H := H
      refine HQ.keep [(1, _), (8, _), (9, _), (10, _), (11, _), (34, _), (35, _), (36, _)] ⟨rfl, rfl, rfl, rfl, rfl, rfl, rfl, rfl, trivial⟩ ?_
      refine HQ.keepR [(3, _), (7, _), (4, _), (5, _), (6, _)] ⟨rfl, rfl, rfl, rfl, rfl, trivial⟩ rfl ?_
      refine HQ.blkE ?_
      refine HQ.thenN ?_
      refine HQ.rseq ?_
      refine HQ.op [7] [7] (OT.loadBA (vs := [.slice a56 (List.length l55) c57, .slice a59 (List.length l58) c60, .int .i64 i61, .bool q62]) ag42 sz42 rfl rfl) ⟨rfl, trivial⟩ ⟨rfl, trivial⟩ rfl rfl rfl rfl (fun _ => rfl) fun _ => ?_
      refine HQ.pu Pu.move ⟨rfl, trivial⟩ rfl rfl rfl ?_
      refine HQ.pu Pu.move ⟨rfl, trivial⟩ rfl rfl rfl ?_
      refine HQ.pu (Pu.len ul110) ⟨rfl, trivial⟩ rfl rfl rfl ?_
      refine HQ.pu Pu.add ⟨rfl, rfl, trivial⟩ rfl rfl rfl ?_
      refine HQ.opN [3] [3] [] (OT.storeC (cs' := [.slice a56 (List.length l55) c57, .slice a59 (List.length l58) c60, .int .i64 i61, .bool q62]) sz42 rfl rfl rfl rfl rfl) ⟨rfl, rfl, trivial⟩ ⟨rfl, trivial⟩ rfl rfl rfl (fun _ => rfl) fun _ => ?_
      refine HQ.pu Pu.assign ⟨rfl, trivial⟩ rfl rfl rfl ?_
      refine HQ.done ?_
      refine HQ.keep [(8, _), (9, _)] ⟨rfl, rfl, trivial⟩ ?_
      refine HQ.ret ?_
      obtain rfl := Option.some.inj H
      exact HQ.fin (vs := [_, _]) Try.results74 ((a56, c57), (a59, c60)) ⟨⟨_, _, 3, rfl, rfl, ag42, sz42, rfl⟩, rfl, trivial⟩ rfl [5, 6] ⟨rfl, rfl, trivial⟩ rfl
    · exact fun r h a w hf => hf.elim

end Go.Proofs.Sx
