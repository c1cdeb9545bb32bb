import Derived.Test.YtkhommmhkeohbaaQcF4
import Derived.KernelRfl
namespace Go.Proofs.Sx
open Go.RowKit
set_option linter.unusedVariables false
set_option linter.unusedSimpArgs false
set_option maxRecDepth 20000
set_option maxHeartbeats 1000000
/-! spec.Flush -/
theorem spec_Flush_c {w : World} {k : Nat} {p0 : TDisk} {a_0 : Option Addr} {c_0 : Nat} {a_1 : Option Addr} {c_1 : Nat} (hb_0 : BorS kTCell a_0 c_0 p0.Cells w.heap (Lt w Nil)) (hb_1 : BorS kTWet a_1 c_1 p0.Wet w.heap (Lt w Nil)) {r : TDisk} (H : spec_Flush k p0 = some r) :
    Calls Try.prog 21 #[.agg #[.slice a_0 (List.length p0.Cells) c_0, .slice a_1 (List.length p0.Wet) c_1, .int .i64 p0.Fuse, .bool p0.Dead]] w (Rt w Nil (fun g : (Option Addr × Nat) × (Option Addr × Nat) => .agg #[.slice g.1.1 (List.length r.Cells) g.1.2, .slice g.2.1 (List.length r.Wet) g.2.2, .int .i64 r.Fuse, .bool r.Dead]) (fun g => [OwnS kTCell g.1.1 g.1.2 r.Cells, OwnS kTWet g.2.1 g.2.2 r.Wet])) := by
  rw [spec_Flush] at H
  refine Calls.enter0 (N := 42) (us := [_]) Try.func21 rfl rfl rfl ?_
  refine HQ.rseq ?_
  refine HQ.op [] [1] (OT.box (cs := [.slice a_0 (List.length p0.Cells) c_0, .slice a_1 (List.length p0.Wet) c_1, .int .i64 p0.Fuse, .bool p0.Dead]) rfl) ⟨rfl, trivial⟩ trivial rfl rfl rfl rfl (fun _ => rfl) fun b1 => ?_
  refine HQ.op [] [2] (OT.alloc zc27) trivial trivial rfl rfl rfl rfl (fun _ => rfl) fun b2 => ?_
  refine HQ.done ?_
  refine HQ.keep [(1, _), (2, _)] ⟨rfl, rfl, trivial⟩ ?_
  refine HQ.rseq ?_
  refine HQ.op [1] [1] (OT.loadBA (vs := [.slice a_0 (List.length p0.Cells) c_0, .slice a_1 (List.length p0.Wet) c_1, .int .i64 p0.Fuse, .bool p0.Dead]) ag27 sz27 rfl rfl) ⟨rfl, trivial⟩ ⟨rfl, trivial⟩ rfl rfl rfl rfl (fun _ => rfl) fun _ => ?_
  obtain ⟨t3, h4, H⟩ := bnd H
  refine HQ.op [] [3, 4] (OT.call (us := [_]) (Pre := []) [.tmp 6] Try.call90 rfl rfl fun w F hs hF hp => spec_l18Copy_c (hb_0.pass hp) (hb_1.pass hp) h4) ⟨rfl, rfl, trivial⟩ trivial rfl rfl rfl rfl (fun _ => rfl) fun ⟨⟨a5, c6⟩, ⟨a7, c8⟩⟩ => ?_
  refine HQ.op [] [5] (OT.alloc zc27) trivial trivial rfl rfl rfl rfl (fun _ => rfl) fun b9 => ?_
  refine HQ.opN [5] [5] [] (OT.storeC (cs' := [.slice a5 (List.length t3.Cells) c6, .slice a7 (List.length t3.Wet) c8, .int .i64 t3.Fuse, .bool t3.Dead]) sz27 rfl rfl rfl rfl rfl) ⟨rfl, rfl, trivial⟩ ⟨rfl, trivial⟩ rfl rfl rfl (fun _ => rfl) fun _ => ?_
  refine HQ.done ?_
  refine HQ.keep [(2, _), (3, _)] ⟨rfl, rfl, trivial⟩ ?_
  refine HQ.seq ?_
  refine HQ.rseq ?_
  obtain ⟨t10, h11, H⟩ := bnd H
  refine HQ.op [5] [5] (OT.callM (us := [_]) (PreX := [Box b9 [.slice a5 (List.length t3.Cells) c6, .slice a7 (List.length t3.Wet) c8, .int .i64 t3.Fuse, .bool t3.Dead]]) (PreL := []) [.tmp 3] Try.call91 rfl rfl fun w FX FL hs1 hF1 hs2 hF2 hp => spec_l18Burn_c (p0 := t3) hs1 hF1 h11) ⟨rfl, rfl, trivial⟩ ⟨rfl, trivial⟩ rfl rfl rfl rfl (fun _ => rfl) fun _ => ?_
  refine HQ.pu Pu.not ⟨rfl, trivial⟩ rfl rfl rfl ?_
  refine HQ.done ?_
  refine HQ.keep [(2, _), (3, _), (9, _)] ⟨rfl, rfl, rfl, trivial⟩ ?_
  rcases brk H with ⟨hc, H⟩ | ⟨hc, H⟩
  · refine HQ.condT rfl hc ?_
    clear hc
    refine HQ.rseq ?_
    refine HQ.op [5] [5] (OT.loadBA (vs := [.slice a5 (List.length t3.Cells) c6, .slice a7 (List.length t3.Wet) c8, .int .i64 t10.2.Fuse, .bool t10.2.Dead]) ag27 sz27 rfl rfl) ⟨rfl, trivial⟩ ⟨rfl, trivial⟩ rfl rfl rfl rfl (fun _ => rfl) fun _ => ?_
    refine HQ.opN [2] [2] [] (OT.storeC (cs' := [.slice a5 (List.length t3.Cells) c6, .slice a7 (List.length t3.Wet) c8, .int .i64 t10.2.Fuse, .bool t10.2.Dead]) sz27 rfl rfl rfl rfl rfl) ⟨rfl, rfl, trivial⟩ ⟨rfl, trivial⟩ rfl rfl rfl (fun _ => rfl) fun _ => ?_
    refine HQ.done ?_
    refine HQ.keep [(2, _), (3, _)] ⟨rfl, rfl, trivial⟩ ?_
    refine HQ.ret ?_
    refine HQ.thenR ?_
    obtain rfl := Option.some.inj H
    exact HQ.fin (vs := [_]) Try.results21 ((a5, c6), (a7, c8)) ⟨⟨_, _, 2, rfl, rfl, ag27, sz27, rfl⟩, trivial⟩ rfl [3, 4] ⟨rfl, rfl, trivial⟩ rfl
  · refine HQ.condF rfl hc ?_
    clear hc
    refine HQ.skipThen ?_
    refine HQ.seq ?_
    refine HQ.rseq ?_
    refine HQ.pu Pu.assign ⟨rfl, trivial⟩ rfl rfl rfl ?_
    refine HQ.done ?_
    refine HQ.keep [(2, _), (3, _), (4, _)] ⟨rfl, rfl, rfl, trivial⟩ ?_
    refine HQ.block ?_
    refine HQ.toRob 4 rfl ?_
    obtain ⟨o70, h80, H⟩ := bnd H
    refine HQ.loop h80 0 (fun (s : Int × (List TCell) × Int × Bool × Int) (g : Option Addr × Nat) => match s, g with | (i29, l30, i33, q34, i35), (a31, c32) => [(2, BP b2 0), (3, BP b9 0), (4, .int .i64 i29)]) (fun (s : Int × (List TCell) × Int × Bool × Int) (g : Option Addr × Nat) => match s, g with | (i29, l30, i33, q34, i35), (a31, c32) => [(2, Box b2 [.slice none 0 0, .slice none 0 0, .int .i64 0, .bool false]), (5, Box b9 [.slice a31 (List.length l30) c32, .slice a7 (List.length t3.Wet) c8, .int .i64 i33, .bool q34]), (3, OwnS kTCell a31 c32 l30), (4, RobS 2 encTWet hlTWet kU8 (fun x => x.B) a7 c8 t3.Wet i35)]) (fun _ _ _ => False) (a5, c6) ⟨rfl, rfl, rfl, trivial⟩ ⟨rfl, rfl, rfl, rfl, trivial⟩ rfl ?_ ?_ ?_
    · clear H h80
      rintro ⟨i29, l30, i33, q34, i35⟩ ⟨a31, c32⟩ o H
      rw [spec_Flush_b0] at H
      refine HQ.keep [(2, _), (3, _), (4, _)] ⟨rfl, rfl, rfl, trivial⟩ ?_
      refine HQ.keepR [(2, _), (5, _), (3, _), (4, _)] ⟨rfl, rfl, rfl, rfl, trivial⟩ rfl ?_
      refine HQ.seq ?_
      refine HQ.rseq ?_
      refine HQ.pu Pu.move ⟨rfl, trivial⟩ rfl rfl rfl ?_
      refine HQ.pu (Pu.fieldB fo27_1 rfl) ⟨rfl, trivial⟩ rfl rfl rfl ?_
      refine HQ.op [5] [5] (OT.loadB sc25 rfl) ⟨rfl, trivial⟩ ⟨rfl, trivial⟩ rfl rfl rfl rfl (fun _ => rfl) fun _ => ?_
      refine HQ.pu (Pu.len ul25) ⟨rfl, trivial⟩ rfl rfl rfl ?_
      refine HQ.pu Pu.lss ⟨rfl, rfl, trivial⟩ rfl rfl rfl ?_
      refine HQ.done ?_
      refine HQ.keep [(2, _), (3, _), (4, _), (15, _)] ⟨rfl, rfl, rfl, rfl, trivial⟩ ?_
      rcases brk H with ⟨hc, H⟩ | ⟨hc, H⟩
      · refine HQ.condT rfl hc ?_
        clear hc
        refine HQ.skipThen ?_
        refine HQ.seq ?_
        refine HQ.block ?_
        refine HQ.rseq ?_
        refine HQ.pu (Pu.fieldB fo27_1 rfl) ⟨rfl, trivial⟩ rfl rfl rfl ?_
        refine HQ.op [5] [5] (OT.loadB sc25 rfl) ⟨rfl, trivial⟩ ⟨rfl, trivial⟩ rfl rfl rfl rfl (fun _ => rfl) fun _ => ?_
        refine HQ.pu Pu.move ⟨rfl, trivial⟩ rfl rfl rfl ?_
        obtain ⟨h53, H⟩ := asr H
        refine HQ.op [4] [4] (OT.indexR ul25 sz110 h53) ⟨rfl, rfl, trivial⟩ ⟨rfl, trivial⟩ rfl rfl rfl rfl (fun _ => rfl) fun _ => ?_
        refine HQ.pu (Pu.fieldE fo110_0 rfl) ⟨rfl, trivial⟩ rfl rfl rfl ?_
        obtain ⟨h54, H⟩ := asr H
        refine HQ.op [4] [4] (OT.loadR sc3 h53 h54 (fun _ => rfl)) ⟨rfl, trivial⟩ ⟨rfl, trivial⟩ rfl rfl rfl rfl (fun _ => rfl) fun _ => ?_
        refine HQ.pu Pu.assign ⟨rfl, trivial⟩ rfl rfl rfl ?_
        refine HQ.done ?_
        refine HQ.keep [(2, _), (3, _), (4, _), (5, _)] ⟨rfl, rfl, rfl, rfl, trivial⟩ ?_
        refine HQ.rseq ?_
        refine HQ.pu Pu.move ⟨rfl, trivial⟩ rfl rfl rfl ?_
        obtain ⟨t55, h56, H⟩ := bnd H
        refine HQ.op [] [] (OT.call (us := [_, _, _]) (Pre := []) [.tmp 24, .const (.int .i64 0), .const (.int .i64 113)] Try.call89 rfl rfl fun w F hs hF hp => spec_l1In_c h56) ⟨rfl, rfl, rfl, rfl, trivial⟩ trivial rfl rfl rfl rfl (fun _ => rfl) fun _ => ?_
        refine HQ.done ?_
        refine HQ.keep [(2, _), (3, _), (4, _), (5, _), (25, _)] ⟨rfl, rfl, rfl, rfl, rfl, trivial⟩ ?_
        rcases brk H with ⟨hc, H⟩ | ⟨hc, H⟩
        · refine HQ.condT rfl hc ?_
          clear hc
          refine HQ.rseq ?_
          refine HQ.pu Pu.move ⟨rfl, trivial⟩ rfl rfl rfl ?_
          obtain ⟨t57, h58, H⟩ := bnd H
          refine HQ.opD [5, 3] [5, 10] [3] (OT.callM (us := [_, _]) (PreX := [Box b9 [.slice a31 (List.length l30) c32, .slice a7 (List.length t3.Wet) c8, .int .i64 i33, .bool q34], OwnS kTCell a31 c32 l30]) (PreL := []) [.tmp 3, .tmp 26] Try.call93 rfl rfl fun w FX FL hs1 hF1 hs2 hF2 hp => spec_l18Room_c (p0 := (⟨l30, t3.Wet, i33, q34⟩ : TDisk)) (p1 := (gt t3.Wet i29).At) hs1 hF1 h58) ⟨rfl, rfl, rfl, trivial⟩ ⟨rfl, rfl, trivial⟩ rfl rfl rfl rfl (fun _ => rfl) fun ⟨a59, c60⟩ => ?_
          refine HQ.done ?_
          refine HQ.keep [(2, _), (3, _), (4, _), (5, _)] ⟨rfl, rfl, rfl, rfl, trivial⟩ ?_
          refine HQ.dStart mixd ?_
          obtain ⟨h62, H⟩ := asr H
          obtain ⟨h63, H⟩ := asr H
          refine HQ.dPart [(2, BP b2 0), (3, BP b9 0), (4, .int .i64 i29), (5, .int .i64 ((gt t3.Wet i29).At))] 10 [⟨[], [], []⟩, ⟨[0], [0], [0]⟩, ⟨[], [], []⟩, ⟨[], [], []⟩, ⟨[0], [0], [3]⟩, ⟨[], [], []⟩, ⟨[1], [1], [4, 5]⟩, ⟨[], [], [6]⟩, ⟨[1], [2, 3], [7]⟩, ⟨[], [], [8]⟩] [⟨none, none⟩, ⟨none, some 8⟩, ⟨some 8, none⟩, ⟨some 8, none⟩] (fun (g61 : (Option Addr × Nat)) => [BP b9 0, .slice a59 (List.length t57.Cells) c60, .int .i64 ((gt t3.Wet i29).At), BP b9 1, .slice a7 (List.length t3.Wet) c8, .int .i64 i29, EP a7 i29 2 0, EP a7 i29 2 1, .slice g61.1 (List.length ((gt t3.Wet i29).B)) g61.2, .agg #[.bool false, .slice g61.1 (List.length ((gt t3.Wet i29).B)) g61.2]]) (fun (g61 : (Option Addr × Nat)) => [Box b9 [.slice a59 (List.length t57.Cells) c60, .slice a7 (List.length t3.Wet) c8, .int .i64 t57.Fuse, .bool t57.Dead], RobS 2 encTWet hlTWet kU8 (fun x => x.B) a7 c8 t3.Wet i35, RobS 2 encTWet hlTWet kU8 (fun x => x.B) a7 c8 t3.Wet (i29 + 1), OwnS kU8 g61.1 g61.2 ((gt t3.Wet i29).B)]) (none, 0) [5, 4] [5, 4, 11] [] ⟨rfl, rfl, rfl, rfl, trivial⟩ ⟨rfl, rfl, trivial⟩ rfl (by kernel_rfl) (by kernel_rfl) (fun _ => rfl) (by kernel_rfl) (fun _ => rfl) rfl ⟨?_, ?_, ?_, ?_, ?_, ?_, ?_, ?_, ?_, ?_, trivial⟩ fun g61 => ?_
          · exact OpOK2.of (fun g61 => [(.tmp 3, BP b9 0)]) _ _ (fun g61 _ => g61) rfl rfl (fun _ => ⟨rfl, trivial⟩) (fun g61 => Pu.toOT (Pu.fieldB fo27_0 rfl)) (fun _ _ => ⟨rfl, rfl, ⟨rfl, rfl, rfl, rfl, trivial⟩⟩)
          · exact OpOK2.of (fun g61 => [(.tmp 28, BP b9 0)]) _ _ (fun g61 _ => g61) rfl rfl (fun _ => ⟨rfl, trivial⟩) (fun g61 => OT.loadB sc24 rfl) (fun _ _ => ⟨rfl, rfl, ⟨rfl, rfl, rfl, rfl, trivial⟩⟩)
          · exact OpOK2.of (fun g61 => [(.tmp 5, .int .i64 ((gt t3.Wet i29).At))]) _ _ (fun g61 _ => g61) rfl rfl (fun _ => ⟨rfl, trivial⟩) (fun g61 => Pu.toOT Pu.move) (fun _ _ => ⟨rfl, rfl, ⟨rfl, rfl, rfl, rfl, trivial⟩⟩)
          · exact OpOK2.of (fun g61 => [(.tmp 3, BP b9 0)]) _ _ (fun g61 _ => g61) rfl rfl (fun _ => ⟨rfl, trivial⟩) (fun g61 => Pu.toOT (Pu.fieldB fo27_1 rfl)) (fun _ _ => ⟨rfl, rfl, ⟨rfl, rfl, rfl, rfl, trivial⟩⟩)
          · exact OpOK2.of (fun g61 => [(.tmp 31, BP b9 1)]) _ _ (fun g61 _ => g61) rfl rfl (fun _ => ⟨rfl, trivial⟩) (fun g61 => OT.loadB sc25 rfl) (fun _ _ => ⟨rfl, rfl, ⟨rfl, rfl, rfl, rfl, trivial⟩⟩)
          · exact OpOK2.of (fun g61 => [(.tmp 4, .int .i64 i29)]) _ _ (fun g61 _ => g61) rfl rfl (fun _ => ⟨rfl, trivial⟩) (fun g61 => Pu.toOT Pu.move) (fun _ _ => ⟨rfl, rfl, ⟨rfl, rfl, rfl, rfl, trivial⟩⟩)
          · exact OpOK2.of (fun g61 => [(.tmp 32, .slice a7 (List.length t3.Wet) c8), (.tmp 33, .int .i64 i29)]) _ _ (fun g61 _ => g61) rfl rfl (fun _ => ⟨rfl, rfl, trivial⟩) (fun g61 => OT.indexR ul25 sz110 h62) (fun _ _ => ⟨rfl, rfl, ⟨rfl, rfl, rfl, rfl, trivial⟩⟩)
          · exact OpOK2.of (fun g61 => [(.tmp 34, EP a7 i29 2 0)]) _ _ (fun g61 _ => g61) rfl rfl (fun _ => ⟨rfl, trivial⟩) (fun g61 => Pu.toOT (Pu.fieldE fo110_1 rfl)) (fun _ _ => ⟨rfl, rfl, ⟨rfl, rfl, rfl, rfl, trivial⟩⟩)
          · exact OpOK2.ofD [9] (by kernel_rfl) (fun g61 => [(.tmp 35, EP a7 i29 2 1)]) _ _ (fun g61 x => x) rfl rfl (fun _ => ⟨rfl, trivial⟩) (fun g61 => OT.rob (v := fun pa pc => .slice pa (List.length ((gt t3.Wet i29).B)) pc) sc22 h62 h63 (fun _ _ => rfl)) (fun _ _ => ⟨⟨rfl, rfl, rfl, rfl, rfl, rfl, rfl, rfl, rfl, trivial, trivial⟩, rfl, ⟨rfl, rfl, rfl, rfl, trivial⟩⟩)
          · exact OpOK2.of (fun g61 => [(.tmp 36, .slice g61.1 (List.length ((gt t3.Wet i29).B)) g61.2)]) _ _ (fun g61 _ => g61) rfl rfl (fun _ => ⟨rfl, trivial⟩) (fun g61 => Pu.toOT (Pu.build (us := [.slice g61.1 (List.length ((gt t3.Wet i29).B)) g61.2]) (cs := [.bool false, .slice g61.1 (List.length ((gt t3.Wet i29).B)) g61.2]) [(1, .tmp 36)] st113 rfl rfl rfl)) (fun _ _ => ⟨rfl, rfl, ⟨rfl, rfl, rfl, rfl, trivial⟩⟩)
          refine HQ.keep [(2, _), (3, _), (4, _), (29, _), (30, _), (37, _)] ⟨rfl, rfl, rfl, rfl, rfl, rfl, trivial⟩ ?_
          refine HQ.keepR [(2, _), (5, _), (4, _), (10, _), (11, _)] ⟨rfl, rfl, rfl, rfl, rfl, trivial⟩ rfl ?_
          refine HQ.dRun 2 rfl rfl (by kernel_rfl) (by kernel_rfl) ?_
          obtain ⟨h66, H⟩ := asr H
          refine HQ.op [10] [10] (OT.indexO ul24 sz113 h66) ⟨rfl, rfl, trivial⟩ ⟨rfl, trivial⟩ rfl rfl rfl rfl (fun _ => rfl) fun _ => ?_
          refine HQ.opN [10, 11] [10] [11] (OT.storeW (⟨false, (gt t3.Wet i29).B⟩ : TCell) sz113 rfl rfl rfl h66 rfl (fun _ => rfl) rfl) ⟨rfl, rfl, trivial⟩ ⟨rfl, rfl, trivial⟩ rfl rfl rfl (fun _ => rfl) fun _ => ?_
          obtain ⟨l67, h68, H⟩ := bnd H
          replace h68 := Option.some.inj h68
          refine HQ.reR (B := OwnS kTCell a59 c60 l67) 10 rfl (by intro _ _ hb; rw [← h68]; exact hb) ?_
          have h69 : List.length l67 = List.length t57.Cells := by rw [← h68, List.length_set]
          refine HQ.re (v' := .slice a59 (List.length l67) c60) 29 rfl (by simp [h69]) ?_
          refine HQ.reR (B := Box b9 [.slice a59 (List.length l67) c60, .slice a7 (List.length t3.Wet) c8, .int .i64 t57.Fuse, .bool t57.Dead]) 5 rfl (fun _ _ hb => by rw [show List.length l67 = List.length t57.Cells from (by simp [h69])]; exact hb) ?_
          refine HQ.done ?_
          refine HQ.dEnd rfl ?_
          refine HQ.keep [(2, _), (3, _), (4, _)] ⟨rfl, rfl, rfl, trivial⟩ ?_
          refine HQ.blkN ?_
          refine HQ.thenN ?_
          refine HQ.regionQ ?_
          refine HQ.pu Pu.move ⟨rfl, trivial⟩ rfl rfl rfl ?_
          refine HQ.pu Pu.add ⟨rfl, rfl, trivial⟩ rfl rfl rfl ?_
          refine HQ.pu Pu.assign ⟨rfl, trivial⟩ rfl rfl rfl ?_
          refine HQ.done ?_
          refine HQ.keep [(2, _), (3, _), (4, _)] ⟨rfl, rfl, rfl, trivial⟩ ?_
          refine HQ.mv 3 10 rfl rfl ?_
          obtain rfl := Option.some.inj H
          exact HQ.next (a59, c60) ⟨rfl, rfl, rfl, trivial⟩ ⟨rfl, rfl, rfl, rfl, trivial⟩ rfl
        · refine HQ.condF rfl hc ?_
          clear hc
          refine HQ.skip ?_
          refine HQ.blkN ?_
          refine HQ.thenN ?_
          refine HQ.regionQ ?_
          refine HQ.pu Pu.move ⟨rfl, trivial⟩ rfl rfl rfl ?_
          refine HQ.pu Pu.add ⟨rfl, rfl, trivial⟩ rfl rfl rfl ?_
          refine HQ.pu Pu.assign ⟨rfl, trivial⟩ rfl rfl rfl ?_
          refine HQ.done ?_
          refine HQ.keep [(2, _), (3, _), (4, _)] ⟨rfl, rfl, rfl, trivial⟩ ?_
          obtain rfl := Option.some.inj H
          exact HQ.next (a31, c32) ⟨rfl, rfl, rfl, trivial⟩ ⟨rfl, rfl, rfl, rfl, trivial⟩ rfl
      · refine HQ.condF rfl hc ?_
        clear hc
        refine HQ.exit ?_
        refine HQ.thenE ?_
        obtain rfl := Option.some.inj H
        exact HQ.out (a31, c32) ⟨rfl, rfl, rfl, trivial⟩ ⟨rfl, rfl, rfl, rfl, trivial⟩ rfl
    · rintro ⟨i71, l72, i75, q76, i77⟩ rfl ⟨a73, c74⟩
      clear h80
      replace H := H
      refine HQ.keep [(2, _), (3, _), (4, _)] ⟨rfl, rfl, rfl, trivial⟩ ?_
      refine HQ.keepR [(2, _), (5, _), (3, _), (4, _)] ⟨rfl, rfl, rfl, rfl, trivial⟩ rfl ?_
      refine HQ.blkE ?_
      refine HQ.thenN ?_
      refine HQ.rseq ?_
      refine HQ.op [] [12] (OT.buildE (K := kTWet) sl25.ul sl25.szE sl25.zc rfl rfl) trivial trivial rfl rfl rfl rfl (fun _ => rfl) fun ⟨a78, c79⟩ => ?_
      refine HQ.pu (Pu.fieldB fo27_1 rfl) ⟨rfl, trivial⟩ rfl rfl rfl ?_
      refine HQ.opN [5] [5] [] (OT.storeC (cs' := [.slice a73 (List.length l72) c74, .slice a78 (List.length ([] : (List TWet))) c79, .int .i64 i75, .bool q76]) sz25 rfl rfl rfl rfl rfl) ⟨rfl, rfl, trivial⟩ ⟨rfl, trivial⟩ rfl rfl rfl (fun _ => rfl) fun _ => ?_
      refine HQ.done ?_
      refine HQ.keep [(2, _), (3, _)] ⟨rfl, rfl, trivial⟩ ?_
      refine HQ.rseq ?_
      refine HQ.op [5] [5] (OT.loadBA (vs := [.slice a73 (List.length l72) c74, .slice a78 (List.length ([] : (List TWet))) c79, .int .i64 i75, .bool q76]) ag27 sz27 rfl rfl) ⟨rfl, trivial⟩ ⟨rfl, trivial⟩ rfl rfl rfl rfl (fun _ => rfl) fun _ => ?_
      refine HQ.opN [2] [2] [] (OT.storeC (cs' := [.slice a73 (List.length l72) c74, .slice a78 (List.length ([] : (List TWet))) c79, .int .i64 i75, .bool q76]) sz27 rfl rfl rfl rfl rfl) ⟨rfl, rfl, trivial⟩ ⟨rfl, trivial⟩ rfl rfl rfl (fun _ => rfl) fun _ => ?_
      refine HQ.done ?_
      refine HQ.keep [(2, _)] ⟨rfl, trivial⟩ ?_
      refine HQ.ret ?_
      obtain rfl := Option.some.inj H
      exact HQ.fin (vs := [_]) Try.results21 ((a73, c74), (a78, c79)) ⟨⟨_, _, 2, rfl, rfl, ag27, sz27, rfl⟩, trivial⟩ rfl [3, 12] ⟨rfl, rfl, trivial⟩ rfl
    · exact fun r h a w hf => hf.elim

/-! spec.l18How -/
theorem spec_l18How_c {w : World} {k : Nat} {p0 : TCur} {p1 : Int} {β_0 : Nat} {a_0 : Option Addr} {c_0 : Nat} {F0 : Fp} (hs0 : Sat [Box β_0 [.slice a_0 (List.length p0.b) c_0, .int .i64 p0.i, .int .i64 p0.h]] w.heap F0) (hF0 : ∀ b, F0 b → b < w.heap.size) (hb_0 : BorS kU8 a_0 c_0 p0.b w.heap (Lt w F0)) {r : (List Int) × TCur} (H : spec_l18How k p0 p1 = some r) :
    Calls Try.prog 85 #[BP β_0 0, .int .i64 p1] w (Rt w F0 (fun g : Option Addr × Nat => .slice g.1 (List.length r.1) g.2) (fun g => [OwnS kI g.1 g.2 r.1, Box β_0 [.slice a_0 (List.length p0.b) c_0, .int .i64 r.2.i, .int .i64 r.2.h]])) := by
  rw [spec_l18How] at H
  refine Calls.enter (N := 22) (us := [_, _]) (F0 := F0) (Γ0 := [(1, Box β_0 [.slice a_0 (List.length p0.b) c_0, .int .i64 p0.i, .int .i64 p0.h])]) Try.func85 rfl rfl rfl hs0 hF0 ?_
  refine HQ.rseq ?_
  refine HQ.pu Pu.assign ⟨rfl, trivial⟩ rfl rfl rfl ?_
  refine HQ.done ?_
  refine HQ.keep [(0, _), (1, _), (4, _)] ⟨rfl, rfl, rfl, trivial⟩ ?_
  refine HQ.rseq ?_
  refine HQ.op [] [2] (OT.buildF (us := []) (ys := ([] : (List Int))) (enc := (encI .i64)) (hl := fun _ => ⟨rfl, rfl⟩) [] sl33.ul sl33.szE sl33.zc rfl rfl rfl rfl rfl) trivial trivial rfl rfl rfl rfl (fun _ => rfl) fun ⟨a1, c2⟩ => ?_
  refine HQ.pu Pu.assign ⟨rfl, trivial⟩ rfl rfl rfl ?_
  refine HQ.done ?_
  refine HQ.keep [(0, _), (1, _), (4, _), (5, _)] ⟨rfl, rfl, rfl, rfl, trivial⟩ ?_
  refine HQ.seq ?_
  refine HQ.rseq ?_
  refine HQ.pu Pu.move ⟨rfl, trivial⟩ rfl rfl rfl ?_
  refine HQ.pu Pu.move ⟨rfl, trivial⟩ rfl rfl rfl ?_
  obtain ⟨t3, h4, H⟩ := bnd H
  refine HQ.op [1] [1] (OT.callM (us := [_, _]) (PreX := [Box β_0 [.slice a_0 (List.length p0.b) c_0, .int .i64 p0.i, .int .i64 p0.h]]) (PreL := []) [.tmp 8, .tmp 9] Try.call86 rfl rfl fun w FX FL hs1 hF1 hs2 hF2 hp => spec_l1Below_c (p0 := p0) (p1 := p1) hs1 hF1 (hb_0.passY hp) h4) ⟨rfl, rfl, rfl, trivial⟩ ⟨rfl, trivial⟩ rfl rfl rfl rfl (fun _ => rfl) fun _ => ?_
  refine HQ.pu Pu.assign ⟨rfl, trivial⟩ rfl rfl rfl ?_
  refine HQ.done ?_
  refine HQ.keep [(0, _), (4, _), (5, _), (6, _)] ⟨rfl, rfl, rfl, rfl, trivial⟩ ?_
  refine HQ.block ?_
  obtain ⟨o38, h45, H⟩ := bnd H
  refine HQ.loop h45 0 (fun (s : (List Int) × Int × Int × Int) (g : Option Addr × Nat) => match s, g with | (l14, i17, i18, i19), (a15, c16) => [(0, BP β_0 0), (4, .slice none 0 0), (5, .slice a15 (List.length l14) c16), (6, .int .i64 i17)]) (fun (s : (List Int) × Int × Int × Int) (g : Option Addr × Nat) => match s, g with | (l14, i17, i18, i19), (a15, c16) => [(1, Box β_0 [.slice a_0 (List.length p0.b) c_0, .int .i64 i18, .int .i64 i19]), (2, OwnS kI a15 c16 l14)]) (fun _ _ _ => False) (a1, c2) ⟨rfl, rfl, rfl, rfl, trivial⟩ ⟨rfl, rfl, trivial⟩ rfl ?_ ?_ ?_
  · clear H h45
    rintro ⟨l14, i17, i18, i19⟩ ⟨a15, c16⟩ o H
    rw [spec_l18How_b0] at H
    refine HQ.keep [(0, _), (4, _), (5, _), (6, _)] ⟨rfl, rfl, rfl, rfl, trivial⟩ ?_
    refine HQ.keepR [(1, _), (2, _)] ⟨rfl, rfl, trivial⟩ rfl ?_
    refine HQ.seq ?_
    refine HQ.rseq ?_
    refine HQ.pu Pu.move ⟨rfl, trivial⟩ rfl rfl rfl ?_
    refine HQ.pu Pu.gtr ⟨rfl, rfl, trivial⟩ rfl rfl rfl ?_
    refine HQ.done ?_
    refine HQ.keep [(0, _), (4, _), (5, _), (6, _), (12, _)] ⟨rfl, rfl, rfl, rfl, rfl, trivial⟩ ?_
    rcases brk H with ⟨hc, H⟩ | ⟨hc, H⟩
    · refine HQ.condT rfl hc ?_
      clear hc
      refine HQ.skipThen ?_
      refine HQ.seq ?_
      refine HQ.block ?_
      refine HQ.regionQ ?_
      refine HQ.pu Pu.move ⟨rfl, trivial⟩ rfl rfl rfl ?_
      refine HQ.pu Pu.move ⟨rfl, trivial⟩ rfl rfl rfl ?_
      refine HQ.op [] [7] (OT.buildF (us := [.int .i64 0, .int .i64 1, .int .i64 1, .int .i64 2, .int .i64 3]) (ys := ([0, 1, 1, 2, 3] : (List Int))) (enc := (encI .i64)) (hl := fun _ => ⟨rfl, rfl⟩) [.const (.int .i64 0), .const (.int .i64 1), .const (.int .i64 1), .const (.int .i64 2), .const (.int .i64 3)] sl33.ul sl33.szE sl33.zc rfl rfl rfl rfl rfl) ⟨rfl, rfl, rfl, rfl, rfl, trivial⟩ trivial rfl rfl rfl rfl (fun _ => rfl) fun ⟨a29, c30⟩ => ?_
      obtain ⟨t31, h32, H⟩ := bnd H
      refine HQ.op [1, 7] [1, 7] (OT.callM (us := [_, _]) (PreX := [Box β_0 [.slice a_0 (List.length p0.b) c_0, .int .i64 i18, .int .i64 i19]]) (PreL := [OwnS kI a29 c30 ([0, 1, 1, 2, 3] : (List Int))]) [.tmp 16, .tmp 17] Try.call79 rfl rfl fun w FX FL hs1 hF1 hs2 hF2 hp => spec_l1Int_c (p0 := (⟨p0.b, i18, i19⟩ : TCur)) (p1 := ([0, 1, 1, 2, 3] : (List Int))) hs1 hF1 (hb_0.passY hp) (hs2.lendY hF2 0 rfl) h32) ⟨rfl, rfl, rfl, trivial⟩ ⟨rfl, rfl, trivial⟩ rfl rfl rfl rfl (fun _ => rfl) fun _ => ?_
      refine HQ.op [] [8] (OT.buildF (us := [.int .i64 t31.1]) (ys := ([t31.1] : (List Int))) (enc := (encI .i64)) (hl := fun _ => ⟨rfl, rfl⟩) [.tmp 18] sl33.ul sl33.szE sl33.zc rfl rfl rfl rfl rfl) ⟨rfl, trivial⟩ trivial rfl rfl rfl rfl (fun _ => rfl) fun ⟨a33, c34⟩ => ?_
      obtain ⟨h37, H⟩ := asr H
      refine HQ.op [2, 8] [2, 8] (OT.appendG (enc := (encI .i64)) (hl := fun _ => ⟨rfl, rfl⟩) sl33 ul33 h37) ⟨rfl, rfl, trivial⟩ ⟨rfl, rfl, trivial⟩ rfl rfl rfl rfl (fun _ => rfl) fun ⟨a35, c36⟩ => ?_
      refine HQ.pu Pu.assign ⟨rfl, trivial⟩ rfl rfl rfl ?_
      refine HQ.done ?_
      refine HQ.keep [(0, _), (4, _), (5, _), (6, _)] ⟨rfl, rfl, rfl, rfl, trivial⟩ ?_
      refine HQ.blkN ?_
      refine HQ.thenN ?_
      refine HQ.regionQ ?_
      refine HQ.pu Pu.move ⟨rfl, trivial⟩ rfl rfl rfl ?_
      refine HQ.pu Pu.sub ⟨rfl, rfl, trivial⟩ rfl rfl rfl ?_
      refine HQ.pu Pu.assign ⟨rfl, trivial⟩ rfl rfl rfl ?_
      refine HQ.done ?_
      refine HQ.keep [(0, _), (4, _), (5, _), (6, _)] ⟨rfl, rfl, rfl, rfl, trivial⟩ ?_
      obtain rfl := Option.some.inj H
      exact HQ.next (a35, c36) ⟨rfl, rfl, rfl, rfl, trivial⟩ ⟨rfl, rfl, trivial⟩ rfl
    · refine HQ.condF rfl hc ?_
      clear hc
      refine HQ.exit ?_
      refine HQ.thenE ?_
      obtain rfl := Option.some.inj H
      exact HQ.out (a15, c16) ⟨rfl, rfl, rfl, rfl, trivial⟩ ⟨rfl, rfl, trivial⟩ rfl
  · rintro ⟨l39, i42, i43, i44⟩ rfl ⟨a40, c41⟩
    clear h45
    replace H := H
    refine HQ.keep [(0, _), (4, _), (5, _), (6, _)] ⟨rfl, rfl, rfl, rfl, trivial⟩ ?_
    refine HQ.keepR [(1, _), (2, _)] ⟨rfl, rfl, trivial⟩ rfl ?_
    refine HQ.blkE ?_
    refine HQ.thenN ?_
    refine HQ.rseq ?_
    refine HQ.pu Pu.move ⟨rfl, trivial⟩ rfl rfl rfl ?_
    refine HQ.pu Pu.assign ⟨rfl, trivial⟩ rfl rfl rfl ?_
    refine HQ.done ?_
    refine HQ.keep [(4, _)] ⟨rfl, trivial⟩ ?_
    refine HQ.ret ?_
    obtain rfl := Option.some.inj H
    exact HQ.fin (vs := [_]) Try.results85 (a40, c41) ⟨rfl, trivial⟩ rfl [2, 1] ⟨rfl, rfl, trivial⟩ rfl
  · exact fun r h a w hf => hf.elim

/-! spec.Most -/
theorem spec_Most_c {w : World} {p0 : Int} {p1 : Int}   {r : Int} (H : spec_Most p0 p1 = some r) :
    Calls Try.prog 94 #[.int .i64 p0, .int .i64 p1] w (Rt w Nil (fun _ : Unit => .int .i64 r) (fun _ => [])) := by
  rw [spec_Most] at H
  refine Calls.enter0 (N := 10) (us := [_, _]) Try.func94 rfl rfl rfl ?_
  refine HQ.rseq ?_
  refine HQ.pu Pu.assign ⟨rfl, trivial⟩ rfl rfl rfl ?_
  refine HQ.done ?_
  refine HQ.keep [(0, _), (1, _), (4, _)] ⟨rfl, rfl, rfl, trivial⟩ ?_
  refine HQ.seq ?_
  refine HQ.rseq ?_
  refine HQ.pu Pu.move ⟨rfl, trivial⟩ rfl rfl rfl ?_
  refine HQ.pu Pu.move ⟨rfl, trivial⟩ rfl rfl rfl ?_
  refine HQ.pu Pu.gtr ⟨rfl, rfl, trivial⟩ rfl rfl rfl ?_
  refine HQ.done ?_
  refine HQ.keep [(0, _), (1, _), (4, _), (7, _)] ⟨rfl, rfl, rfl, rfl, trivial⟩ ?_
  rcases brk H with ⟨hc, H⟩ | ⟨hc, H⟩
  · refine HQ.condT rfl hc ?_
    clear hc
    refine HQ.rseq ?_
    refine HQ.pu Pu.move ⟨rfl, trivial⟩ rfl rfl rfl ?_
    refine HQ.pu Pu.assign ⟨rfl, trivial⟩ rfl rfl rfl ?_
    refine HQ.done ?_
    refine HQ.keep [(0, _), (4, _)] ⟨rfl, rfl, trivial⟩ ?_
    refine HQ.ret ?_
    refine HQ.thenR ?_
    obtain rfl := Option.some.inj H
    exact HQ.fin (vs := [_]) Try.results94 () ⟨rfl, trivial⟩ rfl [] trivial rfl
  · refine HQ.condF rfl hc ?_
    clear hc
    refine HQ.skipThen ?_
    refine HQ.rseq ?_
    refine HQ.pu Pu.move ⟨rfl, trivial⟩ rfl rfl rfl ?_
    refine HQ.pu Pu.assign ⟨rfl, trivial⟩ rfl rfl rfl ?_
    refine HQ.done ?_
    refine HQ.keep [(4, _)] ⟨rfl, trivial⟩ ?_
    refine HQ.ret ?_
    obtain rfl := Option.some.inj H
    exact HQ.fin (vs := [_]) Try.results94 () ⟨rfl, trivial⟩ rfl [] trivial rfl

/-! spec.Crash -/
theorem spec_Crash_c {w : World} {k : Nat} {p0 : TDisk} {p1 : (List Int)} {p2 : Int} {a_0 : Option Addr} {c_0 : Nat} {a_1 : Option Addr} {c_1 : Nat} {a_2 : Option Addr} {c_2 : Nat} (hb_0 : BorS kTCell a_0 c_0 p0.Cells w.heap (Lt w Nil)) (hb_1 : BorS kTWet a_1 c_1 p0.Wet w.heap (Lt w Nil)) (hb_2 : BorS kI a_2 c_2 p1 w.heap (Lt w Nil)) {r : TDisk} (H : spec_Crash k p0 p1 p2 = some r) :
    Calls Try.prog 22 #[.agg #[.slice a_0 (List.length p0.Cells) c_0, .slice a_1 (List.length p0.Wet) c_1, .int .i64 p0.Fuse, .bool p0.Dead], .slice a_2 (List.length p1) c_2, .int .i64 p2] w (Rt w Nil (fun g : (Option Addr × Nat) × (Option Addr × Nat) => .agg #[.slice g.1.1 (List.length r.Cells) g.1.2, .slice g.2.1 (List.length r.Wet) g.2.2, .int .i64 r.Fuse, .bool r.Dead]) (fun g => [OwnS kTCell g.1.1 g.1.2 r.Cells, OwnS kTWet g.2.1 g.2.2 r.Wet])) := by
  rw [spec_Crash] at H
  refine Calls.enter0 (N := 69) (us := [_, _, _]) Try.func22 rfl rfl rfl ?_
  refine HQ.rseq ?_
  refine HQ.op [] [1] (OT.box (cs := [.slice a_0 (List.length p0.Cells) c_0, .slice a_1 (List.length p0.Wet) c_1, .int .i64 p0.Fuse, .bool p0.Dead]) rfl) ⟨rfl, trivial⟩ trivial rfl rfl rfl rfl (fun _ => rfl) fun b1 => ?_
  refine HQ.op [] [2] (OT.alloc zc27) trivial trivial rfl rfl rfl rfl (fun _ => rfl) fun b2 => ?_
  refine HQ.done ?_
  refine HQ.keep [(1, _), (2, _), (3, _), (6, _)] ⟨rfl, rfl, rfl, rfl, trivial⟩ ?_
  refine HQ.rseq ?_
  refine HQ.op [1] [1] (OT.loadBA (vs := [.slice a_0 (List.length p0.Cells) c_0, .slice a_1 (List.length p0.Wet) c_1, .int .i64 p0.Fuse, .bool p0.Dead]) ag27 sz27 rfl rfl) ⟨rfl, trivial⟩ ⟨rfl, trivial⟩ rfl rfl rfl rfl (fun _ => rfl) fun _ => ?_
  obtain ⟨t3, h4, H⟩ := bnd H
  refine HQ.op [] [3, 4] (OT.call (us := [_]) (Pre := []) [.tmp 10] Try.call90 rfl rfl fun w F hs hF hp => spec_l18Copy_c (hb_0.pass hp) (hb_1.pass hp) h4) ⟨rfl, rfl, trivial⟩ trivial rfl rfl rfl rfl (fun _ => rfl) fun ⟨⟨a5, c6⟩, ⟨a7, c8⟩⟩ => ?_
  refine HQ.op [] [5] (OT.alloc zc27) trivial trivial rfl rfl rfl rfl (fun _ => rfl) fun b9 => ?_
  refine HQ.opN [5] [5] [] (OT.storeC (cs' := [.slice a5 (List.length t3.Cells) c6, .slice a7 (List.length t3.Wet) c8, .int .i64 t3.Fuse, .bool t3.Dead]) sz27 rfl rfl rfl rfl rfl) ⟨rfl, rfl, trivial⟩ ⟨rfl, trivial⟩ rfl rfl rfl (fun _ => rfl) fun _ => ?_
  refine HQ.done ?_
  refine HQ.keep [(1, _), (2, _), (6, _), (7, _)] ⟨rfl, rfl, rfl, rfl, trivial⟩ ?_
  refine HQ.seq ?_
  refine HQ.rseq ?_
  refine HQ.pu Pu.assign ⟨rfl, trivial⟩ rfl rfl rfl ?_
  refine HQ.done ?_
  refine HQ.keep [(1, _), (2, _), (6, _), (7, _), (8, _)] ⟨rfl, rfl, rfl, rfl, rfl, trivial⟩ ?_
  refine HQ.block ?_
  refine HQ.toRob 4 rfl ?_
  obtain ⟨o98, h110, H⟩ := bnd H
  refine HQ.loop h110 0 (fun (s : Int × (List TCell) × Int × Bool × Int) (g : Option Addr × Nat) => match s, g with | (i37, l38, i41, q42, i43), (a39, c40) => [(1, .slice a_2 (List.length p1) c_2), (2, .int .i64 p2), (6, BP b2 0), (7, BP b9 0), (8, .int .i64 i37)]) (fun (s : Int × (List TCell) × Int × Bool × Int) (g : Option Addr × Nat) => match s, g with | (i37, l38, i41, q42, i43), (a39, c40) => [(2, Box b2 [.slice none 0 0, .slice none 0 0, .int .i64 0, .bool false]), (5, Box b9 [.slice a39 (List.length l38) c40, .slice a7 (List.length t3.Wet) c8, .int .i64 i41, .bool q42]), (3, OwnS kTCell a39 c40 l38), (4, RobS 2 encTWet hlTWet kU8 (fun x => x.B) a7 c8 t3.Wet i43)]) (fun _ _ _ => False) (a5, c6) ⟨rfl, rfl, rfl, rfl, rfl, trivial⟩ ⟨rfl, rfl, rfl, rfl, trivial⟩ rfl ?_ ?_ ?_
  · clear H h110
    rintro ⟨i37, l38, i41, q42, i43⟩ ⟨a39, c40⟩ o H
    rw [spec_Crash_b0] at H
    refine HQ.keep [(1, _), (2, _), (6, _), (7, _), (8, _)] ⟨rfl, rfl, rfl, rfl, rfl, trivial⟩ ?_
    refine HQ.keepR [(2, _), (5, _), (3, _), (4, _)] ⟨rfl, rfl, rfl, rfl, trivial⟩ rfl ?_
    refine HQ.seq ?_
    refine HQ.rseq ?_
    refine HQ.pu Pu.move ⟨rfl, trivial⟩ rfl rfl rfl ?_
    refine HQ.pu (Pu.fieldB fo27_1 rfl) ⟨rfl, trivial⟩ rfl rfl rfl ?_
    refine HQ.op [5] [5] (OT.loadB sc25 rfl) ⟨rfl, trivial⟩ ⟨rfl, trivial⟩ rfl rfl rfl rfl (fun _ => rfl) fun _ => ?_
    refine HQ.pu (Pu.len ul25) ⟨rfl, trivial⟩ rfl rfl rfl ?_
    refine HQ.pu Pu.lss ⟨rfl, rfl, trivial⟩ rfl rfl rfl ?_
    refine HQ.pu Pu.move ⟨rfl, trivial⟩ rfl rfl rfl ?_
    refine HQ.cutAt 5 [(22, .bool ((decide (i37 < ((List.length t3.Wet : Nat) : Int))) && (decide (i37 < ((List.length p1 : Nat) : Int))))), (1, .slice a_2 (List.length p1) c_2), (2, .int .i64 p2), (6, BP b2 0), (7, BP b9 0), (8, .int .i64 i37)] [(2, Box b2 [.slice none 0 0, .slice none 0 0, .int .i64 0, .bool false]), (5, Box b9 [.slice a39 (List.length l38) c40, .slice a7 (List.length t3.Wet) c8, .int .i64 i41, .bool q42]), (3, OwnS kTCell a39 c40 l38), (4, RobS 2 encTWet hlTWet kU8 (fun x => x.B) a7 c8 t3.Wet i43)] ?_ ?_
    · rcases Bool.eq_false_or_eq_true (decide (i37 < ((List.length t3.Wet : Nat) : Int))) with hg71 | hg71
      · refine HQ.on rfl rfl hg71 ?_
        refine HQ.pu Pu.move ⟨rfl, trivial⟩ rfl rfl rfl ?_
        refine HQ.on rfl rfl hg71 ?_
        refine HQ.pu Pu.move ⟨rfl, trivial⟩ rfl rfl rfl ?_
        refine HQ.on rfl rfl hg71 ?_
        refine HQ.pu (Pu.len ul33) ⟨rfl, trivial⟩ rfl rfl rfl ?_
        refine HQ.on rfl rfl hg71 ?_
        refine HQ.pu Pu.lss ⟨rfl, rfl, trivial⟩ rfl rfl rfl ?_
        refine HQ.pu (Pu.pickAT hg71) ⟨rfl, rfl, trivial⟩ rfl rfl rfl ?_
        exact HQ.mid ⟨rfl, rfl, rfl, rfl, rfl, rfl, trivial⟩ ⟨rfl, rfl, rfl, rfl, trivial⟩ rfl
      · refine HQ.off rfl rfl hg71 rfl ?_
        refine HQ.off rfl rfl hg71 rfl ?_
        refine HQ.off rfl rfl hg71 rfl ?_
        refine HQ.off rfl rfl hg71 rfl ?_
        refine HQ.pu (Pu.pickAF (u := (decide (i37 < ((List.length p1 : Nat) : Int)))) hg71) ⟨rfl, rfl, trivial⟩ rfl rfl rfl ?_
        exact HQ.mid ⟨rfl, rfl, rfl, rfl, rfl, rfl, trivial⟩ ⟨rfl, rfl, rfl, rfl, trivial⟩ rfl
    refine HQ.done ?_
    refine HQ.keep [(22, _), (1, _), (2, _), (6, _), (7, _), (8, _)] ⟨rfl, rfl, rfl, rfl, rfl, rfl, trivial⟩ ?_
    rcases brk H with ⟨hc, H⟩ | ⟨hc, H⟩
    · refine HQ.condT rfl hc ?_
      clear hc
      refine HQ.skipThen ?_
      refine HQ.seq ?_
      refine HQ.block ?_
      refine HQ.rseq ?_
      refine HQ.pu (Pu.fieldB fo27_1 rfl) ⟨rfl, trivial⟩ rfl rfl rfl ?_
      refine HQ.op [5] [5] (OT.loadB sc25 rfl) ⟨rfl, trivial⟩ ⟨rfl, trivial⟩ rfl rfl rfl rfl (fun _ => rfl) fun _ => ?_
      refine HQ.pu Pu.move ⟨rfl, trivial⟩ rfl rfl rfl ?_
      obtain ⟨h72, H⟩ := asr H
      refine HQ.op [4] [4] (OT.indexR ul25 sz110 h72) ⟨rfl, rfl, trivial⟩ ⟨rfl, trivial⟩ rfl rfl rfl rfl (fun _ => rfl) fun _ => ?_
      refine HQ.pu (Pu.fieldE fo110_0 rfl) ⟨rfl, trivial⟩ rfl rfl rfl ?_
      obtain ⟨h73, H⟩ := asr H
      refine HQ.op [4] [4] (OT.loadR sc3 h72 h73 (fun _ => rfl)) ⟨rfl, trivial⟩ ⟨rfl, trivial⟩ rfl rfl rfl rfl (fun _ => rfl) fun _ => ?_
      refine HQ.pu Pu.assign ⟨rfl, trivial⟩ rfl rfl rfl ?_
      refine HQ.done ?_
      refine HQ.keep [(1, _), (2, _), (6, _), (7, _), (8, _), (9, _)] ⟨rfl, rfl, rfl, rfl, rfl, rfl, trivial⟩ ?_
      refine HQ.seq ?_
      refine HQ.rseq ?_
      refine HQ.pu Pu.move ⟨rfl, trivial⟩ rfl rfl rfl ?_
      obtain ⟨t74, h75, H⟩ := bnd H
      refine HQ.op [] [] (OT.call (us := [_, _, _]) (Pre := []) [.tmp 31, .const (.int .i64 0), .const (.int .i64 113)] Try.call89 rfl rfl fun w F hs hF hp => spec_l1In_c h75) ⟨rfl, rfl, rfl, rfl, trivial⟩ trivial rfl rfl rfl rfl (fun _ => rfl) fun _ => ?_
      refine HQ.pu Pu.not ⟨rfl, trivial⟩ rfl rfl rfl ?_
      refine HQ.done ?_
      refine HQ.keep [(1, _), (2, _), (6, _), (7, _), (8, _), (9, _), (33, _)] ⟨rfl, rfl, rfl, rfl, rfl, rfl, rfl, trivial⟩ ?_
      rcases brk H with ⟨hc, H⟩ | ⟨hc, H⟩
      · refine HQ.condT rfl hc ?_
        clear hc
        refine HQ.exit ?_
        refine HQ.thenE ?_
        refine HQ.blkE ?_
        refine HQ.thenN ?_
        refine HQ.regionQ ?_
        refine HQ.pu Pu.move ⟨rfl, trivial⟩ rfl rfl rfl ?_
        refine HQ.pu Pu.add ⟨rfl, rfl, trivial⟩ rfl rfl rfl ?_
        refine HQ.pu Pu.assign ⟨rfl, trivial⟩ rfl rfl rfl ?_
        refine HQ.done ?_
        refine HQ.keep [(1, _), (2, _), (6, _), (7, _), (8, _)] ⟨rfl, rfl, rfl, rfl, rfl, trivial⟩ ?_
        obtain rfl := Option.some.inj H
        exact HQ.next (a39, c40) ⟨rfl, rfl, rfl, rfl, rfl, trivial⟩ ⟨rfl, rfl, rfl, rfl, trivial⟩ rfl
      · refine HQ.condF rfl hc ?_
        clear hc
        refine HQ.skipThen ?_
        refine HQ.rseq ?_
        refine HQ.pu Pu.move ⟨rfl, trivial⟩ rfl rfl rfl ?_
        refine HQ.pu Pu.move ⟨rfl, trivial⟩ rfl rfl rfl ?_
        obtain ⟨h76, H⟩ := asr H
        refine HQ.op [] [] (OT.indexB ul33 sz3 hb_2 h76) ⟨rfl, rfl, trivial⟩ trivial rfl rfl rfl rfl (fun _ => rfl) fun _ => ?_
        refine HQ.op [] [] (OT.loadF sc3 hb_2 h76 rfl) ⟨rfl, trivial⟩ trivial rfl rfl rfl rfl (fun _ => rfl) fun _ => ?_
        refine HQ.done ?_
        refine HQ.keep [(1, _), (2, _), (6, _), (7, _), (8, _), (9, _), (37, _)] ⟨rfl, rfl, rfl, rfl, rfl, rfl, rfl, trivial⟩ ?_
        refine HQ.block ?_
        refine HQ.rseq ?_
        refine HQ.pu Pu.eql ⟨rfl, rfl, trivial⟩ rfl rfl rfl ?_
        refine HQ.pu Pu.assign ⟨rfl, trivial⟩ rfl rfl rfl ?_
        refine HQ.done ?_
        refine HQ.keep [(1, _), (2, _), (6, _), (7, _), (8, _), (9, _), (37, _), (38, _)] ⟨rfl, rfl, rfl, rfl, rfl, rfl, rfl, rfl, trivial⟩ ?_
        rcases brk H with ⟨hc, H⟩ | ⟨hc, H⟩
        · refine HQ.condT rfl hc ?_
          clear hc
          refine HQ.rseq ?_
          refine HQ.pu Pu.move ⟨rfl, trivial⟩ rfl rfl rfl ?_
          obtain ⟨t77, h78, H⟩ := bnd H
          refine HQ.opD [5, 3] [5, 14] [3] (OT.callM (us := [_, _]) (PreX := [Box b9 [.slice a39 (List.length l38) c40, .slice a7 (List.length t3.Wet) c8, .int .i64 i41, .bool q42], OwnS kTCell a39 c40 l38]) (PreL := []) [.tmp 7, .tmp 40] Try.call93 rfl rfl fun w FX FL hs1 hF1 hs2 hF2 hp => spec_l18Room_c (p0 := (⟨l38, t3.Wet, i41, q42⟩ : TDisk)) (p1 := (gt t3.Wet i37).At) hs1 hF1 h78) ⟨rfl, rfl, rfl, trivial⟩ ⟨rfl, rfl, trivial⟩ rfl rfl rfl rfl (fun _ => rfl) fun ⟨a79, c80⟩ => ?_
          refine HQ.done ?_
          refine HQ.keep [(1, _), (2, _), (6, _), (7, _), (8, _), (9, _)] ⟨rfl, rfl, rfl, rfl, rfl, rfl, trivial⟩ ?_
          refine HQ.dStart mixd ?_
          obtain ⟨h82, H⟩ := asr H
          obtain ⟨h83, H⟩ := asr H
          refine HQ.dPart [(1, .slice a_2 (List.length p1) c_2), (2, .int .i64 p2), (6, BP b2 0), (7, BP b9 0), (8, .int .i64 i37), (9, .int .i64 ((gt t3.Wet i37).At))] 10 [⟨[], [], []⟩, ⟨[0], [0], [0]⟩, ⟨[], [], []⟩, ⟨[], [], []⟩, ⟨[0], [0], [3]⟩, ⟨[], [], []⟩, ⟨[1], [1], [4, 5]⟩, ⟨[], [], [6]⟩, ⟨[1], [2, 3], [7]⟩, ⟨[], [], [8]⟩] [⟨none, none⟩, ⟨none, some 8⟩, ⟨some 8, none⟩, ⟨some 8, none⟩] (fun (g81 : (Option Addr × Nat)) => [BP b9 0, .slice a79 (List.length t77.Cells) c80, .int .i64 ((gt t3.Wet i37).At), BP b9 1, .slice a7 (List.length t3.Wet) c8, .int .i64 i37, EP a7 i37 2 0, EP a7 i37 2 1, .slice g81.1 (List.length ((gt t3.Wet i37).B)) g81.2, .agg #[.bool false, .slice g81.1 (List.length ((gt t3.Wet i37).B)) g81.2]]) (fun (g81 : (Option Addr × Nat)) => [Box b9 [.slice a79 (List.length t77.Cells) c80, .slice a7 (List.length t3.Wet) c8, .int .i64 t77.Fuse, .bool t77.Dead], RobS 2 encTWet hlTWet kU8 (fun x => x.B) a7 c8 t3.Wet i43, RobS 2 encTWet hlTWet kU8 (fun x => x.B) a7 c8 t3.Wet (i37 + 1), OwnS kU8 g81.1 g81.2 ((gt t3.Wet i37).B)]) (none, 0) [5, 4] [5, 4, 15] [] ⟨rfl, rfl, rfl, rfl, rfl, rfl, trivial⟩ ⟨rfl, rfl, trivial⟩ rfl (by kernel_rfl) (by kernel_rfl) (fun _ => rfl) (by kernel_rfl) (fun _ => rfl) rfl ⟨?_, ?_, ?_, ?_, ?_, ?_, ?_, ?_, ?_, ?_, trivial⟩ fun g81 => ?_
          · exact OpOK2.of (fun g81 => [(.tmp 7, BP b9 0)]) _ _ (fun g81 _ => g81) rfl rfl (fun _ => ⟨rfl, trivial⟩) (fun g81 => Pu.toOT (Pu.fieldB fo27_0 rfl)) (fun _ _ => ⟨rfl, rfl, ⟨rfl, rfl, rfl, rfl, trivial⟩⟩)
          · exact OpOK2.of (fun g81 => [(.tmp 42, BP b9 0)]) _ _ (fun g81 _ => g81) rfl rfl (fun _ => ⟨rfl, trivial⟩) (fun g81 => OT.loadB sc24 rfl) (fun _ _ => ⟨rfl, rfl, ⟨rfl, rfl, rfl, rfl, trivial⟩⟩)
          · exact OpOK2.of (fun g81 => [(.tmp 9, .int .i64 ((gt t3.Wet i37).At))]) _ _ (fun g81 _ => g81) rfl rfl (fun _ => ⟨rfl, trivial⟩) (fun g81 => Pu.toOT Pu.move) (fun _ _ => ⟨rfl, rfl, ⟨rfl, rfl, rfl, rfl, trivial⟩⟩)
          · exact OpOK2.of (fun g81 => [(.tmp 7, BP b9 0)]) _ _ (fun g81 _ => g81) rfl rfl (fun _ => ⟨rfl, trivial⟩) (fun g81 => Pu.toOT (Pu.fieldB fo27_1 rfl)) (fun _ _ => ⟨rfl, rfl, ⟨rfl, rfl, rfl, rfl, trivial⟩⟩)
          · exact OpOK2.of (fun g81 => [(.tmp 45, BP b9 1)]) _ _ (fun g81 _ => g81) rfl rfl (fun _ => ⟨rfl, trivial⟩) (fun g81 => OT.loadB sc25 rfl) (fun _ _ => ⟨rfl, rfl, ⟨rfl, rfl, rfl, rfl, trivial⟩⟩)
          · exact OpOK2.of (fun g81 => [(.tmp 8, .int .i64 i37)]) _ _ (fun g81 _ => g81) rfl rfl (fun _ => ⟨rfl, trivial⟩) (fun g81 => Pu.toOT Pu.move) (fun _ _ => ⟨rfl, rfl, ⟨rfl, rfl, rfl, rfl, trivial⟩⟩)
          · exact OpOK2.of (fun g81 => [(.tmp 46, .slice a7 (List.length t3.Wet) c8), (.tmp 47, .int .i64 i37)]) _ _ (fun g81 _ => g81) rfl rfl (fun _ => ⟨rfl, rfl, trivial⟩) (fun g81 => OT.indexR ul25 sz110 h82) (fun _ _ => ⟨rfl, rfl, ⟨rfl, rfl, rfl, rfl, trivial⟩⟩)
          · exact OpOK2.of (fun g81 => [(.tmp 48, EP a7 i37 2 0)]) _ _ (fun g81 _ => g81) rfl rfl (fun _ => ⟨rfl, trivial⟩) (fun g81 => Pu.toOT (Pu.fieldE fo110_1 rfl)) (fun _ _ => ⟨rfl, rfl, ⟨rfl, rfl, rfl, rfl, trivial⟩⟩)
          · exact OpOK2.ofD [9] (by kernel_rfl) (fun g81 => [(.tmp 49, EP a7 i37 2 1)]) _ _ (fun g81 x => x) rfl rfl (fun _ => ⟨rfl, trivial⟩) (fun g81 => OT.rob (v := fun pa pc => .slice pa (List.length ((gt t3.Wet i37).B)) pc) sc22 h82 h83 (fun _ _ => rfl)) (fun _ _ => ⟨⟨rfl, rfl, rfl, rfl, rfl, rfl, rfl, rfl, rfl, trivial, trivial⟩, rfl, ⟨rfl, rfl, rfl, rfl, trivial⟩⟩)
          · exact OpOK2.of (fun g81 => [(.tmp 50, .slice g81.1 (List.length ((gt t3.Wet i37).B)) g81.2)]) _ _ (fun g81 _ => g81) rfl rfl (fun _ => ⟨rfl, trivial⟩) (fun g81 => Pu.toOT (Pu.build (us := [.slice g81.1 (List.length ((gt t3.Wet i37).B)) g81.2]) (cs := [.bool false, .slice g81.1 (List.length ((gt t3.Wet i37).B)) g81.2]) [(1, .tmp 50)] st113 rfl rfl rfl)) (fun _ _ => ⟨rfl, rfl, ⟨rfl, rfl, rfl, rfl, trivial⟩⟩)
          refine HQ.keep [(1, _), (2, _), (6, _), (7, _), (8, _), (43, _), (44, _), (51, _)] ⟨rfl, rfl, rfl, rfl, rfl, rfl, rfl, rfl, trivial⟩ ?_
          refine HQ.keepR [(2, _), (5, _), (4, _), (14, _), (15, _)] ⟨rfl, rfl, rfl, rfl, rfl, trivial⟩ rfl ?_
          refine HQ.dRun 2 rfl rfl (by kernel_rfl) (by kernel_rfl) ?_
          obtain ⟨h86, H⟩ := asr H
          refine HQ.op [14] [14] (OT.indexO ul24 sz113 h86) ⟨rfl, rfl, trivial⟩ ⟨rfl, trivial⟩ rfl rfl rfl rfl (fun _ => rfl) fun _ => ?_
          refine HQ.opN [14, 15] [14] [15] (OT.storeW (⟨false, (gt t3.Wet i37).B⟩ : TCell) sz113 rfl rfl rfl h86 rfl (fun _ => rfl) rfl) ⟨rfl, rfl, trivial⟩ ⟨rfl, rfl, trivial⟩ rfl rfl rfl (fun _ => rfl) fun _ => ?_
          obtain ⟨l87, h88, H⟩ := bnd H
          replace h88 := Option.some.inj h88
          refine HQ.reR (B := OwnS kTCell a79 c80 l87) 14 rfl (by intro _ _ hb; rw [← h88]; exact hb) ?_
          have h89 : List.length l87 = List.length t77.Cells := by rw [← h88, List.length_set]
          refine HQ.re (v' := .slice a79 (List.length l87) c80) 43 rfl (by simp [h89]) ?_
          refine HQ.reR (B := Box b9 [.slice a79 (List.length l87) c80, .slice a7 (List.length t3.Wet) c8, .int .i64 t77.Fuse, .bool t77.Dead]) 5 rfl (fun _ _ hb => by rw [show List.length l87 = List.length t77.Cells from (by simp [h89])]; exact hb) ?_
          refine HQ.done ?_
          refine HQ.dEnd rfl ?_
          refine HQ.keep [(1, _), (2, _), (6, _), (7, _), (8, _)] ⟨rfl, rfl, rfl, rfl, rfl, trivial⟩ ?_
          refine HQ.blkN ?_
          refine HQ.blkN ?_
          refine HQ.thenN ?_
          refine HQ.regionQ ?_
          refine HQ.pu Pu.move ⟨rfl, trivial⟩ rfl rfl rfl ?_
          refine HQ.pu Pu.add ⟨rfl, rfl, trivial⟩ rfl rfl rfl ?_
          refine HQ.pu Pu.assign ⟨rfl, trivial⟩ rfl rfl rfl ?_
          refine HQ.done ?_
          refine HQ.keep [(1, _), (2, _), (6, _), (7, _), (8, _)] ⟨rfl, rfl, rfl, rfl, rfl, trivial⟩ ?_
          refine HQ.mv 3 14 rfl rfl ?_
          obtain rfl := Option.some.inj H
          exact HQ.next (a79, c80) ⟨rfl, rfl, rfl, rfl, rfl, trivial⟩ ⟨rfl, rfl, rfl, rfl, trivial⟩ rfl
        · refine HQ.condF rfl hc ?_
          clear hc
          refine HQ.rseq ?_
          refine HQ.pu Pu.eql ⟨rfl, rfl, trivial⟩ rfl rfl rfl ?_
          refine HQ.pu Pu.assign ⟨rfl, trivial⟩ rfl rfl rfl ?_
          refine HQ.done ?_
          refine HQ.keep [(1, _), (2, _), (6, _), (7, _), (8, _), (9, _), (53, _)] ⟨rfl, rfl, rfl, rfl, rfl, rfl, rfl, trivial⟩ ?_
          rcases brk H with ⟨hc, H⟩ | ⟨hc, H⟩
          · refine HQ.condT rfl hc ?_
            clear hc
            refine HQ.rseq ?_
            refine HQ.pu Pu.move ⟨rfl, trivial⟩ rfl rfl rfl ?_
            obtain ⟨t90, h91, H⟩ := bnd H
            refine HQ.opD [5, 3] [5, 16] [3] (OT.callM (us := [_, _]) (PreX := [Box b9 [.slice a39 (List.length l38) c40, .slice a7 (List.length t3.Wet) c8, .int .i64 i41, .bool q42], OwnS kTCell a39 c40 l38]) (PreL := []) [.tmp 7, .tmp 55] Try.call93 rfl rfl fun w FX FL hs1 hF1 hs2 hF2 hp => spec_l18Room_c (p0 := (⟨l38, t3.Wet, i41, q42⟩ : TDisk)) (p1 := (gt t3.Wet i37).At) hs1 hF1 h91) ⟨rfl, rfl, rfl, trivial⟩ ⟨rfl, rfl, trivial⟩ rfl rfl rfl rfl (fun _ => rfl) fun ⟨a92, c93⟩ => ?_
            refine HQ.done ?_
            refine HQ.keep [(1, _), (2, _), (6, _), (7, _), (8, _), (9, _)] ⟨rfl, rfl, rfl, rfl, rfl, rfl, trivial⟩ ?_
            refine HQ.regionQ ?_
            refine HQ.pu (Pu.fieldB fo27_0 rfl) ⟨rfl, trivial⟩ rfl rfl rfl ?_
            refine HQ.op [5] [5] (OT.loadB sc24 rfl) ⟨rfl, trivial⟩ ⟨rfl, trivial⟩ rfl rfl rfl rfl (fun _ => rfl) fun _ => ?_
            refine HQ.pu Pu.move ⟨rfl, trivial⟩ rfl rfl rfl ?_
            refine HQ.pu (Pu.build (us := [.bool true]) (cs := [.bool true, .slice none 0 0]) [(0, .const (.bool true))] st113 rfl rfl rfl) ⟨rfl, trivial⟩ rfl rfl rfl ?_
            obtain ⟨h94, H⟩ := asr H
            refine HQ.op [16] [16] (OT.indexO ul24 sz113 h94) ⟨rfl, rfl, trivial⟩ ⟨rfl, trivial⟩ rfl rfl rfl rfl (fun _ => rfl) fun _ => ?_
            refine HQ.nil kU8 17 rfl ?_
            refine HQ.opN [16, 17] [16] [17] (OT.storeW (⟨true, ([] : (List Int))⟩ : TCell) sz113 rfl rfl rfl h94 rfl (fun _ => rfl) rfl) ⟨rfl, rfl, trivial⟩ ⟨rfl, rfl, trivial⟩ rfl rfl rfl (fun _ => rfl) fun _ => ?_
            obtain ⟨l95, h96, H⟩ := bnd H
            replace h96 := Option.some.inj h96
            refine HQ.reR (B := OwnS kTCell a92 c93 l95) 16 rfl (by intro _ _ hb; rw [← h96]; exact hb) ?_
            have h97 : List.length l95 = List.length t90.Cells := by rw [← h96, List.length_set]
            refine HQ.re (v' := .slice a92 (List.length l95) c93) 58 rfl (by simp [h97]) ?_
            refine HQ.reR (B := Box b9 [.slice a92 (List.length l95) c93, .slice a7 (List.length t3.Wet) c8, .int .i64 t90.Fuse, .bool t90.Dead]) 5 rfl (fun _ _ hb => by rw [show List.length l95 = List.length t90.Cells from (by simp [h97])]; exact hb) ?_
            refine HQ.done ?_
            refine HQ.keep [(1, _), (2, _), (6, _), (7, _), (8, _)] ⟨rfl, rfl, rfl, rfl, rfl, trivial⟩ ?_
            refine HQ.blkN ?_
            refine HQ.blkN ?_
            refine HQ.thenN ?_
            refine HQ.regionQ ?_
            refine HQ.pu Pu.move ⟨rfl, trivial⟩ rfl rfl rfl ?_
            refine HQ.pu Pu.add ⟨rfl, rfl, trivial⟩ rfl rfl rfl ?_
            refine HQ.pu Pu.assign ⟨rfl, trivial⟩ rfl rfl rfl ?_
            refine HQ.done ?_
            refine HQ.keep [(1, _), (2, _), (6, _), (7, _), (8, _)] ⟨rfl, rfl, rfl, rfl, rfl, trivial⟩ ?_
            refine HQ.mv 3 16 rfl rfl ?_
            obtain rfl := Option.some.inj H
            exact HQ.next (a92, c93) ⟨rfl, rfl, rfl, rfl, rfl, trivial⟩ ⟨rfl, rfl, rfl, rfl, trivial⟩ rfl
          · refine HQ.condF rfl hc ?_
            clear hc
            refine HQ.skip ?_
            refine HQ.blkN ?_
            refine HQ.blkN ?_
            refine HQ.thenN ?_
            refine HQ.regionQ ?_
            refine HQ.pu Pu.move ⟨rfl, trivial⟩ rfl rfl rfl ?_
            refine HQ.pu Pu.add ⟨rfl, rfl, trivial⟩ rfl rfl rfl ?_
            refine HQ.pu Pu.assign ⟨rfl, trivial⟩ rfl rfl rfl ?_
            refine HQ.done ?_
            refine HQ.keep [(1, _), (2, _), (6, _), (7, _), (8, _)] ⟨rfl, rfl, rfl, rfl, rfl, trivial⟩ ?_
            obtain rfl := Option.some.inj H
            exact HQ.next (a39, c40) ⟨rfl, rfl, rfl, rfl, rfl, trivial⟩ ⟨rfl, rfl, rfl, rfl, trivial⟩ rfl
    · refine HQ.condF rfl hc ?_
      clear hc
      refine HQ.exit ?_
      refine HQ.thenE ?_
      obtain rfl := Option.some.inj H
      exact HQ.out (a39, c40) ⟨rfl, rfl, rfl, rfl, rfl, trivial⟩ ⟨rfl, rfl, rfl, rfl, trivial⟩ rfl
  · rintro ⟨i99, l100, i103, q104, i105⟩ rfl ⟨a101, c102⟩
    clear h110
    replace H := H
    refine HQ.keep [(1, _), (2, _), (6, _), (7, _), (8, _)] ⟨rfl, rfl, rfl, rfl, rfl, trivial⟩ ?_
    refine HQ.keepR [(2, _), (5, _), (3, _), (4, _)] ⟨rfl, rfl, rfl, rfl, trivial⟩ rfl ?_
    refine HQ.blkE ?_
    refine HQ.thenN ?_
    refine HQ.rseq ?_
    refine HQ.op [] [18] (OT.buildE (K := kTWet) sl25.ul sl25.szE sl25.zc rfl rfl) trivial trivial rfl rfl rfl rfl (fun _ => rfl) fun ⟨a106, c107⟩ => ?_
    refine HQ.pu (Pu.fieldB fo27_1 rfl) ⟨rfl, trivial⟩ rfl rfl rfl ?_
    refine HQ.opN [5] [5] [] (OT.storeC (cs' := [.slice a101 (List.length l100) c102, .slice a106 (List.length ([] : (List TWet))) c107, .int .i64 i103, .bool q104]) sz25 rfl rfl rfl rfl rfl) ⟨rfl, rfl, trivial⟩ ⟨rfl, trivial⟩ rfl rfl rfl (fun _ => rfl) fun _ => ?_
    refine HQ.done ?_
    refine HQ.keep [(2, _), (6, _), (7, _)] ⟨rfl, rfl, rfl, trivial⟩ ?_
    refine HQ.rseq ?_
    refine HQ.pu (Pu.fieldB fo27_3 rfl) ⟨rfl, trivial⟩ rfl rfl rfl ?_
    refine HQ.opN [5] [5] [] (OT.storeC (cs' := [.slice a101 (List.length l100) c102, .slice a106 (List.length ([] : (List TWet))) c107, .int .i64 i103, .bool false]) sz4 rfl rfl rfl rfl rfl) ⟨rfl, rfl, trivial⟩ ⟨rfl, trivial⟩ rfl rfl rfl (fun _ => rfl) fun _ => ?_
    refine HQ.done ?_
    refine HQ.keep [(2, _), (6, _), (7, _)] ⟨rfl, rfl, rfl, trivial⟩ ?_
    refine HQ.rseq ?_
    refine HQ.pu Pu.move ⟨rfl, trivial⟩ rfl rfl rfl ?_
    obtain ⟨t108, h109, H⟩ := bnd H
    refine HQ.op [] [] (OT.call (us := [_, _]) (Pre := []) [.const (.int .i64 (-1)), .tmp 65] Try.call94 rfl rfl fun w F hs hF hp => spec_Most_c h109) ⟨rfl, rfl, rfl, trivial⟩ trivial rfl rfl rfl rfl (fun _ => rfl) fun _ => ?_
    refine HQ.pu (Pu.fieldB fo27_2 rfl) ⟨rfl, trivial⟩ rfl rfl rfl ?_
    refine HQ.opN [5] [5] [] (OT.storeC (cs' := [.slice a101 (List.length l100) c102, .slice a106 (List.length ([] : (List TWet))) c107, .int .i64 t108, .bool false]) sz3 rfl rfl rfl rfl rfl) ⟨rfl, rfl, trivial⟩ ⟨rfl, trivial⟩ rfl rfl rfl (fun _ => rfl) fun _ => ?_
    refine HQ.done ?_
    refine HQ.keep [(6, _), (7, _)] ⟨rfl, rfl, trivial⟩ ?_
    refine HQ.rseq ?_
    refine HQ.op [5] [5] (OT.loadBA (vs := [.slice a101 (List.length l100) c102, .slice a106 (List.length ([] : (List TWet))) c107, .int .i64 t108, .bool false]) ag27 sz27 rfl rfl) ⟨rfl, trivial⟩ ⟨rfl, trivial⟩ rfl rfl rfl rfl (fun _ => rfl) fun _ => ?_
    refine HQ.opN [2] [2] [] (OT.storeC (cs' := [.slice a101 (List.length l100) c102, .slice a106 (List.length ([] : (List TWet))) c107, .int .i64 t108, .bool false]) sz27 rfl rfl rfl rfl rfl) ⟨rfl, rfl, trivial⟩ ⟨rfl, trivial⟩ rfl rfl rfl (fun _ => rfl) fun _ => ?_
    refine HQ.done ?_
    refine HQ.keep [(6, _)] ⟨rfl, trivial⟩ ?_
    refine HQ.ret ?_
    obtain rfl := Option.some.inj H
    exact HQ.fin (vs := [_]) Try.results22 ((a101, c102), (a106, c107)) ⟨⟨_, _, 2, rfl, rfl, ag27, sz27, rfl⟩, trivial⟩ rfl [3, 18] ⟨rfl, rfl, trivial⟩ rfl
  · exact fun r h a w hf => hf.elim

end Go.Proofs.Sx
