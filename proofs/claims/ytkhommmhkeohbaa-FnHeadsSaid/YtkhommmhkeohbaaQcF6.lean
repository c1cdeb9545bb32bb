import Derived.Test.YtkhommmhkeohbaaQcF5
import Derived.KernelRfl
namespace Go.Proofs.Sx
open Go.RowKit
set_option linter.unusedVariables false
set_option linter.unusedSimpArgs false
set_option maxRecDepth 20000
set_option maxHeartbeats 1000000
/-! spec.DrawBestHead -/
theorem spec_DrawBestHead_c {w : World} {k : Nat} {p0 : (List Int)} {a_0 : Option Addr} {c_0 : Nat} (hb_0 : BorS kU8 a_0 c_0 p0 w.heap (Lt w Nil)) {r : TDisk} (H : spec_DrawBestHead k p0 = some r) :
    Calls Try.prog 44 #[.slice a_0 (List.length p0) c_0] w (Rt w Nil (fun g : (Option Addr × Nat) × (Option Addr × Nat) => .agg #[.slice g.1.1 (List.length r.Cells) g.1.2, .slice g.2.1 (List.length r.Wet) g.2.2, .int .i64 r.Fuse, .bool r.Dead]) (fun g => [OwnS kTCell g.1.1 g.1.2 r.Cells, OwnS kTWet g.2.1 g.2.2 r.Wet])) := by
  rw [spec_DrawBestHead] at H
  refine Calls.enter0 (N := 41) (us := [_]) Try.func44 rfl rfl rfl ?_
  refine HQ.rseq ?_
  refine HQ.op [] [1] (OT.alloc zc27) trivial trivial rfl rfl rfl rfl (fun _ => rfl) fun b1 => ?_
  refine HQ.done ?_
  refine HQ.keep [(0, _), (2, _)] ⟨rfl, rfl, trivial⟩ ?_
  refine HQ.rseq ?_
  refine HQ.pu Pu.move ⟨rfl, trivial⟩ rfl rfl rfl ?_
  obtain ⟨t2, h3, H⟩ := bnd H
  refine HQ.op [] [2] (OT.call (us := [_]) (Pre := []) [.tmp 7] Try.call77 rfl rfl fun w F hs hF hp => spec_l1New_c (hb_0.pass hp) h3) ⟨rfl, rfl, trivial⟩ trivial rfl rfl rfl rfl (fun _ => rfl) fun b4 => ?_
  refine HQ.pu Pu.assign ⟨rfl, trivial⟩ rfl rfl rfl ?_
  refine HQ.done ?_
  refine HQ.keep [(2, _), (3, _)] ⟨rfl, rfl, trivial⟩ ?_
  refine HQ.rseq ?_
  obtain ⟨t5, h6, H⟩ := bnd H
  refine HQ.op [] [3, 4] (OT.call (us := []) (Pre := []) [] Try.call115 rfl rfl fun w F hs hF hp => spec_DiskNew_c h6) ⟨rfl, trivial⟩ trivial rfl rfl rfl rfl (fun _ => rfl) fun ⟨⟨a7, c8⟩, ⟨a9, c10⟩⟩ => ?_
  refine HQ.op [] [5] (OT.alloc zc27) trivial trivial rfl rfl rfl rfl (fun _ => rfl) fun b11 => ?_
  refine HQ.opN [5] [5] [] (OT.storeC (cs' := [.slice a7 (List.length t5.Cells) c8, .slice a9 (List.length t5.Wet) c10, .int .i64 t5.Fuse, .bool t5.Dead]) sz27 rfl rfl rfl rfl rfl) ⟨rfl, rfl, trivial⟩ ⟨rfl, trivial⟩ rfl rfl rfl (fun _ => rfl) fun _ => ?_
  refine HQ.done ?_
  refine HQ.keep [(2, _), (3, _), (4, _)] ⟨rfl, rfl, rfl, trivial⟩ ?_
  refine HQ.seq ?_
  refine HQ.rseq ?_
  refine HQ.pu Pu.move ⟨rfl, trivial⟩ rfl rfl rfl ?_
  obtain ⟨t12, h13, H⟩ := bnd H
  refine HQ.op [2] [2] (OT.callM (us := [_, _]) (PreX := [Box b4 [.slice a_0 (List.length p0) c_0, .int .i64 t2.i, .int .i64 t2.h]]) (PreL := []) [.tmp 10, .const (.int .i64 4)] Try.call86 rfl rfl fun w FX FL hs1 hF1 hs2 hF2 hp => spec_l1Below_c (p0 := (⟨p0, t2.i, t2.h⟩ : TCur)) (p1 := 4) hs1 hF1 (hb_0.passY hp) h13) ⟨rfl, rfl, rfl, trivial⟩ ⟨rfl, trivial⟩ rfl rfl rfl rfl (fun _ => rfl) fun _ => ?_
  refine HQ.pu Pu.assign ⟨rfl, trivial⟩ rfl rfl rfl ?_
  refine HQ.done ?_
  refine HQ.keep [(2, _), (3, _), (4, _), (5, _)] ⟨rfl, rfl, rfl, rfl, trivial⟩ ?_
  refine HQ.block ?_
  obtain ⟨o178, h203, H⟩ := bnd H
  refine HQ.loop h203 0 (fun (s : Int × Int × Int × (List TCell) × (List TWet) × Int × Bool) (g : (Option Addr × Nat) × (Option Addr × Nat)) => match s, g with | (i65, i66, i67, l68, l71, i74, q75), ((a69, c70), (a72, c73)) => [(2, BP b1 0), (3, BP b4 0), (4, BP b11 0), (5, .int .i64 i65)]) (fun (s : Int × Int × Int × (List TCell) × (List TWet) × Int × Bool) (g : (Option Addr × Nat) × (Option Addr × Nat)) => match s, g with | (i65, i66, i67, l68, l71, i74, q75), ((a69, c70), (a72, c73)) => [(1, Box b1 [.slice none 0 0, .slice none 0 0, .int .i64 0, .bool false]), (2, Box b4 [.slice a_0 (List.length p0) c_0, .int .i64 i66, .int .i64 i67]), (5, Box b11 [.slice a69 (List.length l68) c70, .slice a72 (List.length l71) c73, .int .i64 i74, .bool q75]), (3, OwnS kTCell a69 c70 l68), (4, OwnS kTWet a72 c73 l71)]) (fun _ _ _ => False) ((a7, c8), (a9, c10)) ⟨rfl, rfl, rfl, rfl, trivial⟩ ⟨rfl, rfl, rfl, rfl, rfl, trivial⟩ rfl ?_ ?_ ?_
  · clear H h203
    rintro ⟨i65, i66, i67, l68, l71, i74, q75⟩ ⟨⟨a69, c70⟩, ⟨a72, c73⟩⟩ o H
    rw [spec_DrawBestHead_b0] at H
    refine HQ.keep [(2, _), (3, _), (4, _), (5, _)] ⟨rfl, rfl, rfl, rfl, trivial⟩ ?_
    refine HQ.keepR [(1, _), (2, _), (5, _), (3, _), (4, _)] ⟨rfl, rfl, rfl, rfl, rfl, trivial⟩ rfl ?_
    refine HQ.seq ?_
    refine HQ.rseq ?_
    refine HQ.pu Pu.move ⟨rfl, trivial⟩ rfl rfl rfl ?_
    refine HQ.pu Pu.gtr ⟨rfl, rfl, trivial⟩ rfl rfl rfl ?_
    refine HQ.done ?_
    refine HQ.keep [(2, _), (3, _), (4, _), (5, _), (13, _)] ⟨rfl, rfl, rfl, rfl, rfl, trivial⟩ ?_
    rcases brk H with ⟨hc, H⟩ | ⟨hc, H⟩
    · refine HQ.condT rfl hc ?_
      clear hc
      refine HQ.skipThen ?_
      refine HQ.seq ?_
      refine HQ.block ?_
      refine HQ.rseq ?_
      refine HQ.pu Pu.move ⟨rfl, trivial⟩ rfl rfl rfl ?_
      obtain ⟨t127, h128, H⟩ := bnd H
      refine HQ.op [2] [2] (OT.callM (us := [_]) (PreX := [Box b4 [.slice a_0 (List.length p0) c_0, .int .i64 i66, .int .i64 i67]]) (PreL := []) [.tmp 16] Try.call116 rfl rfl fun w FX FL hs1 hF1 hs2 hF2 hp => spec_l21Draw_c (p0 := (⟨p0, i66, i67⟩ : TCur)) hs1 hF1 (hb_0.passY hp) h128) ⟨rfl, rfl, trivial⟩ ⟨rfl, trivial⟩ rfl rfl rfl rfl (fun _ => rfl) fun _ => ?_
      refine HQ.op [] [28] (OT.alloc zc68) trivial trivial rfl rfl rfl rfl (fun _ => rfl) fun b129 => ?_
      refine HQ.opN [28] [28] [] (OT.storeC (cs' := [.int .i64 t127.1.Epoch, .int .i64 t127.1.Seq, .int .i64 t127.1.Root, .int .i64 t127.1.Size]) sz68 rfl rfl rfl rfl rfl) ⟨rfl, rfl, trivial⟩ ⟨rfl, trivial⟩ rfl rfl rfl (fun _ => rfl) fun _ => ?_
      refine HQ.done ?_
      refine HQ.keep [(2, _), (3, _), (4, _), (5, _), (6, _)] ⟨rfl, rfl, rfl, rfl, rfl, trivial⟩ ?_
      refine HQ.rseq ?_
      refine HQ.op [5] [5] (OT.loadBA (vs := [.slice a69 (List.length l68) c70, .slice a72 (List.length l71) c73, .int .i64 i74, .bool q75]) ag27 sz27 rfl rfl) ⟨rfl, trivial⟩ ⟨rfl, trivial⟩ rfl rfl rfl rfl (fun _ => rfl) fun _ => ?_
      refine HQ.op [28] [28] (OT.loadBA (vs := [.int .i64 t127.1.Epoch, .int .i64 t127.1.Seq, .int .i64 t127.1.Root, .int .i64 t127.1.Size]) ag68 sz68 rfl rfl) ⟨rfl, trivial⟩ ⟨rfl, trivial⟩ rfl rfl rfl rfl (fun _ => rfl) fun _ => ?_
      obtain ⟨t130, h131, H⟩ := bnd H
      refine HQ.op [3, 4] [29, 30, 3, 4] (OT.call (us := [_, _]) (Pre := [OwnS kTCell a69 c70 l68, OwnS kTWet a72 c73 l71]) [.tmp 18, .tmp 19] Try.call52 rfl rfl fun w F hs hF hp => spec_PutHead_c (hs.lend hF 0 rfl) (hs.lend hF 1 rfl) h131) ⟨rfl, rfl, rfl, trivial⟩ ⟨rfl, rfl, trivial⟩ rfl rfl rfl rfl (fun _ => rfl) fun ⟨⟨a132, c133⟩, ⟨a134, c135⟩⟩ => ?_
      refine HQ.opN [5] [5] [] (OT.storeC (cs' := [.slice a132 (List.length t130.Cells) c133, .slice a134 (List.length t130.Wet) c135, .int .i64 t130.Fuse, .bool t130.Dead]) sz27 rfl rfl rfl rfl rfl) ⟨rfl, rfl, trivial⟩ ⟨rfl, trivial⟩ rfl rfl rfl (fun _ => rfl) fun _ => ?_
      refine HQ.done ?_
      refine HQ.keep [(2, _), (3, _), (4, _), (5, _)] ⟨rfl, rfl, rfl, rfl, trivial⟩ ?_
      refine HQ.seq ?_
      refine HQ.rseq ?_
      refine HQ.pu Pu.move ⟨rfl, trivial⟩ rfl rfl rfl ?_
      obtain ⟨t136, h137, H⟩ := bnd H
      refine HQ.op [2] [2] (OT.callM (us := [_, _]) (PreX := [Box b4 [.slice a_0 (List.length p0) c_0, .int .i64 t127.2.i, .int .i64 t127.2.h]]) (PreL := []) [.tmp 21, .const (.int .i64 3)] Try.call87 rfl rfl fun w FX FL hs1 hF1 hs2 hF2 hp => spec_l1Once_c (p0 := (⟨p0, t127.2.i, t127.2.h⟩ : TCur)) (p1 := 3) hs1 hF1 (hb_0.passY hp) h137) ⟨rfl, rfl, rfl, trivial⟩ ⟨rfl, trivial⟩ rfl rfl rfl rfl (fun _ => rfl) fun _ => ?_
      refine HQ.done ?_
      refine HQ.keep [(2, _), (3, _), (4, _), (5, _), (22, _)] ⟨rfl, rfl, rfl, rfl, rfl, trivial⟩ ?_
      rcases brk H with ⟨hc, H⟩ | ⟨hc, H⟩
      · refine HQ.condT rfl hc ?_
        clear hc
        refine HQ.region ?_
        refine HQ.op [5] [5] (OT.loadBA (vs := [.slice a132 (List.length t130.Cells) c133, .slice a134 (List.length t130.Wet) c135, .int .i64 t130.Fuse, .bool t130.Dead]) ag27 sz27 rfl rfl) ⟨rfl, trivial⟩ ⟨rfl, trivial⟩ rfl rfl rfl rfl (fun _ => rfl) fun _ => ?_
        obtain ⟨t138, h139, H⟩ := bnd H
        refine HQ.op [29, 30] [31, 32, 29, 30] (OT.call (us := [_]) (Pre := [OwnS kTCell a132 c133 t130.Cells, OwnS kTWet a134 c135 t130.Wet]) [.tmp 23] Try.call21 rfl rfl fun w F hs hF hp => spec_Flush_c (hs.lend hF 0 rfl) (hs.lend hF 1 rfl) h139) ⟨rfl, rfl, trivial⟩ ⟨rfl, rfl, trivial⟩ rfl rfl rfl rfl (fun _ => rfl) fun ⟨⟨a140, c141⟩, ⟨a142, c143⟩⟩ => ?_
        refine HQ.opN [5] [5] [] (OT.storeC (cs' := [.slice a140 (List.length t138.Cells) c141, .slice a142 (List.length t138.Wet) c143, .int .i64 t138.Fuse, .bool t138.Dead]) sz27 rfl rfl rfl rfl rfl) ⟨rfl, rfl, trivial⟩ ⟨rfl, trivial⟩ rfl rfl rfl (fun _ => rfl) fun _ => ?_
        refine HQ.done ?_
        refine HQ.keep [(2, _), (3, _), (4, _), (5, _)] ⟨rfl, rfl, rfl, rfl, trivial⟩ ?_
        refine HQ.rseq ?_
        refine HQ.pu Pu.move ⟨rfl, trivial⟩ rfl rfl rfl ?_
        obtain ⟨t144, h145, H⟩ := bnd H
        refine HQ.op [2] [2] (OT.callM (us := [_, _]) (PreX := [Box b4 [.slice a_0 (List.length p0) c_0, .int .i64 t136.2.i, .int .i64 t136.2.h]]) (PreL := []) [.tmp 25, .const (.int .i64 6)] Try.call87 rfl rfl fun w FX FL hs1 hF1 hs2 hF2 hp => spec_l1Once_c (p0 := (⟨p0, t136.2.i, t136.2.h⟩ : TCur)) (p1 := 6) hs1 hF1 (hb_0.passY hp) h145) ⟨rfl, rfl, rfl, trivial⟩ ⟨rfl, trivial⟩ rfl rfl rfl rfl (fun _ => rfl) fun _ => ?_
        refine HQ.done ?_
        refine HQ.keep [(2, _), (3, _), (4, _), (5, _), (26, _)] ⟨rfl, rfl, rfl, rfl, rfl, trivial⟩ ?_
        rcases brk H with ⟨hc, H⟩ | ⟨hc, H⟩
        · refine HQ.condT rfl hc ?_
          clear hc
          obtain ⟨t147, h148, H⟩ := bnd H
          obtain ⟨t149, h150, H⟩ := bnd H
          obtain ⟨t151, h152, H⟩ := bnd H
          refine HQ.draw mixd [(2, BP b1 0), (3, BP b4 0), (4, BP b11 0), (5, .int .i64 i65)] 6 [⟨[0], [0], []⟩, ⟨[], [], []⟩, ⟨[1], [2], [1]⟩, ⟨[], [], []⟩, ⟨[2], [3], [3]⟩, ⟨[], [4], [4]⟩] [⟨none, none⟩, ⟨none, some 2⟩, ⟨some 2, some 4⟩, ⟨some 4, none⟩, ⟨some 5, none⟩] (fun (g146 : (Option Addr × Nat)) => [.agg #[.slice a140 (List.length t138.Cells) c141, .slice a142 (List.length t138.Wet) c143, .int .i64 t138.Fuse, .bool t138.Dead], BP b4 0, .int .i64 t147.1, BP b4 0, .agg #[.int .i64 t149.1.Epoch, .int .i64 t149.1.Seq, .int .i64 t149.1.Root, .int .i64 t149.1.Size], .slice g146.1 (List.length t151) g146.2]) (fun (g146 : (Option Addr × Nat)) => [Box b11 [.slice a140 (List.length t138.Cells) c141, .slice a142 (List.length t138.Wet) c143, .int .i64 t138.Fuse, .bool t138.Dead], Box b4 [.slice a_0 (List.length p0) c_0, .int .i64 t144.2.i, .int .i64 t144.2.h], Box b4 [.slice a_0 (List.length p0) c_0, .int .i64 t147.2.i, .int .i64 t147.2.h], Box b4 [.slice a_0 (List.length p0) c_0, .int .i64 t149.2.i, .int .i64 t149.2.h], OwnS kU8 g146.1 g146.2 t151]) (none, 0) [5, 2] [5, 2, 33] [] ⟨rfl, rfl, rfl, rfl, trivial⟩ ⟨rfl, rfl, trivial⟩ rfl (by kernel_rfl) (fun _ => rfl) (by kernel_rfl) (fun _ => rfl) ⟨?_, ?_, ?_, ?_, ?_, ?_, trivial⟩ fun g146 => ?_
          · exact OpOK.of (fun g146 => [(.tmp 4, BP b11 0)]) _ _ (fun g146 _ => g146) rfl rfl (fun _ => ⟨rfl, trivial⟩) (fun g146 => OT.loadBA (vs := [.slice a140 (List.length t138.Cells) c141, .slice a142 (List.length t138.Wet) c143, .int .i64 t138.Fuse, .bool t138.Dead]) ag27 sz27 rfl rfl) (fun _ _ => ⟨rfl, rfl, ⟨rfl, rfl, rfl, rfl, rfl, trivial⟩⟩)
          · exact OpOK.of (fun g146 => [(.tmp 3, BP b4 0)]) _ _ (fun g146 _ => g146) rfl rfl (fun _ => ⟨rfl, trivial⟩) (fun g146 => Pu.toOT Pu.move) (fun _ _ => ⟨rfl, rfl, ⟨rfl, rfl, rfl, rfl, rfl, trivial⟩⟩)
          · exact OpOK.of (fun g146 => [(.func 86, .func (.func 86) #[] #[]), (.tmp 28, BP b4 0), (.const (.int .i64 2), .int .i64 2)]) _ _ (fun g146 _ => g146) rfl rfl (fun _ => ⟨rfl, rfl, rfl, trivial⟩) (fun g146 => OT.callM (us := [_, _]) (PreX := [Box b4 [.slice a_0 (List.length p0) c_0, .int .i64 t144.2.i, .int .i64 t144.2.h]]) (PreL := []) [.tmp 28, .const (.int .i64 2)] Try.call86 rfl rfl fun w FX FL hs1 hF1 hs2 hF2 hp => spec_l1Below_c (p0 := (⟨p0, t144.2.i, t144.2.h⟩ : TCur)) (p1 := 2) hs1 hF1 (hb_0.passY hp) h148) (fun _ _ => ⟨rfl, rfl, ⟨rfl, rfl, rfl, rfl, rfl, trivial⟩⟩)
          · exact OpOK.of (fun g146 => [(.tmp 3, BP b4 0)]) _ _ (fun g146 _ => g146) rfl rfl (fun _ => ⟨rfl, trivial⟩) (fun g146 => Pu.toOT Pu.move) (fun _ _ => ⟨rfl, rfl, ⟨rfl, rfl, rfl, rfl, rfl, trivial⟩⟩)
          · exact OpOK.of (fun g146 => [(.func 116, .func (.func 116) #[] #[]), (.tmp 30, BP b4 0)]) _ _ (fun g146 _ => g146) rfl rfl (fun _ => ⟨rfl, rfl, trivial⟩) (fun g146 => OT.callM (us := [_]) (PreX := [Box b4 [.slice a_0 (List.length p0) c_0, .int .i64 t147.2.i, .int .i64 t147.2.h]]) (PreL := []) [.tmp 30] Try.call116 rfl rfl fun w FX FL hs1 hF1 hs2 hF2 hp => spec_l21Draw_c (p0 := (⟨p0, t147.2.i, t147.2.h⟩ : TCur)) hs1 hF1 (hb_0.passY hp) h150) (fun _ _ => ⟨rfl, rfl, ⟨rfl, rfl, rfl, rfl, rfl, trivial⟩⟩)
          · exact OpOK.of (fun g146 => [(.func 48, .func (.func 48) #[] #[]), (.tmp 31, .agg #[.int .i64 t149.1.Epoch, .int .i64 t149.1.Seq, .int .i64 t149.1.Root, .int .i64 t149.1.Size])]) _ _ (fun g146 x => x) rfl rfl (fun _ => ⟨rfl, rfl, trivial⟩) (fun g146 => OT.call (us := [_]) (Pre := []) [.tmp 31] Try.call48 rfl rfl fun w F hs hF hp => spec_HeadCell_c h152) (fun _ _ => ⟨rfl, rfl, ⟨rfl, rfl, rfl, rfl, rfl, trivial⟩⟩)
          refine HQ.keep [(2, _), (3, _), (4, _), (5, _), (27, _), (29, _), (32, _)] ⟨rfl, rfl, rfl, rfl, rfl, rfl, rfl, trivial⟩ ?_
          refine HQ.keepR [(1, _), (2, _), (5, _), (3, _), (4, _), (28, _), (29, _), (30, _), (31, _), (32, _), (33, _)] ⟨rfl, rfl, rfl, rfl, rfl, rfl, rfl, rfl, rfl, rfl, rfl, trivial⟩ rfl ?_
          obtain ⟨t155, h156, H⟩ := bnd H
          refine HQ.op [31, 32, 33] [34, 35, 31, 32, 33] (OT.call (us := [_, _, _]) (Pre := [OwnS kTCell a140 c141 t138.Cells, OwnS kTWet a142 c143 t138.Wet, OwnS kU8 g146.1 g146.2 t151]) [.tmp 27, .tmp 29, .tmp 32] Try.call20 rfl rfl fun w F hs hF hp => spec_Write_c (hs.lend hF 0 rfl) (hs.lend hF 1 rfl) (hs.lend hF 2 rfl) h156) ⟨rfl, rfl, rfl, rfl, trivial⟩ ⟨rfl, rfl, rfl, trivial⟩ rfl rfl rfl rfl (fun _ => rfl) fun ⟨⟨a157, c158⟩, ⟨a159, c160⟩⟩ => ?_
          refine HQ.opN [5] [5] [] (OT.storeC (cs' := [.slice a157 (List.length t155.Cells) c158, .slice a159 (List.length t155.Wet) c160, .int .i64 t155.Fuse, .bool t155.Dead]) sz27 rfl rfl rfl rfl rfl) ⟨rfl, rfl, trivial⟩ ⟨rfl, trivial⟩ rfl rfl rfl (fun _ => rfl) fun _ => ?_
          refine HQ.done ?_
          refine HQ.keep [(2, _), (3, _), (4, _), (5, _)] ⟨rfl, rfl, rfl, rfl, trivial⟩ ?_
          refine HQ.blkN ?_
          refine HQ.thenN ?_
          refine HQ.regionQ ?_
          refine HQ.pu Pu.move ⟨rfl, trivial⟩ rfl rfl rfl ?_
          refine HQ.pu Pu.sub ⟨rfl, rfl, trivial⟩ rfl rfl rfl ?_
          refine HQ.pu Pu.assign ⟨rfl, trivial⟩ rfl rfl rfl ?_
          refine HQ.done ?_
          refine HQ.keep [(2, _), (3, _), (4, _), (5, _)] ⟨rfl, rfl, rfl, rfl, trivial⟩ ?_
          refine HQ.mv 3 34 rfl rfl ?_
          refine HQ.mv 4 35 rfl rfl ?_
          obtain rfl := Option.some.inj H
          exact HQ.next ((a157, c158), (a159, c160)) ⟨rfl, rfl, rfl, rfl, trivial⟩ ⟨rfl, rfl, rfl, rfl, rfl, trivial⟩ rfl
        · refine HQ.condF rfl hc ?_
          clear hc
          refine HQ.skip ?_
          refine HQ.blkN ?_
          refine HQ.thenN ?_
          refine HQ.regionQ ?_
          refine HQ.pu Pu.move ⟨rfl, trivial⟩ rfl rfl rfl ?_
          refine HQ.pu Pu.sub ⟨rfl, rfl, trivial⟩ rfl rfl rfl ?_
          refine HQ.pu Pu.assign ⟨rfl, trivial⟩ rfl rfl rfl ?_
          refine HQ.done ?_
          refine HQ.keep [(2, _), (3, _), (4, _), (5, _)] ⟨rfl, rfl, rfl, rfl, trivial⟩ ?_
          refine HQ.mv 3 31 rfl rfl ?_
          refine HQ.mv 4 32 rfl rfl ?_
          obtain rfl := Option.some.inj H
          exact HQ.next ((a140, c141), (a142, c143)) ⟨rfl, rfl, rfl, rfl, trivial⟩ ⟨rfl, rfl, rfl, rfl, rfl, trivial⟩ rfl
      · refine HQ.condF rfl hc ?_
        clear hc
        refine HQ.skipThen ?_
        refine HQ.rseq ?_
        refine HQ.pu Pu.move ⟨rfl, trivial⟩ rfl rfl rfl ?_
        obtain ⟨t161, h162, H⟩ := bnd H
        refine HQ.op [2] [2] (OT.callM (us := [_, _]) (PreX := [Box b4 [.slice a_0 (List.length p0) c_0, .int .i64 t136.2.i, .int .i64 t136.2.h]]) (PreL := []) [.tmp 25, .const (.int .i64 6)] Try.call87 rfl rfl fun w FX FL hs1 hF1 hs2 hF2 hp => spec_l1Once_c (p0 := (⟨p0, t136.2.i, t136.2.h⟩ : TCur)) (p1 := 6) hs1 hF1 (hb_0.passY hp) h162) ⟨rfl, rfl, rfl, trivial⟩ ⟨rfl, trivial⟩ rfl rfl rfl rfl (fun _ => rfl) fun _ => ?_
        refine HQ.done ?_
        refine HQ.keep [(2, _), (3, _), (4, _), (5, _), (26, _)] ⟨rfl, rfl, rfl, rfl, rfl, trivial⟩ ?_
        rcases brk H with ⟨hc, H⟩ | ⟨hc, H⟩
        · refine HQ.condT rfl hc ?_
          clear hc
          obtain ⟨t164, h165, H⟩ := bnd H
          obtain ⟨t166, h167, H⟩ := bnd H
          obtain ⟨t168, h169, H⟩ := bnd H
          refine HQ.draw mixd [(2, BP b1 0), (3, BP b4 0), (4, BP b11 0), (5, .int .i64 i65)] 6 [⟨[0], [0], []⟩, ⟨[], [], []⟩, ⟨[1], [2], [1]⟩, ⟨[], [], []⟩, ⟨[2], [3], [3]⟩, ⟨[], [4], [4]⟩] [⟨none, none⟩, ⟨none, some 2⟩, ⟨some 2, some 4⟩, ⟨some 4, none⟩, ⟨some 5, none⟩] (fun (g163 : (Option Addr × Nat)) => [.agg #[.slice a132 (List.length t130.Cells) c133, .slice a134 (List.length t130.Wet) c135, .int .i64 t130.Fuse, .bool t130.Dead], BP b4 0, .int .i64 t164.1, BP b4 0, .agg #[.int .i64 t166.1.Epoch, .int .i64 t166.1.Seq, .int .i64 t166.1.Root, .int .i64 t166.1.Size], .slice g163.1 (List.length t168) g163.2]) (fun (g163 : (Option Addr × Nat)) => [Box b11 [.slice a132 (List.length t130.Cells) c133, .slice a134 (List.length t130.Wet) c135, .int .i64 t130.Fuse, .bool t130.Dead], Box b4 [.slice a_0 (List.length p0) c_0, .int .i64 t161.2.i, .int .i64 t161.2.h], Box b4 [.slice a_0 (List.length p0) c_0, .int .i64 t164.2.i, .int .i64 t164.2.h], Box b4 [.slice a_0 (List.length p0) c_0, .int .i64 t166.2.i, .int .i64 t166.2.h], OwnS kU8 g163.1 g163.2 t168]) (none, 0) [5, 2] [5, 2, 36] [] ⟨rfl, rfl, rfl, rfl, trivial⟩ ⟨rfl, rfl, trivial⟩ rfl (by kernel_rfl) (fun _ => rfl) (by kernel_rfl) (fun _ => rfl) ⟨?_, ?_, ?_, ?_, ?_, ?_, trivial⟩ fun g163 => ?_
          · exact OpOK.of (fun g163 => [(.tmp 4, BP b11 0)]) _ _ (fun g163 _ => g163) rfl rfl (fun _ => ⟨rfl, trivial⟩) (fun g163 => OT.loadBA (vs := [.slice a132 (List.length t130.Cells) c133, .slice a134 (List.length t130.Wet) c135, .int .i64 t130.Fuse, .bool t130.Dead]) ag27 sz27 rfl rfl) (fun _ _ => ⟨rfl, rfl, ⟨rfl, rfl, rfl, rfl, rfl, trivial⟩⟩)
          · exact OpOK.of (fun g163 => [(.tmp 3, BP b4 0)]) _ _ (fun g163 _ => g163) rfl rfl (fun _ => ⟨rfl, trivial⟩) (fun g163 => Pu.toOT Pu.move) (fun _ _ => ⟨rfl, rfl, ⟨rfl, rfl, rfl, rfl, rfl, trivial⟩⟩)
          · exact OpOK.of (fun g163 => [(.func 86, .func (.func 86) #[] #[]), (.tmp 28, BP b4 0), (.const (.int .i64 2), .int .i64 2)]) _ _ (fun g163 _ => g163) rfl rfl (fun _ => ⟨rfl, rfl, rfl, trivial⟩) (fun g163 => OT.callM (us := [_, _]) (PreX := [Box b4 [.slice a_0 (List.length p0) c_0, .int .i64 t161.2.i, .int .i64 t161.2.h]]) (PreL := []) [.tmp 28, .const (.int .i64 2)] Try.call86 rfl rfl fun w FX FL hs1 hF1 hs2 hF2 hp => spec_l1Below_c (p0 := (⟨p0, t161.2.i, t161.2.h⟩ : TCur)) (p1 := 2) hs1 hF1 (hb_0.passY hp) h165) (fun _ _ => ⟨rfl, rfl, ⟨rfl, rfl, rfl, rfl, rfl, trivial⟩⟩)
          · exact OpOK.of (fun g163 => [(.tmp 3, BP b4 0)]) _ _ (fun g163 _ => g163) rfl rfl (fun _ => ⟨rfl, trivial⟩) (fun g163 => Pu.toOT Pu.move) (fun _ _ => ⟨rfl, rfl, ⟨rfl, rfl, rfl, rfl, rfl, trivial⟩⟩)
          · exact OpOK.of (fun g163 => [(.func 116, .func (.func 116) #[] #[]), (.tmp 30, BP b4 0)]) _ _ (fun g163 _ => g163) rfl rfl (fun _ => ⟨rfl, rfl, trivial⟩) (fun g163 => OT.callM (us := [_]) (PreX := [Box b4 [.slice a_0 (List.length p0) c_0, .int .i64 t164.2.i, .int .i64 t164.2.h]]) (PreL := []) [.tmp 30] Try.call116 rfl rfl fun w FX FL hs1 hF1 hs2 hF2 hp => spec_l21Draw_c (p0 := (⟨p0, t164.2.i, t164.2.h⟩ : TCur)) hs1 hF1 (hb_0.passY hp) h167) (fun _ _ => ⟨rfl, rfl, ⟨rfl, rfl, rfl, rfl, rfl, trivial⟩⟩)
          · exact OpOK.of (fun g163 => [(.func 48, .func (.func 48) #[] #[]), (.tmp 31, .agg #[.int .i64 t166.1.Epoch, .int .i64 t166.1.Seq, .int .i64 t166.1.Root, .int .i64 t166.1.Size])]) _ _ (fun g163 x => x) rfl rfl (fun _ => ⟨rfl, rfl, trivial⟩) (fun g163 => OT.call (us := [_]) (Pre := []) [.tmp 31] Try.call48 rfl rfl fun w F hs hF hp => spec_HeadCell_c h169) (fun _ _ => ⟨rfl, rfl, ⟨rfl, rfl, rfl, rfl, rfl, trivial⟩⟩)
          refine HQ.keep [(2, _), (3, _), (4, _), (5, _), (27, _), (29, _), (32, _)] ⟨rfl, rfl, rfl, rfl, rfl, rfl, rfl, trivial⟩ ?_
          refine HQ.keepR [(1, _), (2, _), (5, _), (3, _), (4, _), (28, _), (29, _), (30, _), (36, _)] ⟨rfl, rfl, rfl, rfl, rfl, rfl, rfl, rfl, rfl, trivial⟩ rfl ?_
          obtain ⟨t172, h173, H⟩ := bnd H
          refine HQ.op [29, 30, 36] [37, 38, 29, 30, 36] (OT.call (us := [_, _, _]) (Pre := [OwnS kTCell a132 c133 t130.Cells, OwnS kTWet a134 c135 t130.Wet, OwnS kU8 g163.1 g163.2 t168]) [.tmp 27, .tmp 29, .tmp 32] Try.call20 rfl rfl fun w F hs hF hp => spec_Write_c (hs.lend hF 0 rfl) (hs.lend hF 1 rfl) (hs.lend hF 2 rfl) h173) ⟨rfl, rfl, rfl, rfl, trivial⟩ ⟨rfl, rfl, rfl, trivial⟩ rfl rfl rfl rfl (fun _ => rfl) fun ⟨⟨a174, c175⟩, ⟨a176, c177⟩⟩ => ?_
          refine HQ.opN [5] [5] [] (OT.storeC (cs' := [.slice a174 (List.length t172.Cells) c175, .slice a176 (List.length t172.Wet) c177, .int .i64 t172.Fuse, .bool t172.Dead]) sz27 rfl rfl rfl rfl rfl) ⟨rfl, rfl, trivial⟩ ⟨rfl, trivial⟩ rfl rfl rfl (fun _ => rfl) fun _ => ?_
          refine HQ.done ?_
          refine HQ.keep [(2, _), (3, _), (4, _), (5, _)] ⟨rfl, rfl, rfl, rfl, trivial⟩ ?_
          refine HQ.blkN ?_
          refine HQ.thenN ?_
          refine HQ.regionQ ?_
          refine HQ.pu Pu.move ⟨rfl, trivial⟩ rfl rfl rfl ?_
          refine HQ.pu Pu.sub ⟨rfl, rfl, trivial⟩ rfl rfl rfl ?_
          refine HQ.pu Pu.assign ⟨rfl, trivial⟩ rfl rfl rfl ?_
          refine HQ.done ?_
          refine HQ.keep [(2, _), (3, _), (4, _), (5, _)] ⟨rfl, rfl, rfl, rfl, trivial⟩ ?_
          refine HQ.mv 3 37 rfl rfl ?_
          refine HQ.mv 4 38 rfl rfl ?_
          obtain rfl := Option.some.inj H
          exact HQ.next ((a174, c175), (a176, c177)) ⟨rfl, rfl, rfl, rfl, trivial⟩ ⟨rfl, rfl, rfl, rfl, rfl, trivial⟩ rfl
        · refine HQ.condF rfl hc ?_
          clear hc
          refine HQ.skip ?_
          refine HQ.blkN ?_
          refine HQ.thenN ?_
          refine HQ.regionQ ?_
          refine HQ.pu Pu.move ⟨rfl, trivial⟩ rfl rfl rfl ?_
          refine HQ.pu Pu.sub ⟨rfl, rfl, trivial⟩ rfl rfl rfl ?_
          refine HQ.pu Pu.assign ⟨rfl, trivial⟩ rfl rfl rfl ?_
          refine HQ.done ?_
          refine HQ.keep [(2, _), (3, _), (4, _), (5, _)] ⟨rfl, rfl, rfl, rfl, trivial⟩ ?_
          refine HQ.mv 3 29 rfl rfl ?_
          refine HQ.mv 4 30 rfl rfl ?_
          obtain rfl := Option.some.inj H
          exact HQ.next ((a132, c133), (a134, c135)) ⟨rfl, rfl, rfl, rfl, trivial⟩ ⟨rfl, rfl, rfl, rfl, rfl, trivial⟩ rfl
    · refine HQ.condF rfl hc ?_
      clear hc
      refine HQ.exit ?_
      refine HQ.thenE ?_
      obtain rfl := Option.some.inj H
      exact HQ.out ((a69, c70), (a72, c73)) ⟨rfl, rfl, rfl, rfl, trivial⟩ ⟨rfl, rfl, rfl, rfl, rfl, trivial⟩ rfl
  · rintro ⟨i179, i180, i181, l182, l185, i188, q189⟩ rfl ⟨⟨a183, c184⟩, ⟨a186, c187⟩⟩
    clear h203
    replace H := H
    refine HQ.keep [(2, _), (3, _), (4, _), (5, _)] ⟨rfl, rfl, rfl, rfl, trivial⟩ ?_
    refine HQ.keepR [(1, _), (2, _), (5, _), (3, _), (4, _)] ⟨rfl, rfl, rfl, rfl, rfl, trivial⟩ rfl ?_
    refine HQ.blkE ?_
    refine HQ.thenN ?_
    refine HQ.seq ?_
    refine HQ.rseq ?_
    refine HQ.pu Pu.move ⟨rfl, trivial⟩ rfl rfl rfl ?_
    obtain ⟨t190, h191, H⟩ := bnd H
    refine HQ.op [2] [2] (OT.callM (us := [_, _]) (PreX := [Box b4 [.slice a_0 (List.length p0) c_0, .int .i64 i180, .int .i64 i181]]) (PreL := []) [.tmp 34, .const (.int .i64 3)] Try.call87 rfl rfl fun w FX FL hs1 hF1 hs2 hF2 hp => spec_l1Once_c (p0 := (⟨p0, i180, i181⟩ : TCur)) (p1 := 3) hs1 hF1 (hb_0.passY hp) h191) ⟨rfl, rfl, rfl, trivial⟩ ⟨rfl, trivial⟩ rfl rfl rfl rfl (fun _ => rfl) fun _ => ?_
    refine HQ.done ?_
    refine HQ.keep [(2, _), (3, _), (4, _), (35, _)] ⟨rfl, rfl, rfl, rfl, trivial⟩ ?_
    rcases brk H with ⟨hc, H⟩ | ⟨hc, H⟩
    · refine HQ.condT rfl hc ?_
      clear hc
      refine HQ.dStart mixd ?_
      obtain ⟨t193, h194, H⟩ := bnd H
      refine HQ.dPart [(2, BP b1 0), (3, BP b4 0), (4, BP b11 0)] 3 [⟨[0], [0], []⟩, ⟨[], [], []⟩, ⟨[1], [2, 3], [1]⟩] [⟨none, none⟩, ⟨none, some 2⟩, ⟨some 2, none⟩, ⟨some 2, none⟩] (fun (g192 : (Option Addr × Nat)) => [.agg #[.slice a183 (List.length l182) c184, .slice a186 (List.length l185) c187, .int .i64 i188, .bool q189], BP b4 0, .slice g192.1 (List.length t193.1) g192.2]) (fun (g192 : (Option Addr × Nat)) => [Box b11 [.slice a183 (List.length l182) c184, .slice a186 (List.length l185) c187, .int .i64 i188, .bool q189], Box b4 [.slice a_0 (List.length p0) c_0, .int .i64 t190.2.i, .int .i64 t190.2.h], OwnS kI g192.1 g192.2 t193.1, Box b4 [.slice a_0 (List.length p0) c_0, .int .i64 t193.2.i, .int .i64 t193.2.h]]) (none, 0) [5, 2] [5, 39, 2] [] ⟨rfl, rfl, rfl, trivial⟩ ⟨rfl, rfl, trivial⟩ rfl (by kernel_rfl) (by kernel_rfl) (fun _ => rfl) (by kernel_rfl) (fun _ => rfl) rfl ⟨?_, ?_, ?_, trivial⟩ fun g192 => ?_
      · exact OpOK2.of (fun g192 => [(.tmp 4, BP b11 0)]) _ _ (fun g192 _ => g192) rfl rfl (fun _ => ⟨rfl, trivial⟩) (fun g192 => OT.loadBA (vs := [.slice a183 (List.length l182) c184, .slice a186 (List.length l185) c187, .int .i64 i188, .bool q189]) ag27 sz27 rfl rfl) (fun _ _ => ⟨rfl, rfl, ⟨rfl, rfl, rfl, rfl, trivial⟩⟩)
      · exact OpOK2.of (fun g192 => [(.tmp 3, BP b4 0)]) _ _ (fun g192 _ => g192) rfl rfl (fun _ => ⟨rfl, trivial⟩) (fun g192 => Pu.toOT Pu.move) (fun _ _ => ⟨rfl, rfl, ⟨rfl, rfl, rfl, rfl, trivial⟩⟩)
      · exact OpOK2.of (fun g192 => [(.func 85, .func (.func 85) #[] #[]), (.tmp 37, BP b4 0), (.const (.int .i64 5), .int .i64 5)]) _ _ (fun g192 x => x) rfl rfl (fun _ => ⟨rfl, rfl, rfl, trivial⟩) (fun g192 => OT.callM (us := [_, _]) (PreX := [Box b4 [.slice a_0 (List.length p0) c_0, .int .i64 t190.2.i, .int .i64 t190.2.h]]) (PreL := []) [.tmp 37, .const (.int .i64 5)] Try.call85 rfl rfl fun w FX FL hs1 hF1 hs2 hF2 hp => spec_l18How_c (p0 := (⟨p0, t190.2.i, t190.2.h⟩ : TCur)) (p1 := 5) hs1 hF1 (hb_0.passY hp) h194) (fun _ _ => ⟨rfl, rfl, ⟨rfl, rfl, rfl, rfl, trivial⟩⟩)
      refine HQ.keep [(2, _), (4, _), (36, _), (38, _)] ⟨rfl, rfl, rfl, rfl, trivial⟩ ?_
      refine HQ.keepR [(1, _), (2, _), (5, _), (3, _), (4, _), (39, _)] ⟨rfl, rfl, rfl, rfl, rfl, rfl, trivial⟩ rfl ?_
      refine HQ.dRun 2 rfl rfl (by kernel_rfl) (by kernel_rfl) ?_
      obtain ⟨t197, h198, H⟩ := bnd H
      refine HQ.op [3, 4, 39] [40, 41, 3, 4, 39] (OT.call (us := [_, _, _]) (Pre := [OwnS kTCell a183 c184 l182, OwnS kTWet a186 c187 l185, OwnS kI g192.1 g192.2 t193.1]) [.tmp 36, .tmp 38, .const (.int .i64 (-1))] Try.call22 rfl rfl fun w F hs hF hp => spec_Crash_c (hs.lend hF 0 rfl) (hs.lend hF 1 rfl) (hs.lend hF 2 rfl) h198) ⟨rfl, rfl, rfl, rfl, trivial⟩ ⟨rfl, rfl, rfl, trivial⟩ rfl rfl rfl rfl (fun _ => rfl) fun ⟨⟨a199, c200⟩, ⟨a201, c202⟩⟩ => ?_
      refine HQ.opN [5] [5] [] (OT.storeC (cs' := [.slice a199 (List.length t197.Cells) c200, .slice a201 (List.length t197.Wet) c202, .int .i64 t197.Fuse, .bool t197.Dead]) sz27 rfl rfl rfl rfl rfl) ⟨rfl, rfl, trivial⟩ ⟨rfl, trivial⟩ rfl rfl rfl (fun _ => rfl) fun _ => ?_
      refine HQ.done ?_
      refine HQ.dEnd rfl ?_
      refine HQ.thenN ?_
      refine HQ.keep [(2, _), (4, _)] ⟨rfl, rfl, trivial⟩ ?_
      refine HQ.rseq ?_
      refine HQ.op [5] [5] (OT.loadBA (vs := [.slice a199 (List.length t197.Cells) c200, .slice a201 (List.length t197.Wet) c202, .int .i64 t197.Fuse, .bool t197.Dead]) ag27 sz27 rfl rfl) ⟨rfl, trivial⟩ ⟨rfl, trivial⟩ rfl rfl rfl rfl (fun _ => rfl) fun _ => ?_
      refine HQ.opN [1] [1] [] (OT.storeC (cs' := [.slice a199 (List.length t197.Cells) c200, .slice a201 (List.length t197.Wet) c202, .int .i64 t197.Fuse, .bool t197.Dead]) sz27 rfl rfl rfl rfl rfl) ⟨rfl, rfl, trivial⟩ ⟨rfl, trivial⟩ rfl rfl rfl (fun _ => rfl) fun _ => ?_
      refine HQ.done ?_
      refine HQ.keep [(2, _)] ⟨rfl, trivial⟩ ?_
      refine HQ.ret ?_
      obtain rfl := Option.some.inj H
      exact HQ.fin (vs := [_]) Try.results44 ((a199, c200), (a201, c202)) ⟨⟨_, _, 1, rfl, rfl, ag27, sz27, rfl⟩, trivial⟩ rfl [40, 41] ⟨rfl, rfl, trivial⟩ rfl
    · refine HQ.condF rfl hc ?_
      clear hc
      refine HQ.skipThen ?_
      refine HQ.rseq ?_
      refine HQ.op [5] [5] (OT.loadBA (vs := [.slice a183 (List.length l182) c184, .slice a186 (List.length l185) c187, .int .i64 i188, .bool q189]) ag27 sz27 rfl rfl) ⟨rfl, trivial⟩ ⟨rfl, trivial⟩ rfl rfl rfl rfl (fun _ => rfl) fun _ => ?_
      refine HQ.opN [1] [1] [] (OT.storeC (cs' := [.slice a183 (List.length l182) c184, .slice a186 (List.length l185) c187, .int .i64 i188, .bool q189]) sz27 rfl rfl rfl rfl rfl) ⟨rfl, rfl, trivial⟩ ⟨rfl, trivial⟩ rfl rfl rfl (fun _ => rfl) fun _ => ?_
      refine HQ.done ?_
      refine HQ.keep [(2, _)] ⟨rfl, trivial⟩ ?_
      refine HQ.ret ?_
      obtain rfl := Option.some.inj H
      exact HQ.fin (vs := [_]) Try.results44 ((a183, c184), (a186, c187)) ⟨⟨_, _, 1, rfl, rfl, ag27, sz27, rfl⟩, trivial⟩ rfl [3, 4] ⟨rfl, rfl, trivial⟩ rfl
  · exact fun r h a w hf => hf.elim

/-! impl.Read -/
theorem impl_Read_c {w : World} {k : Nat} {p0 : TDisk} {p1 : Int} {a_0 : Option Addr} {c_0 : Nat} {a_1 : Option Addr} {c_1 : Nat} (hb_0 : BorS kTCell a_0 c_0 p0.Cells w.heap (Lt w Nil)) (hb_1 : BorS kTWet a_1 c_1 p0.Wet w.heap (Lt w Nil)) {r : (List Int) × Bool} (H : impl_Read k p0 p1 = some r) :
    Calls Try.prog 17 #[.agg #[.slice a_0 (List.length p0.Cells) c_0, .slice a_1 (List.length p0.Wet) c_1, .int .i64 p0.Fuse, .bool p0.Dead], .int .i64 p1] w (Rt w Nil (fun g : Option Addr × Nat => .tuple #[.slice g.1 (List.length r.1) g.2, .bool r.2]) (fun g => [OwnS kU8 g.1 g.2 r.1])) := by
  rw [impl_Read] at H
  refine Calls.enter0 (N := 64) (us := [_, _]) Try.func17 rfl rfl rfl ?_
  refine HQ.rseq ?_
  refine HQ.op [] [1] (OT.box (cs := [.slice a_0 (List.length p0.Cells) c_0, .slice a_1 (List.length p0.Wet) c_1, .int .i64 p0.Fuse, .bool p0.Dead]) rfl) ⟨rfl, trivial⟩ trivial rfl rfl rfl rfl (fun _ => rfl) fun b1 => ?_
  refine HQ.pu Pu.assign ⟨rfl, trivial⟩ rfl rfl rfl ?_
  refine HQ.pu Pu.assign ⟨rfl, trivial⟩ rfl rfl rfl ?_
  refine HQ.done ?_
  refine HQ.keep [(1, _), (2, _), (4, _), (5, _)] ⟨rfl, rfl, rfl, rfl, trivial⟩ ?_
  refine HQ.seq ?_
  refine HQ.rseq ?_
  refine HQ.pu (Pu.fieldB fo27_1 rfl) ⟨rfl, trivial⟩ rfl rfl rfl ?_
  refine HQ.op [1] [1] (OT.loadB sc25 rfl) ⟨rfl, trivial⟩ ⟨rfl, trivial⟩ rfl rfl rfl rfl (fun _ => rfl) fun _ => ?_
  refine HQ.pu (Pu.len ul25) ⟨rfl, trivial⟩ rfl rfl rfl ?_
  refine HQ.pu Pu.sub ⟨rfl, rfl, trivial⟩ rfl rfl rfl ?_
  refine HQ.pu Pu.assign ⟨rfl, trivial⟩ rfl rfl rfl ?_
  refine HQ.done ?_
  refine HQ.keep [(1, _), (2, _), (4, _), (5, _), (6, _)] ⟨rfl, rfl, rfl, rfl, rfl, trivial⟩ ?_
  refine HQ.block ?_
  obtain ⟨o45, h73, H⟩ := bnd H
  refine HQ.loop h73 0 (fun (s : Int) (g : Unit) => match s, g with | i16, () => [(1, .int .i64 p1), (2, BP b1 0), (4, .slice none 0 0), (5, .bool false), (6, .int .i64 i16)]) (fun (s : Int) (g : Unit) => match s, g with | i16, () => [(1, Box b1 [.slice a_0 (List.length p0.Cells) c_0, .slice a_1 (List.length p0.Wet) c_1, .int .i64 p0.Fuse, .bool p0.Dead])]) (fun r => bodyPost Try.prog Try.f17 (Rt w Nil (fun g : Option Addr × Nat => .tuple #[.slice g.1 (List.length r.1) g.2, .bool r.2]) (fun g => [OwnS kU8 g.1 g.2 r.1])) .ret) () ⟨rfl, rfl, rfl, rfl, rfl, trivial⟩ ⟨rfl, trivial⟩ rfl ?_ ?_ ?_
  · clear H h73
    rintro i16 _ o H
    rw [impl_Read_b0] at H
    refine HQ.keep [(1, _), (2, _), (4, _), (5, _), (6, _)] ⟨rfl, rfl, rfl, rfl, rfl, trivial⟩ ?_
    refine HQ.keepR [(1, _)] ⟨rfl, trivial⟩ rfl ?_
    refine HQ.seq ?_
    refine HQ.rseq ?_
    refine HQ.pu Pu.move ⟨rfl, trivial⟩ rfl rfl rfl ?_
    refine HQ.pu Pu.geq ⟨rfl, rfl, trivial⟩ rfl rfl rfl ?_
    refine HQ.done ?_
    refine HQ.keep [(1, _), (2, _), (4, _), (5, _), (6, _), (12, _)] ⟨rfl, rfl, rfl, rfl, rfl, rfl, trivial⟩ ?_
    rcases brk H with ⟨hc, H⟩ | ⟨hc, H⟩
    · refine HQ.condT rfl hc ?_
      clear hc
      refine HQ.skipThen ?_
      refine HQ.seq ?_
      refine HQ.block ?_
      refine HQ.rseq ?_
      refine HQ.pu (Pu.fieldB fo27_1 rfl) ⟨rfl, trivial⟩ rfl rfl rfl ?_
      refine HQ.op [1] [1] (OT.loadB sc25 rfl) ⟨rfl, trivial⟩ ⟨rfl, trivial⟩ rfl rfl rfl rfl (fun _ => rfl) fun _ => ?_
      refine HQ.pu Pu.move ⟨rfl, trivial⟩ rfl rfl rfl ?_
      obtain ⟨h31, H⟩ := asr H
      refine HQ.op [] [] (OT.indexB ul25 sz110 hb_1 h31) ⟨rfl, rfl, trivial⟩ trivial rfl rfl rfl rfl (fun _ => rfl) fun _ => ?_
      refine HQ.pu (Pu.fieldE fo110_0 rfl) ⟨rfl, trivial⟩ rfl rfl rfl ?_
      obtain ⟨⟨a32, c33⟩, hb34, hn35⟩ := BorS.nest hb_1 h31
      refine HQ.op [] [] (OT.loadN (v := .int .i64 ((gt p0.Wet i16).At)) sc3 hn35 hlTWet rfl) ⟨rfl, trivial⟩ trivial rfl rfl rfl rfl (fun _ => rfl) fun _ => ?_
      refine HQ.pu Pu.move ⟨rfl, trivial⟩ rfl rfl rfl ?_
      refine HQ.pu Pu.eql ⟨rfl, rfl, trivial⟩ rfl rfl rfl ?_
      refine HQ.done ?_
      refine HQ.keep [(1, _), (2, _), (4, _), (5, _), (6, _), (22, _)] ⟨rfl, rfl, rfl, rfl, rfl, rfl, trivial⟩ ?_
      rcases brk H with ⟨hc, H⟩ | ⟨hc, H⟩
      · refine HQ.condT rfl hc ?_
        clear hc
        refine HQ.rseq ?_
        refine HQ.pu (Pu.fieldB fo27_1 rfl) ⟨rfl, trivial⟩ rfl rfl rfl ?_
        refine HQ.op [1] [1] (OT.loadB sc25 rfl) ⟨rfl, trivial⟩ ⟨rfl, trivial⟩ rfl rfl rfl rfl (fun _ => rfl) fun _ => ?_
        refine HQ.pu Pu.move ⟨rfl, trivial⟩ rfl rfl rfl ?_
        obtain ⟨h36, H⟩ := asr H
        refine HQ.op [] [] (OT.indexB ul25 sz110 hb_1 h36) ⟨rfl, rfl, trivial⟩ trivial rfl rfl rfl rfl (fun _ => rfl) fun _ => ?_
        refine HQ.pu (Pu.fieldE fo110_1 rfl) ⟨rfl, trivial⟩ rfl rfl rfl ?_
        obtain ⟨⟨a37, c38⟩, hb39, hn40⟩ := BorS.nest hb_1 h36
        refine HQ.op [] [] (OT.loadN (v := .slice a37 (List.length ((gt p0.Wet i16).B)) c38) sc22 hn40 hlTWet rfl) ⟨rfl, trivial⟩ trivial rfl rfl rfl rfl (fun _ => rfl) fun _ => ?_
        obtain ⟨t41, h42, H⟩ := bnd H
        refine HQ.op [] [4] (OT.call (us := [_]) (Pre := []) [.tmp 28] Try.call88 rfl rfl fun w F hs hF hp => slices_Clone_byte_byte_c (hb39.pass hp) h42) ⟨rfl, rfl, trivial⟩ trivial rfl rfl rfl rfl (fun _ => rfl) fun ⟨a43, c44⟩ => ?_
        refine HQ.pu Pu.assign ⟨rfl, trivial⟩ rfl rfl rfl ?_
        refine HQ.pu Pu.assign ⟨rfl, trivial⟩ rfl rfl rfl ?_
        refine HQ.done ?_
        refine HQ.keep [(1, _), (2, _), (4, _), (5, _), (6, _)] ⟨rfl, rfl, rfl, rfl, rfl, trivial⟩ ?_
        refine HQ.ret ?_
        refine HQ.blkR ?_
        refine HQ.thenR ?_
        obtain rfl := Option.some.inj H
        refine HQ.retL ?_
        exact HQ.fin (vs := [_, _]) Try.results17 (a43, c44) ⟨rfl, rfl, trivial⟩ rfl [4] ⟨rfl, trivial⟩ rfl
      · refine HQ.condF rfl hc ?_
        clear hc
        refine HQ.skip ?_
        refine HQ.blkN ?_
        refine HQ.thenN ?_
        refine HQ.regionQ ?_
        refine HQ.pu Pu.move ⟨rfl, trivial⟩ rfl rfl rfl ?_
        refine HQ.pu Pu.sub ⟨rfl, rfl, trivial⟩ rfl rfl rfl ?_
        refine HQ.pu Pu.assign ⟨rfl, trivial⟩ rfl rfl rfl ?_
        refine HQ.done ?_
        refine HQ.keep [(1, _), (2, _), (4, _), (5, _), (6, _)] ⟨rfl, rfl, rfl, rfl, rfl, trivial⟩ ?_
        obtain rfl := Option.some.inj H
        exact HQ.next () ⟨rfl, rfl, rfl, rfl, rfl, trivial⟩ ⟨rfl, trivial⟩ rfl
    · refine HQ.condF rfl hc ?_
      clear hc
      refine HQ.exit ?_
      refine HQ.thenE ?_
      obtain rfl := Option.some.inj H
      exact HQ.out () ⟨rfl, rfl, rfl, rfl, rfl, trivial⟩ ⟨rfl, trivial⟩ rfl
  · rintro i46 rfl _
    clear h73
    replace H := H
    refine HQ.keep [(1, _), (2, _), (4, _), (5, _), (6, _)] ⟨rfl, rfl, rfl, rfl, rfl, trivial⟩ ?_
    refine HQ.keepR [(1, _)] ⟨rfl, trivial⟩ rfl ?_
    refine HQ.blkE ?_
    refine HQ.thenN ?_
    refine HQ.seq ?_
    refine HQ.rseq ?_
    refine HQ.pu Pu.move ⟨rfl, trivial⟩ rfl rfl rfl ?_
    refine HQ.pu Pu.lss ⟨rfl, rfl, trivial⟩ rfl rfl rfl ?_
    refine HQ.pu Pu.move ⟨rfl, trivial⟩ rfl rfl rfl ?_
    refine HQ.cutAt 6 [(38, .bool ((decide (p1 < 0)) || (decide (p1 ≥ ((List.length p0.Cells : Nat) : Int))))), (1, .int .i64 p1), (2, BP b1 0), (4, .slice none 0 0), (5, .bool false)] [(1, Box b1 [.slice a_0 (List.length p0.Cells) c_0, .slice a_1 (List.length p0.Wet) c_1, .int .i64 p0.Fuse, .bool p0.Dead])] ?_ ?_
    · rcases Bool.eq_false_or_eq_true (decide (p1 < 0)) with hg47 | hg47
      · refine HQ.off rfl rfl hg47 rfl ?_
        refine HQ.off rfl rfl hg47 rfl ?_
        refine HQ.off rfl rfl hg47 rfl ?_
        refine HQ.off rfl rfl hg47 rfl ?_
        refine HQ.off rfl rfl hg47 rfl ?_
        refine HQ.pu (Pu.pickOT (u := (decide (p1 ≥ ((List.length p0.Cells : Nat) : Int)))) hg47) ⟨rfl, rfl, trivial⟩ rfl rfl rfl ?_
        exact HQ.mid ⟨rfl, rfl, rfl, rfl, rfl, trivial⟩ ⟨rfl, trivial⟩ rfl
      · refine HQ.on rfl rfl hg47 ?_
        refine HQ.pu Pu.move ⟨rfl, trivial⟩ rfl rfl rfl ?_
        refine HQ.on rfl rfl hg47 ?_
        refine HQ.pu (Pu.fieldB fo27_0 rfl) ⟨rfl, trivial⟩ rfl rfl rfl ?_
        refine HQ.on rfl rfl hg47 ?_
        refine HQ.op [1] [1] (OT.loadB sc24 rfl) ⟨rfl, trivial⟩ ⟨rfl, trivial⟩ rfl rfl rfl rfl (fun _ => rfl) fun _ => ?_
        refine HQ.on rfl rfl hg47 ?_
        refine HQ.pu (Pu.len ul24) ⟨rfl, trivial⟩ rfl rfl rfl ?_
        refine HQ.on rfl rfl hg47 ?_
        refine HQ.pu Pu.geq ⟨rfl, rfl, trivial⟩ rfl rfl rfl ?_
        refine HQ.pu (Pu.pickOF hg47) ⟨rfl, rfl, trivial⟩ rfl rfl rfl ?_
        exact HQ.mid ⟨rfl, rfl, rfl, rfl, rfl, trivial⟩ ⟨rfl, trivial⟩ rfl
    refine HQ.pu Pu.move ⟨rfl, trivial⟩ rfl rfl rfl ?_
    obtain ⟨c54, h55, H⟩ := bnd H
    refine HQ.cutAt 7 [(46, .bool c54), (1, .int .i64 p1), (2, BP b1 0), (4, .slice none 0 0), (5, .bool false)] [(1, Box b1 [.slice a_0 (List.length p0.Cells) c_0, .slice a_1 (List.length p0.Wet) c_1, .int .i64 p0.Fuse, .bool p0.Dead])] ?_ ?_
    · clear H
      have H := h55
      rcases brk H with ⟨hg48, H⟩ | ⟨hg48, H⟩
      · obtain rfl := Option.some.inj H
        refine HQ.off rfl rfl hg48 rfl ?_
        refine HQ.off rfl rfl hg48 rfl ?_
        refine HQ.off rfl rfl hg48 rfl ?_
        refine HQ.off rfl rfl hg48 rfl ?_
        refine HQ.off rfl rfl hg48 rfl ?_
        refine HQ.off rfl rfl hg48 rfl ?_
        refine HQ.pu (Pu.pickC1 hg48) ⟨rfl, rfl, trivial⟩ rfl rfl rfl ?_
        exact HQ.mid ⟨rfl, rfl, rfl, rfl, rfl, trivial⟩ ⟨rfl, trivial⟩ rfl
      · refine HQ.on rfl rfl hg48 ?_
        refine HQ.pu (Pu.fieldB fo27_0 rfl) ⟨rfl, trivial⟩ rfl rfl rfl ?_
        refine HQ.on rfl rfl hg48 ?_
        refine HQ.op [1] [1] (OT.loadB sc24 rfl) ⟨rfl, trivial⟩ ⟨rfl, trivial⟩ rfl rfl rfl rfl (fun _ => rfl) fun _ => ?_
        refine HQ.on rfl rfl hg48 ?_
        refine HQ.pu Pu.move ⟨rfl, trivial⟩ rfl rfl rfl ?_
        refine HQ.on rfl rfl hg48 ?_
        obtain ⟨h49, H⟩ := asr H
        refine HQ.op [] [] (OT.indexB ul24 sz113 hb_0 h49) ⟨rfl, rfl, trivial⟩ trivial rfl rfl rfl rfl (fun _ => rfl) fun _ => ?_
        refine HQ.on rfl rfl hg48 ?_
        refine HQ.pu (Pu.fieldE fo113_0 rfl) ⟨rfl, trivial⟩ rfl rfl rfl ?_
        refine HQ.on rfl rfl hg48 ?_
        obtain ⟨⟨a50, c51⟩, hb52, hn53⟩ := BorS.nest hb_0 h49
        refine HQ.op [] [] (OT.loadN (v := .bool ((gt p0.Cells p1).Bad)) sc4 hn53 hlTCell rfl) ⟨rfl, trivial⟩ trivial rfl rfl rfl rfl (fun _ => rfl) fun _ => ?_
        obtain rfl := Option.some.inj H
        refine HQ.pu (Pu.pickC0 hg48) ⟨rfl, rfl, trivial⟩ rfl rfl rfl ?_
        exact HQ.mid ⟨rfl, rfl, rfl, rfl, rfl, trivial⟩ ⟨rfl, trivial⟩ rfl
    refine HQ.pu Pu.move ⟨rfl, trivial⟩ rfl rfl rfl ?_
    obtain ⟨c62, h63, H⟩ := bnd H
    refine HQ.cutAt 9 [(56, .bool c62), (1, .int .i64 p1), (2, BP b1 0), (4, .slice none 0 0), (5, .bool false)] [(1, Box b1 [.slice a_0 (List.length p0.Cells) c_0, .slice a_1 (List.length p0.Wet) c_1, .int .i64 p0.Fuse, .bool p0.Dead])] ?_ ?_
    · clear H
      have H := h63
      rcases brk H with ⟨hg56, H⟩ | ⟨hg56, H⟩
      · obtain rfl := Option.some.inj H
        refine HQ.off rfl rfl hg56 rfl ?_
        refine HQ.off rfl rfl hg56 rfl ?_
        refine HQ.off rfl rfl hg56 rfl ?_
        refine HQ.off rfl rfl hg56 rfl ?_
        refine HQ.off rfl rfl hg56 rfl ?_
        refine HQ.off rfl rfl hg56 rfl ?_
        refine HQ.off rfl rfl hg56 rfl ?_
        refine HQ.off rfl rfl hg56 rfl ?_
        refine HQ.pu (Pu.pickC1 hg56) ⟨rfl, rfl, trivial⟩ rfl rfl rfl ?_
        exact HQ.mid ⟨rfl, rfl, rfl, rfl, rfl, trivial⟩ ⟨rfl, trivial⟩ rfl
      · refine HQ.on rfl rfl hg56 ?_
        refine HQ.pu (Pu.fieldB fo27_0 rfl) ⟨rfl, trivial⟩ rfl rfl rfl ?_
        refine HQ.on rfl rfl hg56 ?_
        refine HQ.op [1] [1] (OT.loadB sc24 rfl) ⟨rfl, trivial⟩ ⟨rfl, trivial⟩ rfl rfl rfl rfl (fun _ => rfl) fun _ => ?_
        refine HQ.on rfl rfl hg56 ?_
        refine HQ.pu Pu.move ⟨rfl, trivial⟩ rfl rfl rfl ?_
        refine HQ.on rfl rfl hg56 ?_
        obtain ⟨h57, H⟩ := asr H
        refine HQ.op [] [] (OT.indexB ul24 sz113 hb_0 h57) ⟨rfl, rfl, trivial⟩ trivial rfl rfl rfl rfl (fun _ => rfl) fun _ => ?_
        refine HQ.on rfl rfl hg56 ?_
        refine HQ.pu (Pu.fieldE fo113_1 rfl) ⟨rfl, trivial⟩ rfl rfl rfl ?_
        refine HQ.on rfl rfl hg56 ?_
        obtain ⟨⟨a58, c59⟩, hb60, hn61⟩ := BorS.nest hb_0 h57
        refine HQ.op [] [] (OT.loadN (v := .slice a58 (List.length ((gt p0.Cells p1).B)) c59) sc22 hn61 hlTCell rfl) ⟨rfl, trivial⟩ trivial rfl rfl rfl rfl (fun _ => rfl) fun _ => ?_
        refine HQ.on rfl rfl hg56 ?_
        refine HQ.pu (Pu.len ul22) ⟨rfl, trivial⟩ rfl rfl rfl ?_
        refine HQ.on rfl rfl hg56 ?_
        refine HQ.pu Pu.eql ⟨rfl, rfl, trivial⟩ rfl rfl rfl ?_
        obtain rfl := Option.some.inj H
        refine HQ.pu (Pu.pickC0 hg56) ⟨rfl, rfl, trivial⟩ rfl rfl rfl ?_
        exact HQ.mid ⟨rfl, rfl, rfl, rfl, rfl, trivial⟩ ⟨rfl, trivial⟩ rfl
    refine HQ.done ?_
    refine HQ.keep [(56, _), (1, _), (2, _), (4, _), (5, _)] ⟨rfl, rfl, rfl, rfl, rfl, trivial⟩ ?_
    rcases brk H with ⟨hc, H⟩ | ⟨hc, H⟩
    · refine HQ.condT rfl hc ?_
      clear hc
      refine HQ.rseq ?_
      refine HQ.pu Pu.assign ⟨rfl, trivial⟩ rfl rfl rfl ?_
      refine HQ.pu Pu.assign ⟨rfl, trivial⟩ rfl rfl rfl ?_
      refine HQ.done ?_
      refine HQ.keep [(1, _), (2, _), (4, _), (5, _)] ⟨rfl, rfl, rfl, rfl, trivial⟩ ?_
      refine HQ.ret ?_
      refine HQ.thenR ?_
      obtain rfl := Option.some.inj H
      refine HQ.nil kU8 5 rfl ?_
      exact HQ.fin (vs := [_, _]) Try.results17 (none, 0) ⟨rfl, rfl, trivial⟩ rfl [5] ⟨rfl, trivial⟩ rfl
    · refine HQ.condF rfl hc ?_
      clear hc
      refine HQ.skipThen ?_
      refine HQ.rseq ?_
      refine HQ.pu (Pu.fieldB fo27_0 rfl) ⟨rfl, trivial⟩ rfl rfl rfl ?_
      refine HQ.op [1] [1] (OT.loadB sc24 rfl) ⟨rfl, trivial⟩ ⟨rfl, trivial⟩ rfl rfl rfl rfl (fun _ => rfl) fun _ => ?_
      refine HQ.pu Pu.move ⟨rfl, trivial⟩ rfl rfl rfl ?_
      obtain ⟨h64, H⟩ := asr H
      refine HQ.op [] [] (OT.indexB ul24 sz113 hb_0 h64) ⟨rfl, rfl, trivial⟩ trivial rfl rfl rfl rfl (fun _ => rfl) fun _ => ?_
      refine HQ.pu (Pu.fieldE fo113_1 rfl) ⟨rfl, trivial⟩ rfl rfl rfl ?_
      obtain ⟨⟨a65, c66⟩, hb67, hn68⟩ := BorS.nest hb_0 h64
      refine HQ.op [] [] (OT.loadN (v := .slice a65 (List.length ((gt p0.Cells p1).B)) c66) sc22 hn68 hlTCell rfl) ⟨rfl, trivial⟩ trivial rfl rfl rfl rfl (fun _ => rfl) fun _ => ?_
      obtain ⟨t69, h70, H⟩ := bnd H
      refine HQ.op [] [6] (OT.call (us := [_]) (Pre := []) [.tmp 62] Try.call88 rfl rfl fun w F hs hF hp => slices_Clone_byte_byte_c (hb67.pass hp) h70) ⟨rfl, rfl, trivial⟩ trivial rfl rfl rfl rfl (fun _ => rfl) fun ⟨a71, c72⟩ => ?_
      refine HQ.pu Pu.assign ⟨rfl, trivial⟩ rfl rfl rfl ?_
      refine HQ.pu Pu.assign ⟨rfl, trivial⟩ rfl rfl rfl ?_
      refine HQ.done ?_
      refine HQ.keep [(4, _), (5, _)] ⟨rfl, rfl, trivial⟩ ?_
      refine HQ.ret ?_
      obtain rfl := Option.some.inj H
      exact HQ.fin (vs := [_, _]) Try.results17 (a71, c72) ⟨rfl, rfl, trivial⟩ rfl [6] ⟨rfl, trivial⟩ rfl
  · rintro r rfl a w hr
    obtain rfl := Option.some.inj H
    exact hr

/-! impl.BestHead -/
theorem impl_BestHead_c {w : World} {k : Nat} {p0 : TDisk} {a_0 : Option Addr} {c_0 : Nat} {a_1 : Option Addr} {c_1 : Nat} (hb_0 : BorS kTCell a_0 c_0 p0.Cells w.heap (Lt w Nil)) (hb_1 : BorS kTWet a_1 c_1 p0.Wet w.heap (Lt w Nil)) {r : THead × Bool} (H : impl_BestHead k p0 = some r) :
    Calls Try.prog 45 #[.agg #[.slice a_0 (List.length p0.Cells) c_0, .slice a_1 (List.length p0.Wet) c_1, .int .i64 p0.Fuse, .bool p0.Dead]] w (Rt w Nil (fun _ : Unit => .tuple #[.agg #[.int .i64 r.1.Epoch, .int .i64 r.1.Seq, .int .i64 r.1.Root, .int .i64 r.1.Size], .bool r.2]) (fun _ => [])) := by
  rw [impl_BestHead] at H
  refine Calls.enter0 (N := 49) (us := [_]) Try.func45 rfl rfl rfl ?_
  refine HQ.rseq ?_
  refine HQ.op [] [1] (OT.box (cs := [.slice a_0 (List.length p0.Cells) c_0, .slice a_1 (List.length p0.Wet) c_1, .int .i64 p0.Fuse, .bool p0.Dead]) rfl) ⟨rfl, trivial⟩ trivial rfl rfl rfl rfl (fun _ => rfl) fun b1 => ?_
  refine HQ.op [] [2] (OT.alloc zc68) trivial trivial rfl rfl rfl rfl (fun _ => rfl) fun b2 => ?_
  refine HQ.pu Pu.assign ⟨rfl, trivial⟩ rfl rfl rfl ?_
  refine HQ.done ?_
  refine HQ.keep [(1, _), (2, _), (3, _)] ⟨rfl, rfl, rfl, trivial⟩ ?_
  refine HQ.rseq ?_
  refine HQ.pu (Pu.build (us := []) (cs := [.int .i64 0, .int .i64 0, .int .i64 0, .int .i64 0]) [] st68 rfl rfl rfl) trivial rfl rfl rfl ?_
  refine HQ.op [] [3] (OT.alloc zc68) trivial trivial rfl rfl rfl rfl (fun _ => rfl) fun b3 => ?_
  refine HQ.opN [3] [3] [] (OT.storeC (cs' := [.int .i64 0, .int .i64 0, .int .i64 0, .int .i64 0]) sz68 rfl rfl rfl rfl rfl) ⟨rfl, rfl, trivial⟩ ⟨rfl, trivial⟩ rfl rfl rfl (fun _ => rfl) fun _ => ?_
  refine HQ.pu Pu.assign ⟨rfl, trivial⟩ rfl rfl rfl ?_
  refine HQ.done ?_
  refine HQ.keep [(1, _), (2, _), (3, _), (4, _), (5, _)] ⟨rfl, rfl, rfl, rfl, rfl, trivial⟩ ?_
  refine HQ.seq ?_
  refine HQ.rseq ?_
  refine HQ.pu Pu.move ⟨rfl, trivial⟩ rfl rfl rfl ?_
  refine HQ.done ?_
  refine HQ.keep [(1, _), (2, _), (3, _), (4, _), (5, _), (12, _)] ⟨rfl, rfl, rfl, rfl, rfl, rfl, trivial⟩ ?_
  refine HQ.block ?_
  obtain ⟨o40, h47, H⟩ := bnd H
  refine HQ.loop h47 0 (fun (s : Bool × Int × Int × Int × Int × Int) (g : Unit) => match s, g with | (q14, i15, i16, i17, i18, i19), () => [(1, BP b1 0), (2, BP b2 0), (3, .bool false), (4, BP b3 0), (5, .bool q14), (12, .int .i64 i15)]) (fun (s : Bool × Int × Int × Int × Int × Int) (g : Unit) => match s, g with | (q14, i15, i16, i17, i18, i19), () => [(1, Box b1 [.slice a_0 (List.length p0.Cells) c_0, .slice a_1 (List.length p0.Wet) c_1, .int .i64 p0.Fuse, .bool p0.Dead]), (2, Box b2 [.int .i64 0, .int .i64 0, .int .i64 0, .int .i64 0]), (3, Box b3 [.int .i64 i16, .int .i64 i17, .int .i64 i18, .int .i64 i19])]) (fun _ _ _ => False) () ⟨rfl, rfl, rfl, rfl, rfl, rfl, trivial⟩ ⟨rfl, rfl, rfl, trivial⟩ rfl ?_ ?_ ?_
  · clear H h47
    rintro ⟨q14, i15, i16, i17, i18, i19⟩ _ o H
    rw [impl_BestHead_b0] at H
    refine HQ.keep [(1, _), (2, _), (3, _), (4, _), (5, _), (12, _)] ⟨rfl, rfl, rfl, rfl, rfl, rfl, trivial⟩ ?_
    refine HQ.keepR [(1, _), (2, _), (3, _)] ⟨rfl, rfl, rfl, trivial⟩ rfl ?_
    refine HQ.rseq ?_
    refine HQ.pu Pu.lss ⟨rfl, rfl, trivial⟩ rfl rfl rfl ?_
    refine HQ.done ?_
    refine HQ.keep [(1, _), (2, _), (3, _), (4, _), (5, _), (12, _), (13, _)] ⟨rfl, rfl, rfl, rfl, rfl, rfl, rfl, trivial⟩ ?_
    refine HQ.seq ?_
    rcases brk H with ⟨hc, H⟩ | ⟨hc, H⟩
    · refine HQ.condT rfl hc ?_
      clear hc
      refine HQ.skipThen ?_
      refine HQ.seq ?_
      refine HQ.block ?_
      refine HQ.rseq ?_
      refine HQ.pu Pu.move ⟨rfl, trivial⟩ rfl rfl rfl ?_
      refine HQ.pu Pu.assign ⟨rfl, trivial⟩ rfl rfl rfl ?_
      refine HQ.done ?_
      refine HQ.keep [(1, _), (2, _), (3, _), (4, _), (5, _), (12, _), (6, _)] ⟨rfl, rfl, rfl, rfl, rfl, rfl, rfl, trivial⟩ ?_
      refine HQ.rseq ?_
      refine HQ.op [1] [1] (OT.loadBA (vs := [.slice a_0 (List.length p0.Cells) c_0, .slice a_1 (List.length p0.Wet) c_1, .int .i64 p0.Fuse, .bool p0.Dead]) ag27 sz27 rfl rfl) ⟨rfl, trivial⟩ ⟨rfl, trivial⟩ rfl rfl rfl rfl (fun _ => rfl) fun _ => ?_
      refine HQ.pu Pu.move ⟨rfl, trivial⟩ rfl rfl rfl ?_
      obtain ⟨t30, h31, H⟩ := bnd H
      refine HQ.op [] [8] (OT.call (us := [_, _]) (Pre := []) [.tmp 16, .tmp 17] Try.call17 rfl rfl fun w F hs hF hp => impl_Read_c (hb_0.pass hp) (hb_1.pass hp) h31) ⟨rfl, rfl, rfl, trivial⟩ trivial rfl rfl rfl rfl (fun _ => rfl) fun ⟨a32, c33⟩ => ?_
      refine HQ.pu Pu.move ⟨rfl, trivial⟩ rfl rfl rfl ?_
      refine HQ.pu (Pu.extract rfl) ⟨rfl, trivial⟩ rfl rfl rfl ?_
      refine HQ.pu (Pu.extract rfl) ⟨rfl, trivial⟩ rfl rfl rfl ?_
      refine HQ.pu Pu.assign ⟨rfl, trivial⟩ rfl rfl rfl ?_
      refine HQ.pu Pu.assign ⟨rfl, trivial⟩ rfl rfl rfl ?_
      refine HQ.done ?_
      refine HQ.keep [(1, _), (2, _), (3, _), (4, _), (5, _), (12, _), (6, _), (7, _)] ⟨rfl, rfl, rfl, rfl, rfl, rfl, rfl, rfl, trivial⟩ ?_
      refine HQ.rseq ?_
      refine HQ.pu Pu.move ⟨rfl, trivial⟩ rfl rfl rfl ?_
      obtain ⟨t34, h35, H⟩ := bnd H
      refine HQ.op [8] [8] (OT.call (us := [_]) (Pre := [OwnS kU8 a32 c33 t30.1]) [.tmp 22] Try.call41 rfl rfl fun w F hs hF hp => impl_GetHead_c (hs.lend hF 0 rfl) h35) ⟨rfl, rfl, trivial⟩ ⟨rfl, trivial⟩ rfl rfl rfl rfl (fun _ => rfl) fun _ => ?_
      refine HQ.pu Pu.move ⟨rfl, trivial⟩ rfl rfl rfl ?_
      refine HQ.pu (Pu.extract rfl) ⟨rfl, trivial⟩ rfl rfl rfl ?_
      refine HQ.pu (Pu.extract rfl) ⟨rfl, trivial⟩ rfl rfl rfl ?_
      refine HQ.op [] [9] (OT.alloc zc68) trivial trivial rfl rfl rfl rfl (fun _ => rfl) fun b36 => ?_
      refine HQ.opN [9] [9] [] (OT.storeC (cs' := [.int .i64 t34.1.Epoch, .int .i64 t34.1.Seq, .int .i64 t34.1.Root, .int .i64 t34.1.Size]) sz68 rfl rfl rfl rfl rfl) ⟨rfl, rfl, trivial⟩ ⟨rfl, trivial⟩ rfl rfl rfl (fun _ => rfl) fun _ => ?_
      refine HQ.pu Pu.assign ⟨rfl, trivial⟩ rfl rfl rfl ?_
      refine HQ.done ?_
      refine HQ.keep [(1, _), (2, _), (3, _), (4, _), (5, _), (12, _), (6, _), (9, _), (10, _)] ⟨rfl, rfl, rfl, rfl, rfl, rfl, rfl, rfl, rfl, trivial⟩ ?_
      refine HQ.rseq ?_
      refine HQ.pu Pu.move ⟨rfl, trivial⟩ rfl rfl rfl ?_
      refine HQ.pu Pu.move ⟨rfl, trivial⟩ rfl rfl rfl ?_
      refine HQ.cutAt 6 [(33, .bool (t34.2 && (decide ((Int.tmod t34.1.Epoch 2) = i15)))), (1, BP b1 0), (2, BP b2 0), (3, .bool false), (4, BP b3 0), (5, .bool q14), (12, .int .i64 i15), (9, BP b36 0)] [(1, Box b1 [.slice a_0 (List.length p0.Cells) c_0, .slice a_1 (List.length p0.Wet) c_1, .int .i64 p0.Fuse, .bool p0.Dead]), (2, Box b2 [.int .i64 0, .int .i64 0, .int .i64 0, .int .i64 0]), (3, Box b3 [.int .i64 i16, .int .i64 i17, .int .i64 i18, .int .i64 i19]), (8, OwnS kU8 a32 c33 t30.1), (9, Box b36 [.int .i64 t34.1.Epoch, .int .i64 t34.1.Seq, .int .i64 t34.1.Root, .int .i64 t34.1.Size])] ?_ ?_
      · rcases Bool.eq_false_or_eq_true t34.2 with hg37 | hg37
        · refine HQ.on rfl rfl hg37 ?_
          refine HQ.pu (Pu.fieldB fo68_0 rfl) ⟨rfl, trivial⟩ rfl rfl rfl ?_
          refine HQ.on rfl rfl hg37 ?_
          refine HQ.op [9] [9] (OT.loadB sc3 rfl) ⟨rfl, trivial⟩ ⟨rfl, trivial⟩ rfl rfl rfl rfl (fun _ => rfl) fun _ => ?_
          refine HQ.on rfl rfl hg37 ?_
          refine HQ.pu (Pu.rem (by decide)) ⟨rfl, rfl, trivial⟩ rfl rfl rfl ?_
          refine HQ.on rfl rfl hg37 ?_
          refine HQ.pu Pu.move ⟨rfl, trivial⟩ rfl rfl rfl ?_
          refine HQ.on rfl rfl hg37 ?_
          refine HQ.pu Pu.eql ⟨rfl, rfl, trivial⟩ rfl rfl rfl ?_
          refine HQ.pu (Pu.pickAT hg37) ⟨rfl, rfl, trivial⟩ rfl rfl rfl ?_
          exact HQ.mid ⟨rfl, rfl, rfl, rfl, rfl, rfl, rfl, rfl, trivial⟩ ⟨rfl, rfl, rfl, rfl, rfl, trivial⟩ rfl
        · refine HQ.off rfl rfl hg37 rfl ?_
          refine HQ.off rfl rfl hg37 rfl ?_
          refine HQ.off rfl rfl hg37 rfl ?_
          refine HQ.off rfl rfl hg37 rfl ?_
          refine HQ.off rfl rfl hg37 rfl ?_
          refine HQ.pu (Pu.pickAF (u := (decide ((Int.tmod t34.1.Epoch 2) = i15))) hg37) ⟨rfl, rfl, trivial⟩ rfl rfl rfl ?_
          exact HQ.mid ⟨rfl, rfl, rfl, rfl, rfl, rfl, rfl, rfl, trivial⟩ ⟨rfl, rfl, rfl, rfl, rfl, trivial⟩ rfl
      refine HQ.pu Pu.move ⟨rfl, trivial⟩ rfl rfl rfl ?_
      refine HQ.cutAt 10 [(44, .bool ((t34.2 && (decide ((Int.tmod t34.1.Epoch 2) = i15))) && ((!q14) || (decide (t34.1.Epoch > i16))))), (1, BP b1 0), (2, BP b2 0), (3, .bool false), (4, BP b3 0), (5, .bool q14), (12, .int .i64 i15), (9, BP b36 0)] [(1, Box b1 [.slice a_0 (List.length p0.Cells) c_0, .slice a_1 (List.length p0.Wet) c_1, .int .i64 p0.Fuse, .bool p0.Dead]), (2, Box b2 [.int .i64 0, .int .i64 0, .int .i64 0, .int .i64 0]), (3, Box b3 [.int .i64 i16, .int .i64 i17, .int .i64 i18, .int .i64 i19]), (8, OwnS kU8 a32 c33 t30.1), (9, Box b36 [.int .i64 t34.1.Epoch, .int .i64 t34.1.Seq, .int .i64 t34.1.Root, .int .i64 t34.1.Size])] ?_ ?_
      · rcases Bool.eq_false_or_eq_true (t34.2 && (decide ((Int.tmod t34.1.Epoch 2) = i15))) with hg38 | hg38
        · refine HQ.on rfl rfl hg38 ?_
          refine HQ.pu Pu.move ⟨rfl, trivial⟩ rfl rfl rfl ?_
          refine HQ.on rfl rfl hg38 ?_
          refine HQ.pu Pu.not ⟨rfl, trivial⟩ rfl rfl rfl ?_
          refine HQ.on rfl rfl hg38 ?_
          refine HQ.pu Pu.move ⟨rfl, trivial⟩ rfl rfl rfl ?_
          refine HQ.cutAt 6 [(43, .bool ((!q14) || (decide (t34.1.Epoch > i16)))), (1, BP b1 0), (2, BP b2 0), (3, .bool false), (4, BP b3 0), (5, .bool q14), (12, .int .i64 i15), (9, BP b36 0), (34, .bool (t34.2 && (decide ((Int.tmod t34.1.Epoch 2) = i15)))), (35, .bool q14), (36, .bool (!q14)), (37, .bool (!q14))] [(1, Box b1 [.slice a_0 (List.length p0.Cells) c_0, .slice a_1 (List.length p0.Wet) c_1, .int .i64 p0.Fuse, .bool p0.Dead]), (2, Box b2 [.int .i64 0, .int .i64 0, .int .i64 0, .int .i64 0]), (3, Box b3 [.int .i64 i16, .int .i64 i17, .int .i64 i18, .int .i64 i19]), (8, OwnS kU8 a32 c33 t30.1), (9, Box b36 [.int .i64 t34.1.Epoch, .int .i64 t34.1.Seq, .int .i64 t34.1.Root, .int .i64 t34.1.Size])] ?_ ?_
          · rcases Bool.eq_false_or_eq_true (!q14) with hg39 | hg39
            · refine HQ.off rfl rfl hg39 rfl ?_
              refine HQ.off rfl rfl hg39 rfl ?_
              refine HQ.off rfl rfl hg39 rfl ?_
              refine HQ.off rfl rfl hg39 rfl ?_
              refine HQ.off rfl rfl hg39 rfl ?_
              refine HQ.on rfl rfl hg38 ?_
              refine HQ.pu (Pu.pickOT (u := (decide (t34.1.Epoch > i16))) hg39) ⟨rfl, rfl, trivial⟩ rfl rfl rfl ?_
              exact HQ.mid ⟨rfl, rfl, rfl, rfl, rfl, rfl, rfl, rfl, rfl, rfl, rfl, rfl, trivial⟩ ⟨rfl, rfl, rfl, rfl, rfl, trivial⟩ rfl
            · refine HQ.on rfl rfl hg39 ?_
              refine HQ.pu (Pu.fieldB fo68_0 rfl) ⟨rfl, trivial⟩ rfl rfl rfl ?_
              refine HQ.on rfl rfl hg39 ?_
              refine HQ.op [9] [9] (OT.loadB sc3 rfl) ⟨rfl, trivial⟩ ⟨rfl, trivial⟩ rfl rfl rfl rfl (fun _ => rfl) fun _ => ?_
              refine HQ.on rfl rfl hg39 ?_
              refine HQ.pu (Pu.fieldB fo68_0 rfl) ⟨rfl, trivial⟩ rfl rfl rfl ?_
              refine HQ.on rfl rfl hg39 ?_
              refine HQ.op [3] [3] (OT.loadB sc3 rfl) ⟨rfl, trivial⟩ ⟨rfl, trivial⟩ rfl rfl rfl rfl (fun _ => rfl) fun _ => ?_
              refine HQ.on rfl rfl hg39 ?_
              refine HQ.pu Pu.gtr ⟨rfl, rfl, trivial⟩ rfl rfl rfl ?_
              refine HQ.on rfl rfl hg38 ?_
              refine HQ.pu (Pu.pickOF hg39) ⟨rfl, rfl, trivial⟩ rfl rfl rfl ?_
              exact HQ.mid ⟨rfl, rfl, rfl, rfl, rfl, rfl, rfl, rfl, rfl, rfl, rfl, rfl, trivial⟩ ⟨rfl, rfl, rfl, rfl, rfl, trivial⟩ rfl
          refine HQ.pu (Pu.pickAT hg38) ⟨rfl, rfl, trivial⟩ rfl rfl rfl ?_
          exact HQ.mid ⟨rfl, rfl, rfl, rfl, rfl, rfl, rfl, rfl, trivial⟩ ⟨rfl, rfl, rfl, rfl, rfl, trivial⟩ rfl
        · refine HQ.off rfl rfl hg38 rfl ?_
          refine HQ.off rfl rfl hg38 rfl ?_
          refine HQ.off rfl rfl hg38 rfl ?_
          refine HQ.offU rfl rfl rfl ?_
          refine HQ.offU rfl rfl rfl ?_
          refine HQ.offU rfl rfl rfl ?_
          refine HQ.offU rfl rfl rfl ?_
          refine HQ.offU rfl rfl rfl ?_
          refine HQ.off rfl rfl hg38 rfl ?_
          refine HQ.pu (Pu.pickAF (u := ((!q14) || (decide (t34.1.Epoch > i16)))) hg38) ⟨rfl, rfl, trivial⟩ rfl rfl rfl ?_
          exact HQ.mid ⟨rfl, rfl, rfl, rfl, rfl, rfl, rfl, rfl, trivial⟩ ⟨rfl, rfl, rfl, rfl, rfl, trivial⟩ rfl
      refine HQ.done ?_
      refine HQ.keep [(44, _), (1, _), (2, _), (3, _), (4, _), (5, _), (12, _), (9, _)] ⟨rfl, rfl, rfl, rfl, rfl, rfl, rfl, rfl, trivial⟩ ?_
      rcases brk H with ⟨hc, H⟩ | ⟨hc, H⟩
      · refine HQ.condT rfl hc ?_
        clear hc
        refine HQ.regionQ ?_
        refine HQ.op [9] [9] (OT.loadBA (vs := [.int .i64 t34.1.Epoch, .int .i64 t34.1.Seq, .int .i64 t34.1.Root, .int .i64 t34.1.Size]) ag68 sz68 rfl rfl) ⟨rfl, trivial⟩ ⟨rfl, trivial⟩ rfl rfl rfl rfl (fun _ => rfl) fun _ => ?_
        refine HQ.opN [3] [3] [] (OT.storeC (cs' := [.int .i64 t34.1.Epoch, .int .i64 t34.1.Seq, .int .i64 t34.1.Root, .int .i64 t34.1.Size]) sz68 rfl rfl rfl rfl rfl) ⟨rfl, rfl, trivial⟩ ⟨rfl, trivial⟩ rfl rfl rfl (fun _ => rfl) fun _ => ?_
        refine HQ.pu Pu.assign ⟨rfl, trivial⟩ rfl rfl rfl ?_
        refine HQ.done ?_
        refine HQ.keep [(1, _), (2, _), (3, _), (4, _), (5, _), (12, _)] ⟨rfl, rfl, rfl, rfl, rfl, rfl, trivial⟩ ?_
        refine HQ.blkN ?_
        refine HQ.thenN ?_
        refine HQ.regionQ ?_
        refine HQ.pu Pu.add ⟨rfl, rfl, trivial⟩ rfl rfl rfl ?_
        refine HQ.pu Pu.move ⟨rfl, trivial⟩ rfl rfl rfl ?_
        refine HQ.done ?_
        refine HQ.keep [(1, _), (2, _), (3, _), (4, _), (5, _), (12, _)] ⟨rfl, rfl, rfl, rfl, rfl, rfl, trivial⟩ ?_
        obtain rfl := Option.some.inj H
        exact HQ.next () ⟨rfl, rfl, rfl, rfl, rfl, rfl, trivial⟩ ⟨rfl, rfl, rfl, trivial⟩ rfl
      · refine HQ.condF rfl hc ?_
        clear hc
        refine HQ.skip ?_
        refine HQ.blkN ?_
        refine HQ.thenN ?_
        refine HQ.regionQ ?_
        refine HQ.pu Pu.add ⟨rfl, rfl, trivial⟩ rfl rfl rfl ?_
        refine HQ.pu Pu.move ⟨rfl, trivial⟩ rfl rfl rfl ?_
        refine HQ.done ?_
        refine HQ.keep [(1, _), (2, _), (3, _), (4, _), (5, _), (12, _)] ⟨rfl, rfl, rfl, rfl, rfl, rfl, trivial⟩ ?_
        obtain rfl := Option.some.inj H
        exact HQ.next () ⟨rfl, rfl, rfl, rfl, rfl, rfl, trivial⟩ ⟨rfl, rfl, rfl, trivial⟩ rfl
    · refine HQ.condF rfl hc ?_
      clear hc
      refine HQ.exit ?_
      refine HQ.thenE ?_
      obtain rfl := Option.some.inj H
      exact HQ.out () ⟨rfl, rfl, rfl, rfl, rfl, rfl, trivial⟩ ⟨rfl, rfl, rfl, trivial⟩ rfl
  · rintro ⟨q41, i42, i43, i44, i45, i46⟩ rfl _
    clear h47
    replace H := H
    refine HQ.keep [(1, _), (2, _), (3, _), (4, _), (5, _), (12, _)] ⟨rfl, rfl, rfl, rfl, rfl, rfl, trivial⟩ ?_
    refine HQ.keepR [(1, _), (2, _), (3, _)] ⟨rfl, rfl, rfl, trivial⟩ rfl ?_
    refine HQ.blkE ?_
    refine HQ.thenN ?_
    refine HQ.rseq ?_
    refine HQ.op [3] [3] (OT.loadBA (vs := [.int .i64 i43, .int .i64 i44, .int .i64 i45, .int .i64 i46]) ag68 sz68 rfl rfl) ⟨rfl, trivial⟩ ⟨rfl, trivial⟩ rfl rfl rfl rfl (fun _ => rfl) fun _ => ?_
    refine HQ.pu Pu.move ⟨rfl, trivial⟩ rfl rfl rfl ?_
    refine HQ.opN [2] [2] [] (OT.storeC (cs' := [.int .i64 i43, .int .i64 i44, .int .i64 i45, .int .i64 i46]) sz68 rfl rfl rfl rfl rfl) ⟨rfl, rfl, trivial⟩ ⟨rfl, trivial⟩ rfl rfl rfl (fun _ => rfl) fun _ => ?_
    refine HQ.pu Pu.assign ⟨rfl, trivial⟩ rfl rfl rfl ?_
    refine HQ.done ?_
    refine HQ.keep [(2, _), (3, _)] ⟨rfl, rfl, trivial⟩ ?_
    refine HQ.ret ?_
    obtain rfl := Option.some.inj H
    exact HQ.fin (vs := [_, _]) Try.results45 () ⟨⟨_, _, 2, rfl, rfl, ag68, sz68, rfl⟩, rfl, trivial⟩ rfl [] trivial rfl
  · exact fun r h a w hf => hf.elim

end Go.Proofs.Sx
