import Derived.Test.YtkhommmhkeohbaaQcF11
import Derived.KernelRfl
namespace Go.Proofs.Sx
open Go.RowKit
set_option linter.unusedVariables false
set_option linter.unusedSimpArgs false
set_option maxRecDepth 20000
set_option maxHeartbeats 1000000
/-! laws.FnHeads -/
theorem laws_FnHeads_c {w : World} {k : Nat} {p0 : (List Int)} {a_0 : Option Addr} {c_0 : Nat} (hb_0 : BorS kU8 a_0 c_0 p0 w.heap (Lt w Nil)) {r : Bool} (H : laws_FnHeads k p0 = some r) :
    Calls Try.prog 5 #[.slice a_0 (List.length p0) c_0] w (Rt w Nil (fun _ : Unit => .bool r) (fun _ => [])) := by
  rw [laws_FnHeads] at H
  refine Calls.enter0 (N := 162) (us := [_]) Try.func5 rfl rfl rfl ?_
  refine HQ.rseq ?_
  refine HQ.pu Pu.assign ⟨rfl, trivial⟩ rfl rfl rfl ?_
  refine HQ.done ?_
  refine HQ.keep [(0, _), (2, _)] ⟨rfl, rfl, trivial⟩ ?_
  refine HQ.seq ?_
  refine HQ.rseq ?_
  refine HQ.pu Pu.move ⟨rfl, trivial⟩ rfl rfl rfl ?_
  obtain ⟨t1, h2, H⟩ := bnd H
  refine HQ.op [] [] (OT.call (us := [_]) (Pre := []) [.tmp 23] Try.call9 rfl rfl fun w F hs hF hp => laws_big_c h2) ⟨rfl, rfl, trivial⟩ trivial rfl rfl rfl rfl (fun _ => rfl) fun _ => ?_
  refine HQ.done ?_
  refine HQ.keep [(0, _), (2, _), (24, _)] ⟨rfl, rfl, rfl, trivial⟩ ?_
  rcases brk H with ⟨hc, H⟩ | ⟨hc, H⟩
  · refine HQ.condT rfl hc ?_
    clear hc
    refine HQ.rseq ?_
    refine HQ.pu Pu.assign ⟨rfl, trivial⟩ rfl rfl rfl ?_
    refine HQ.done ?_
    refine HQ.keep [(0, _), (2, _)] ⟨rfl, rfl, trivial⟩ ?_
    refine HQ.ret ?_
    refine HQ.thenR ?_
    obtain rfl := Option.some.inj H
    exact HQ.fin (vs := [_]) Try.results5 () ⟨rfl, trivial⟩ rfl [] trivial rfl
  · refine HQ.condF rfl hc ?_
    clear hc
    refine HQ.skipThen ?_
    refine HQ.rseq ?_
    refine HQ.pu Pu.move ⟨rfl, trivial⟩ rfl rfl rfl ?_
    obtain ⟨t3, h4, H⟩ := bnd H
    refine HQ.op [] [] (OT.call (us := [_]) (Pre := []) [.tmp 25] Try.call39 rfl rfl fun w F hs hF hp => spec_DrawHeadOk_c (hb_0.pass hp) h4) ⟨rfl, rfl, trivial⟩ trivial rfl rfl rfl rfl (fun _ => rfl) fun _ => ?_
    refine HQ.op [] [1] (OT.alloc zc68) trivial trivial rfl rfl rfl rfl (fun _ => rfl) fun b5 => ?_
    refine HQ.opN [1] [1] [] (OT.storeC (cs' := [.int .i64 t3.Epoch, .int .i64 t3.Seq, .int .i64 t3.Root, .int .i64 t3.Size]) sz68 rfl rfl rfl rfl rfl) ⟨rfl, rfl, trivial⟩ ⟨rfl, trivial⟩ rfl rfl rfl (fun _ => rfl) fun _ => ?_
    refine HQ.done ?_
    refine HQ.keep [(0, _), (2, _), (3, _)] ⟨rfl, rfl, rfl, trivial⟩ ?_
    refine HQ.rseq ?_
    refine HQ.op [1] [1] (OT.loadBA (vs := [.int .i64 t3.Epoch, .int .i64 t3.Seq, .int .i64 t3.Root, .int .i64 t3.Size]) ag68 sz68 rfl rfl) ⟨rfl, trivial⟩ ⟨rfl, trivial⟩ rfl rfl rfl rfl (fun _ => rfl) fun _ => ?_
    obtain ⟨t6, h7, H⟩ := bnd H
    refine HQ.op [] [2] (OT.call (us := [_]) (Pre := []) [.tmp 27] Try.call40 rfl rfl fun w F hs hF hp => impl_HeadCell_c h7) ⟨rfl, rfl, trivial⟩ trivial rfl rfl rfl rfl (fun _ => rfl) fun ⟨a8, c9⟩ => ?_
    refine HQ.pu Pu.assign ⟨rfl, trivial⟩ rfl rfl rfl ?_
    refine HQ.done ?_
    refine HQ.keep [(0, _), (2, _), (3, _), (4, _)] ⟨rfl, rfl, rfl, rfl, trivial⟩ ?_
    refine HQ.rseq ?_
    refine HQ.pu Pu.move ⟨rfl, trivial⟩ rfl rfl rfl ?_
    obtain ⟨t10, h11, H⟩ := bnd H
    refine HQ.op [2] [3, 2] (OT.call (us := [_, _]) (Pre := [OwnS kU8 a8 c9 t6]) [.tmp 30, .const (.int .i64 32)] Try.call24 rfl rfl fun w F hs hF hp => impl_Pad_c (hs.lend hF 0 rfl) h11) ⟨rfl, rfl, rfl, trivial⟩ ⟨rfl, trivial⟩ rfl rfl rfl rfl (fun _ => rfl) fun ⟨a12, c13⟩ => ?_
    obtain ⟨t14, h15, H⟩ := bnd H
    refine HQ.op [3] [3] (OT.call (us := [_]) (Pre := [OwnS kU8 a12 c13 t10]) [.tmp 31] Try.call41 rfl rfl fun w F hs hF hp => impl_GetHead_c (hs.lend hF 0 rfl) h15) ⟨rfl, rfl, trivial⟩ ⟨rfl, trivial⟩ rfl rfl rfl rfl (fun _ => rfl) fun _ => ?_
    refine HQ.pu Pu.move ⟨rfl, trivial⟩ rfl rfl rfl ?_
    refine HQ.pu (Pu.extract rfl) ⟨rfl, trivial⟩ rfl rfl rfl ?_
    refine HQ.pu (Pu.extract rfl) ⟨rfl, trivial⟩ rfl rfl rfl ?_
    refine HQ.op [] [4] (OT.alloc zc68) trivial trivial rfl rfl rfl rfl (fun _ => rfl) fun b16 => ?_
    refine HQ.opN [4] [4] [] (OT.storeC (cs' := [.int .i64 t14.1.Epoch, .int .i64 t14.1.Seq, .int .i64 t14.1.Root, .int .i64 t14.1.Size]) sz68 rfl rfl rfl rfl rfl) ⟨rfl, rfl, trivial⟩ ⟨rfl, trivial⟩ rfl rfl rfl (fun _ => rfl) fun _ => ?_
    refine HQ.pu Pu.assign ⟨rfl, trivial⟩ rfl rfl rfl ?_
    refine HQ.done ?_
    refine HQ.keep [(0, _), (2, _), (3, _), (4, _), (5, _), (6, _)] ⟨rfl, rfl, rfl, rfl, rfl, rfl, trivial⟩ ?_
    refine HQ.rseq ?_
    refine HQ.pu Pu.move ⟨rfl, trivial⟩ rfl rfl rfl ?_
    obtain ⟨t17, h18, H⟩ := bnd H
    refine HQ.op [] [5] (OT.call (us := [_]) (Pre := []) [.tmp 35] Try.call42 rfl rfl fun w F hs hF hp => spec_DrawGetHead_c (hb_0.pass hp) h18) ⟨rfl, rfl, trivial⟩ trivial rfl rfl rfl rfl (fun _ => rfl) fun ⟨a19, c20⟩ => ?_
    refine HQ.pu Pu.assign ⟨rfl, trivial⟩ rfl rfl rfl ?_
    refine HQ.done ?_
    refine HQ.keep [(0, _), (2, _), (3, _), (4, _), (5, _), (6, _), (7, _)] ⟨rfl, rfl, rfl, rfl, rfl, rfl, rfl, trivial⟩ ?_
    refine HQ.rseq ?_
    refine HQ.pu Pu.move ⟨rfl, trivial⟩ rfl rfl rfl ?_
    obtain ⟨t21, h22, H⟩ := bnd H
    refine HQ.op [5] [5] (OT.call (us := [_]) (Pre := [OwnS kU8 a19 c20 t17]) [.tmp 38] Try.call41 rfl rfl fun w F hs hF hp => impl_GetHead_c (hs.lend hF 0 rfl) h22) ⟨rfl, rfl, trivial⟩ ⟨rfl, trivial⟩ rfl rfl rfl rfl (fun _ => rfl) fun _ => ?_
    refine HQ.pu Pu.move ⟨rfl, trivial⟩ rfl rfl rfl ?_
    refine HQ.pu (Pu.extract rfl) ⟨rfl, trivial⟩ rfl rfl rfl ?_
    refine HQ.pu (Pu.extract rfl) ⟨rfl, trivial⟩ rfl rfl rfl ?_
    refine HQ.op [] [6] (OT.alloc zc68) trivial trivial rfl rfl rfl rfl (fun _ => rfl) fun b23 => ?_
    refine HQ.opN [6] [6] [] (OT.storeC (cs' := [.int .i64 t21.1.Epoch, .int .i64 t21.1.Seq, .int .i64 t21.1.Root, .int .i64 t21.1.Size]) sz68 rfl rfl rfl rfl rfl) ⟨rfl, rfl, trivial⟩ ⟨rfl, trivial⟩ rfl rfl rfl (fun _ => rfl) fun _ => ?_
    refine HQ.pu Pu.assign ⟨rfl, trivial⟩ rfl rfl rfl ?_
    refine HQ.done ?_
    refine HQ.keep [(0, _), (2, _), (3, _), (4, _), (5, _), (6, _), (7, _), (8, _), (9, _)] ⟨rfl, rfl, rfl, rfl, rfl, rfl, rfl, rfl, rfl, trivial⟩ ?_
    refine HQ.rseq ?_
    refine HQ.pu Pu.move ⟨rfl, trivial⟩ rfl rfl rfl ?_
    obtain ⟨t24, h25, H⟩ := bnd H
    refine HQ.op [5] [5] (OT.call (us := [_]) (Pre := [OwnS kU8 a19 c20 t17]) [.tmp 43] Try.call43 rfl rfl fun w F hs hF hp => spec_GetHead_c (hs.lend hF 0 rfl) h25) ⟨rfl, rfl, trivial⟩ ⟨rfl, trivial⟩ rfl rfl rfl rfl (fun _ => rfl) fun _ => ?_
    refine HQ.pu Pu.move ⟨rfl, trivial⟩ rfl rfl rfl ?_
    refine HQ.pu (Pu.extract rfl) ⟨rfl, trivial⟩ rfl rfl rfl ?_
    refine HQ.pu (Pu.extract rfl) ⟨rfl, trivial⟩ rfl rfl rfl ?_
    refine HQ.op [] [7] (OT.alloc zc68) trivial trivial rfl rfl rfl rfl (fun _ => rfl) fun b26 => ?_
    refine HQ.opN [7] [7] [] (OT.storeC (cs' := [.int .i64 t24.1.Epoch, .int .i64 t24.1.Seq, .int .i64 t24.1.Root, .int .i64 t24.1.Size]) sz68 rfl rfl rfl rfl rfl) ⟨rfl, rfl, trivial⟩ ⟨rfl, trivial⟩ rfl rfl rfl (fun _ => rfl) fun _ => ?_
    refine HQ.pu Pu.assign ⟨rfl, trivial⟩ rfl rfl rfl ?_
    refine HQ.done ?_
    refine HQ.keep [(0, _), (2, _), (3, _), (4, _), (5, _), (6, _), (8, _), (9, _), (10, _), (11, _)] ⟨rfl, rfl, rfl, rfl, rfl, rfl, rfl, rfl, rfl, rfl, trivial⟩ ?_
    refine HQ.rseq ?_
    refine HQ.pu Pu.move ⟨rfl, trivial⟩ rfl rfl rfl ?_
    obtain ⟨t27, h28, H⟩ := bnd H
    refine HQ.op [] [8, 9] (OT.call (us := [_]) (Pre := []) [.tmp 47] Try.call44 rfl rfl fun w F hs hF hp => spec_DrawBestHead_c (hb_0.pass hp) h28) ⟨rfl, rfl, trivial⟩ trivial rfl rfl rfl rfl (fun _ => rfl) fun ⟨⟨a29, c30⟩, ⟨a31, c32⟩⟩ => ?_
    refine HQ.op [] [10] (OT.alloc zc27) trivial trivial rfl rfl rfl rfl (fun _ => rfl) fun b33 => ?_
    refine HQ.opN [10] [10] [] (OT.storeC (cs' := [.slice a29 (List.length t27.Cells) c30, .slice a31 (List.length t27.Wet) c32, .int .i64 t27.Fuse, .bool t27.Dead]) sz27 rfl rfl rfl rfl rfl) ⟨rfl, rfl, trivial⟩ ⟨rfl, trivial⟩ rfl rfl rfl (fun _ => rfl) fun _ => ?_
    refine HQ.done ?_
    refine HQ.keep [(0, _), (2, _), (3, _), (4, _), (5, _), (6, _), (8, _), (9, _), (10, _), (11, _), (12, _)] ⟨rfl, rfl, rfl, rfl, rfl, rfl, rfl, rfl, rfl, rfl, rfl, trivial⟩ ?_
    refine HQ.rseq ?_
    refine HQ.op [10] [10] (OT.loadBA (vs := [.slice a29 (List.length t27.Cells) c30, .slice a31 (List.length t27.Wet) c32, .int .i64 t27.Fuse, .bool t27.Dead]) ag27 sz27 rfl rfl) ⟨rfl, trivial⟩ ⟨rfl, trivial⟩ rfl rfl rfl rfl (fun _ => rfl) fun _ => ?_
    obtain ⟨t34, h35, H⟩ := bnd H
    refine HQ.op [8, 9] [8, 9] (OT.call (us := [_]) (Pre := [OwnS kTCell a29 c30 t27.Cells, OwnS kTWet a31 c32 t27.Wet]) [.tmp 50] Try.call45 rfl rfl fun w F hs hF hp => impl_BestHead_c (hs.lend hF 0 rfl) (hs.lend hF 1 rfl) h35) ⟨rfl, rfl, trivial⟩ ⟨rfl, rfl, trivial⟩ rfl rfl rfl rfl (fun _ => rfl) fun _ => ?_
    refine HQ.pu Pu.move ⟨rfl, trivial⟩ rfl rfl rfl ?_
    refine HQ.pu (Pu.extract rfl) ⟨rfl, trivial⟩ rfl rfl rfl ?_
    refine HQ.pu (Pu.extract rfl) ⟨rfl, trivial⟩ rfl rfl rfl ?_
    refine HQ.op [] [11] (OT.alloc zc68) trivial trivial rfl rfl rfl rfl (fun _ => rfl) fun b36 => ?_
    refine HQ.opN [11] [11] [] (OT.storeC (cs' := [.int .i64 t34.1.Epoch, .int .i64 t34.1.Seq, .int .i64 t34.1.Root, .int .i64 t34.1.Size]) sz68 rfl rfl rfl rfl rfl) ⟨rfl, rfl, trivial⟩ ⟨rfl, trivial⟩ rfl rfl rfl (fun _ => rfl) fun _ => ?_
    refine HQ.pu Pu.assign ⟨rfl, trivial⟩ rfl rfl rfl ?_
    refine HQ.done ?_
    refine HQ.keep [(0, _), (2, _), (3, _), (4, _), (5, _), (6, _), (8, _), (9, _), (10, _), (11, _), (12, _), (13, _), (14, _)] ⟨rfl, rfl, rfl, rfl, rfl, rfl, rfl, rfl, rfl, rfl, rfl, rfl, rfl, trivial⟩ ?_
    refine HQ.rseq ?_
    refine HQ.op [10] [10] (OT.loadBA (vs := [.slice a29 (List.length t27.Cells) c30, .slice a31 (List.length t27.Wet) c32, .int .i64 t27.Fuse, .bool t27.Dead]) ag27 sz27 rfl rfl) ⟨rfl, trivial⟩ ⟨rfl, trivial⟩ rfl rfl rfl rfl (fun _ => rfl) fun _ => ?_
    obtain ⟨t37, h38, H⟩ := bnd H
    refine HQ.op [8, 9] [8, 9] (OT.call (us := [_]) (Pre := [OwnS kTCell a29 c30 t27.Cells, OwnS kTWet a31 c32 t27.Wet]) [.tmp 55] Try.call46 rfl rfl fun w F hs hF hp => spec_BestHead_c (hs.lend hF 0 rfl) (hs.lend hF 1 rfl) h38) ⟨rfl, rfl, trivial⟩ ⟨rfl, rfl, trivial⟩ rfl rfl rfl rfl (fun _ => rfl) fun _ => ?_
    refine HQ.pu Pu.move ⟨rfl, trivial⟩ rfl rfl rfl ?_
    refine HQ.pu (Pu.extract rfl) ⟨rfl, trivial⟩ rfl rfl rfl ?_
    refine HQ.pu (Pu.extract rfl) ⟨rfl, trivial⟩ rfl rfl rfl ?_
    refine HQ.op [] [12] (OT.alloc zc68) trivial trivial rfl rfl rfl rfl (fun _ => rfl) fun b39 => ?_
    refine HQ.opN [12] [12] [] (OT.storeC (cs' := [.int .i64 t37.1.Epoch, .int .i64 t37.1.Seq, .int .i64 t37.1.Root, .int .i64 t37.1.Size]) sz68 rfl rfl rfl rfl rfl) ⟨rfl, rfl, trivial⟩ ⟨rfl, trivial⟩ rfl rfl rfl (fun _ => rfl) fun _ => ?_
    refine HQ.pu Pu.assign ⟨rfl, trivial⟩ rfl rfl rfl ?_
    refine HQ.done ?_
    refine HQ.keep [(0, _), (2, _), (3, _), (4, _), (5, _), (6, _), (8, _), (9, _), (10, _), (11, _), (13, _), (14, _), (15, _), (16, _)] ⟨rfl, rfl, rfl, rfl, rfl, rfl, rfl, rfl, rfl, rfl, rfl, rfl, rfl, rfl, trivial⟩ ?_
    refine HQ.rseq ?_
    refine HQ.pu Pu.move ⟨rfl, trivial⟩ rfl rfl rfl ?_
    obtain ⟨t40, h41, H⟩ := bnd H
    refine HQ.op [] [13, 14] (OT.call (us := [_]) (Pre := []) [.tmp 60] Try.call47 rfl rfl fun w F hs hF hp => spec_DrawPutHead_c (hb_0.pass hp) h41) ⟨rfl, rfl, trivial⟩ trivial rfl rfl rfl rfl (fun _ => rfl) fun ⟨⟨a42, c43⟩, ⟨a44, c45⟩⟩ => ?_
    refine HQ.pu Pu.move ⟨rfl, trivial⟩ rfl rfl rfl ?_
    refine HQ.pu (Pu.extract rfl) ⟨rfl, trivial⟩ rfl rfl rfl ?_
    refine HQ.pu (Pu.extract rfl) ⟨rfl, trivial⟩ rfl rfl rfl ?_
    refine HQ.op [] [15] (OT.alloc zc27) trivial trivial rfl rfl rfl rfl (fun _ => rfl) fun b46 => ?_
    refine HQ.op [] [16] (OT.alloc zc68) trivial trivial rfl rfl rfl rfl (fun _ => rfl) fun b47 => ?_
    refine HQ.opN [15] [15] [] (OT.storeC (cs' := [.slice a42 (List.length t40.1.Cells) c43, .slice a44 (List.length t40.1.Wet) c45, .int .i64 t40.1.Fuse, .bool t40.1.Dead]) sz27 rfl rfl rfl rfl rfl) ⟨rfl, rfl, trivial⟩ ⟨rfl, trivial⟩ rfl rfl rfl (fun _ => rfl) fun _ => ?_
    refine HQ.opN [16] [16] [] (OT.storeC (cs' := [.int .i64 t40.2.Epoch, .int .i64 t40.2.Seq, .int .i64 t40.2.Root, .int .i64 t40.2.Size]) sz68 rfl rfl rfl rfl rfl) ⟨rfl, rfl, trivial⟩ ⟨rfl, trivial⟩ rfl rfl rfl (fun _ => rfl) fun _ => ?_
    refine HQ.done ?_
    refine HQ.keep [(0, _), (2, _), (3, _), (4, _), (5, _), (6, _), (8, _), (9, _), (10, _), (11, _), (13, _), (14, _), (15, _), (16, _), (17, _), (18, _)] ⟨rfl, rfl, rfl, rfl, rfl, rfl, rfl, rfl, rfl, rfl, rfl, rfl, rfl, rfl, rfl, rfl, trivial⟩ ?_
    refine HQ.seq ?_
    refine HQ.seq ?_
    refine HQ.dStart mixd ?_
    obtain ⟨t49, h50, H⟩ := bnd H
    refine HQ.dPart [(0, .slice a_0 (List.length p0) c_0), (2, .bool false), (3, BP b5 0), (4, .slice a8 (List.length t6) c9), (5, BP b16 0), (6, .bool t14.2), (8, BP b23 0), (9, .bool t21.2), (10, BP b26 0), (11, .bool t24.2), (13, BP b36 0), (14, .bool t34.2), (15, BP b39 0), (16, .bool t37.2), (17, BP b46 0), (18, BP b47 0)] 3 [⟨[], [], []⟩, ⟨[0], [0], []⟩, ⟨[], [1], [1]⟩] [⟨none, none⟩, ⟨some 2, none⟩] (fun (g48 : (Option Addr × Nat)) => [.slice a8 (List.length t6) c9, .agg #[.int .i64 t3.Epoch, .int .i64 t3.Seq, .int .i64 t3.Root, .int .i64 t3.Size], .slice g48.1 (List.length t49) g48.2]) (fun (g48 : (Option Addr × Nat)) => [Box b5 [.int .i64 t3.Epoch, .int .i64 t3.Seq, .int .i64 t3.Root, .int .i64 t3.Size], OwnS kU8 g48.1 g48.2 t49]) (none, 0) [1] [1, 17] [] ⟨rfl, rfl, rfl, rfl, rfl, rfl, rfl, rfl, rfl, rfl, rfl, rfl, rfl, rfl, rfl, rfl, trivial⟩ ⟨rfl, trivial⟩ rfl (by kernel_rfl) (by kernel_rfl) (fun _ => rfl) (by kernel_rfl) (fun _ => rfl) rfl ⟨?_, ?_, ?_, trivial⟩ fun g48 => ?_
    · exact OpOK2.of (fun g48 => [(.tmp 4, .slice a8 (List.length t6) c9)]) _ _ (fun g48 _ => g48) rfl rfl (fun _ => ⟨rfl, trivial⟩) (fun g48 => Pu.toOT Pu.move) (fun _ _ => ⟨rfl, rfl, ⟨rfl, rfl, trivial⟩⟩)
    · exact OpOK2.of (fun g48 => [(.tmp 3, BP b5 0)]) _ _ (fun g48 _ => g48) rfl rfl (fun _ => ⟨rfl, trivial⟩) (fun g48 => OT.loadBA (vs := [.int .i64 t3.Epoch, .int .i64 t3.Seq, .int .i64 t3.Root, .int .i64 t3.Size]) ag68 sz68 rfl rfl) (fun _ _ => ⟨rfl, rfl, ⟨rfl, rfl, trivial⟩⟩)
    · exact OpOK2.of (fun g48 => [(.func 48, .func (.func 48) #[] #[]), (.tmp 65, .agg #[.int .i64 t3.Epoch, .int .i64 t3.Seq, .int .i64 t3.Root, .int .i64 t3.Size])]) _ _ (fun g48 x => x) rfl rfl (fun _ => ⟨rfl, rfl, trivial⟩) (fun g48 => OT.call (us := [_]) (Pre := []) [.tmp 65] Try.call48 rfl rfl fun w F hs hF hp => spec_HeadCell_c h50) (fun _ _ => ⟨rfl, rfl, ⟨rfl, rfl, trivial⟩⟩)
    refine HQ.keep [(0, _), (2, _), (3, _), (4, _), (5, _), (6, _), (8, _), (9, _), (10, _), (11, _), (13, _), (14, _), (15, _), (16, _), (17, _), (18, _), (64, _), (66, _)] ⟨rfl, rfl, rfl, rfl, rfl, rfl, rfl, rfl, rfl, rfl, rfl, rfl, rfl, rfl, rfl, rfl, rfl, rfl, trivial⟩ ?_
    refine HQ.keepR [(1, _), (2, _), (3, _), (4, _), (5, _), (6, _), (7, _), (8, _), (9, _), (10, _), (11, _), (12, _), (13, _), (14, _), (15, _), (16, _), (17, _)] ⟨rfl, rfl, rfl, rfl, rfl, rfl, rfl, rfl, rfl, rfl, rfl, rfl, rfl, rfl, rfl, rfl, rfl, trivial⟩ rfl ?_
    refine HQ.dRun 3 rfl rfl (by kernel_rfl) (by kernel_rfl) ?_
    obtain ⟨t53, h54, H⟩ := bnd H
    refine HQ.op [2, 17] [2, 17] (OT.call (us := [_, _]) (Pre := [OwnS kU8 a8 c9 t6, OwnS kU8 g48.1 g48.2 t49]) [.tmp 64, .tmp 66] Try.call23 rfl rfl fun w F hs hF hp => laws_same_c (hs.lend hF 0 rfl) (hs.lend hF 1 rfl) h54) ⟨rfl, rfl, rfl, trivial⟩ ⟨rfl, rfl, trivial⟩ rfl rfl rfl rfl (fun _ => rfl) fun _ => ?_
    refine HQ.pu Pu.not ⟨rfl, trivial⟩ rfl rfl rfl ?_
    refine HQ.pu Pu.move ⟨rfl, trivial⟩ rfl rfl rfl ?_
    refine HQ.done ?_
    refine HQ.dMid (m' := 10) [(73, .bool ((!t53) || (!(decide (t21.1 = t24.1))))), (0, .slice a_0 (List.length p0) c_0), (2, .bool false), (3, BP b5 0), (4, .slice a8 (List.length t6) c9), (5, BP b16 0), (6, .bool t14.2), (9, .bool t21.2), (11, .bool t24.2), (13, BP b36 0), (14, .bool t34.2), (15, BP b39 0), (16, .bool t37.2), (17, BP b46 0), (18, BP b47 0)] [(1, Box b5 [.int .i64 t3.Epoch, .int .i64 t3.Seq, .int .i64 t3.Root, .int .i64 t3.Size]), (2, OwnS kU8 a8 c9 t6), (3, OwnS kU8 a12 c13 t10), (4, Box b16 [.int .i64 t14.1.Epoch, .int .i64 t14.1.Seq, .int .i64 t14.1.Root, .int .i64 t14.1.Size]), (5, OwnS kU8 a19 c20 t17), (6, Box b23 [.int .i64 t21.1.Epoch, .int .i64 t21.1.Seq, .int .i64 t21.1.Root, .int .i64 t21.1.Size]), (7, Box b26 [.int .i64 t24.1.Epoch, .int .i64 t24.1.Seq, .int .i64 t24.1.Root, .int .i64 t24.1.Size]), (8, OwnS kTCell a29 c30 t27.Cells), (9, OwnS kTWet a31 c32 t27.Wet), (10, Box b33 [.slice a29 (List.length t27.Cells) c30, .slice a31 (List.length t27.Wet) c32, .int .i64 t27.Fuse, .bool t27.Dead]), (11, Box b36 [.int .i64 t34.1.Epoch, .int .i64 t34.1.Seq, .int .i64 t34.1.Root, .int .i64 t34.1.Size]), (12, Box b39 [.int .i64 t37.1.Epoch, .int .i64 t37.1.Seq, .int .i64 t37.1.Root, .int .i64 t37.1.Size]), (13, OwnS kTCell a42 c43 t40.1.Cells), (14, OwnS kTWet a44 c45 t40.1.Wet), (15, Box b46 [.slice a42 (List.length t40.1.Cells) c43, .slice a44 (List.length t40.1.Wet) c45, .int .i64 t40.1.Fuse, .bool t40.1.Dead]), (16, Box b47 [.int .i64 t40.2.Epoch, .int .i64 t40.2.Seq, .int .i64 t40.2.Root, .int .i64 t40.2.Size]), (17, OwnS kU8 g48.1 g48.2 t49)] (fun hmid => ?_) ?_
    · rcases Bool.eq_false_or_eq_true (!t53) with hg55 | hg55
      · refine HQ.dPart [(0, .slice a_0 (List.length p0) c_0), (2, .bool false), (3, BP b5 0), (4, .slice a8 (List.length t6) c9), (5, BP b16 0), (6, .bool t14.2), (8, BP b23 0), (9, .bool t21.2), (10, BP b26 0), (11, .bool t24.2), (13, BP b36 0), (14, .bool t34.2), (15, BP b39 0), (16, .bool t37.2), (17, BP b46 0), (18, BP b47 0), (69, .bool (!t53))] 8 [⟨[], [], []⟩, ⟨[], [], []⟩, ⟨[], [], []⟩, ⟨[], [], []⟩, ⟨[], [], []⟩, ⟨[], [], []⟩, ⟨[], [], []⟩, ⟨[], [], []⟩] [] (fun (g57 : Unit) => [undef, undef, undef, undef, undef, undef, undef, undef]) (fun (g57 : Unit) => []) () [] [] [] ⟨rfl, rfl, rfl, rfl, rfl, rfl, rfl, rfl, rfl, rfl, rfl, rfl, rfl, rfl, rfl, rfl, rfl, trivial⟩ trivial rfl (by kernel_rfl) (by kernel_rfl) (fun _ => rfl) (by kernel_rfl) (fun _ => rfl) rfl ⟨?_, ?_, trivial⟩ fun g57 => ?_
        · exact OpOK2.off rfl rfl rfl hg55 rfl rfl (fun _ => ⟨rfl, trivial⟩)
        · exact OpOK2.off rfl rfl rfl hg55 rfl rfl (fun _ => ⟨rfl, trivial⟩)
        refine HQ.keep [(0, _), (2, _), (3, _), (4, _), (5, _), (6, _), (9, _), (11, _), (13, _), (14, _), (15, _), (16, _), (17, _), (18, _), (69, _), (70, _), (71, _)] ⟨rfl, rfl, rfl, rfl, rfl, rfl, rfl, rfl, rfl, rfl, rfl, rfl, rfl, rfl, rfl, rfl, rfl, trivial⟩ ?_
        refine HQ.keepR [(1, _), (2, _), (3, _), (4, _), (5, _), (6, _), (7, _), (8, _), (9, _), (10, _), (11, _), (12, _), (13, _), (14, _), (15, _), (16, _), (17, _)] ⟨rfl, rfl, rfl, rfl, rfl, rfl, rfl, rfl, rfl, rfl, rfl, rfl, rfl, rfl, rfl, rfl, rfl, trivial⟩ rfl ?_
        refine HQ.dRun 1 rfl rfl (by kernel_rfl) (by kernel_rfl) ?_
        refine HQ.off rfl rfl hg55 rfl ?_
        refine HQ.done ?_
        refine HQ.dRun 1 rfl rfl (by kernel_rfl) (by kernel_rfl) ?_
        refine HQ.pu (Pu.pickOT (u := (!(decide (t21.1 = t24.1)))) hg55) ⟨rfl, rfl, trivial⟩ rfl rfl rfl ?_
        refine HQ.done ?_
        exact HQ.dUse hmid ⟨rfl, rfl, rfl, rfl, rfl, rfl, rfl, rfl, rfl, rfl, rfl, rfl, rfl, rfl, rfl, trivial⟩ ⟨rfl, rfl, rfl, rfl, rfl, rfl, rfl, rfl, rfl, rfl, rfl, rfl, rfl, rfl, rfl, rfl, rfl, trivial⟩ rfl
      · refine HQ.dPart [(0, .slice a_0 (List.length p0) c_0), (2, .bool false), (3, BP b5 0), (4, .slice a8 (List.length t6) c9), (5, BP b16 0), (6, .bool t14.2), (8, BP b23 0), (9, .bool t21.2), (10, BP b26 0), (11, .bool t24.2), (13, BP b36 0), (14, .bool t34.2), (15, BP b39 0), (16, .bool t37.2), (17, BP b46 0), (18, BP b47 0), (69, .bool (!t53))] 8 [⟨[], [], []⟩, ⟨[], [], []⟩, ⟨[], [], []⟩, ⟨[], [], []⟩, ⟨[], [], []⟩, ⟨[], [], []⟩, ⟨[0], [0], []⟩, ⟨[1], [1], []⟩] [⟨none, none⟩, ⟨none, none⟩] (fun (g56 : Unit) => [undef, undef, undef, undef, undef, undef, .agg #[.int .i64 t21.1.Epoch, .int .i64 t21.1.Seq, .int .i64 t21.1.Root, .int .i64 t21.1.Size], .agg #[.int .i64 t24.1.Epoch, .int .i64 t24.1.Seq, .int .i64 t24.1.Root, .int .i64 t24.1.Size]]) (fun (g56 : Unit) => [Box b23 [.int .i64 t21.1.Epoch, .int .i64 t21.1.Seq, .int .i64 t21.1.Root, .int .i64 t21.1.Size], Box b26 [.int .i64 t24.1.Epoch, .int .i64 t24.1.Seq, .int .i64 t24.1.Root, .int .i64 t24.1.Size]]) () [6, 7] [6, 7] [] ⟨rfl, rfl, rfl, rfl, rfl, rfl, rfl, rfl, rfl, rfl, rfl, rfl, rfl, rfl, rfl, rfl, rfl, trivial⟩ ⟨rfl, rfl, trivial⟩ rfl (by kernel_rfl) (by kernel_rfl) (fun _ => rfl) (by kernel_rfl) (fun _ => rfl) rfl ⟨?_, ?_, trivial⟩ fun g56 => ?_
        · exact OpOK2.on (fun g56 => [(.tmp 8, BP b23 0)]) _ _ (fun g56 _ => g56) rfl rfl rfl hg55 (fun _ => ⟨rfl, trivial⟩) (fun g56 => OT.loadBA (vs := [.int .i64 t21.1.Epoch, .int .i64 t21.1.Seq, .int .i64 t21.1.Root, .int .i64 t21.1.Size]) ag68 sz68 rfl rfl) (fun _ _ => ⟨rfl, rfl, ⟨rfl, rfl, trivial⟩⟩)
        · exact OpOK2.on (fun g56 => [(.tmp 10, BP b26 0)]) _ _ (fun g56 _ => g56) rfl rfl rfl hg55 (fun _ => ⟨rfl, trivial⟩) (fun g56 => OT.loadBA (vs := [.int .i64 t24.1.Epoch, .int .i64 t24.1.Seq, .int .i64 t24.1.Root, .int .i64 t24.1.Size]) ag68 sz68 rfl rfl) (fun _ _ => ⟨rfl, rfl, ⟨rfl, rfl, trivial⟩⟩)
        refine HQ.keep [(0, _), (2, _), (3, _), (4, _), (5, _), (6, _), (9, _), (11, _), (13, _), (14, _), (15, _), (16, _), (17, _), (18, _), (69, _), (70, _), (71, _)] ⟨rfl, rfl, rfl, rfl, rfl, rfl, rfl, rfl, rfl, rfl, rfl, rfl, rfl, rfl, rfl, rfl, rfl, trivial⟩ ?_
        refine HQ.keepR [(1, _), (2, _), (3, _), (4, _), (5, _), (6, _), (7, _), (8, _), (9, _), (10, _), (11, _), (12, _), (13, _), (14, _), (15, _), (16, _), (17, _)] ⟨rfl, rfl, rfl, rfl, rfl, rfl, rfl, rfl, rfl, rfl, rfl, rfl, rfl, rfl, rfl, rfl, rfl, trivial⟩ rfl ?_
        refine HQ.dRun 1 rfl rfl (by kernel_rfl) (by kernel_rfl) ?_
        refine HQ.on rfl rfl hg55 ?_
        refine HQ.pu (Pu.neqT gq68 (eqa68 t21.1 t24.1) rfl) ⟨rfl, rfl, trivial⟩ rfl rfl rfl ?_
        refine HQ.done ?_
        refine HQ.dRun 1 rfl rfl (by kernel_rfl) (by kernel_rfl) ?_
        refine HQ.pu (Pu.pickOF hg55) ⟨rfl, rfl, trivial⟩ rfl rfl rfl ?_
        refine HQ.done ?_
        exact HQ.dUse hmid ⟨rfl, rfl, rfl, rfl, rfl, rfl, rfl, rfl, rfl, rfl, rfl, rfl, rfl, rfl, rfl, trivial⟩ ⟨rfl, rfl, rfl, rfl, rfl, rfl, rfl, rfl, rfl, rfl, rfl, rfl, rfl, rfl, rfl, rfl, rfl, trivial⟩ rfl
    refine HQ.dRun 1 rfl rfl (by kernel_rfl) (by kernel_rfl) ?_
    refine HQ.pu Pu.move ⟨rfl, trivial⟩ rfl rfl rfl ?_
    refine HQ.done ?_
    refine HQ.dMid (m' := 15) [(78, .bool (((!t53) || (!(decide (t21.1 = t24.1)))) || (!(t21.2 == t24.2)))), (0, .slice a_0 (List.length p0) c_0), (2, .bool false), (3, BP b5 0), (4, .slice a8 (List.length t6) c9), (5, BP b16 0), (6, .bool t14.2), (13, BP b36 0), (14, .bool t34.2), (15, BP b39 0), (16, .bool t37.2), (17, BP b46 0), (18, BP b47 0)] [(1, Box b5 [.int .i64 t3.Epoch, .int .i64 t3.Seq, .int .i64 t3.Root, .int .i64 t3.Size]), (2, OwnS kU8 a8 c9 t6), (3, OwnS kU8 a12 c13 t10), (4, Box b16 [.int .i64 t14.1.Epoch, .int .i64 t14.1.Seq, .int .i64 t14.1.Root, .int .i64 t14.1.Size]), (5, OwnS kU8 a19 c20 t17), (6, Box b23 [.int .i64 t21.1.Epoch, .int .i64 t21.1.Seq, .int .i64 t21.1.Root, .int .i64 t21.1.Size]), (7, Box b26 [.int .i64 t24.1.Epoch, .int .i64 t24.1.Seq, .int .i64 t24.1.Root, .int .i64 t24.1.Size]), (8, OwnS kTCell a29 c30 t27.Cells), (9, OwnS kTWet a31 c32 t27.Wet), (10, Box b33 [.slice a29 (List.length t27.Cells) c30, .slice a31 (List.length t27.Wet) c32, .int .i64 t27.Fuse, .bool t27.Dead]), (11, Box b36 [.int .i64 t34.1.Epoch, .int .i64 t34.1.Seq, .int .i64 t34.1.Root, .int .i64 t34.1.Size]), (12, Box b39 [.int .i64 t37.1.Epoch, .int .i64 t37.1.Seq, .int .i64 t37.1.Root, .int .i64 t37.1.Size]), (13, OwnS kTCell a42 c43 t40.1.Cells), (14, OwnS kTWet a44 c45 t40.1.Wet), (15, Box b46 [.slice a42 (List.length t40.1.Cells) c43, .slice a44 (List.length t40.1.Wet) c45, .int .i64 t40.1.Fuse, .bool t40.1.Dead]), (16, Box b47 [.int .i64 t40.2.Epoch, .int .i64 t40.2.Seq, .int .i64 t40.2.Root, .int .i64 t40.2.Size]), (17, OwnS kU8 g48.1 g48.2 t49)] (fun hmid => ?_) ?_
    · rcases Bool.eq_false_or_eq_true ((!t53) || (!(decide (t21.1 = t24.1)))) with hg58 | hg58
      · refine HQ.dPart [(0, .slice a_0 (List.length p0) c_0), (2, .bool false), (3, BP b5 0), (4, .slice a8 (List.length t6) c9), (5, BP b16 0), (6, .bool t14.2), (9, .bool t21.2), (11, .bool t24.2), (13, BP b36 0), (14, .bool t34.2), (15, BP b39 0), (16, .bool t37.2), (17, BP b46 0), (18, BP b47 0), (74, .bool ((!t53) || (!(decide (t21.1 = t24.1)))))] 13 [⟨[], [], []⟩, ⟨[], [], []⟩, ⟨[], [], []⟩, ⟨[], [], []⟩, ⟨[], [], []⟩, ⟨[], [], []⟩, ⟨[], [], []⟩, ⟨[], [], []⟩, ⟨[], [], []⟩, ⟨[], [], []⟩, ⟨[], [], []⟩, ⟨[], [], []⟩, ⟨[], [], []⟩] [] (fun (g60 : Unit) => [undef, undef, undef, undef, undef, undef, undef, undef, undef, undef, undef, undef, undef]) (fun (g60 : Unit) => []) () [] [] [] ⟨rfl, rfl, rfl, rfl, rfl, rfl, rfl, rfl, rfl, rfl, rfl, rfl, rfl, rfl, rfl, trivial⟩ trivial rfl (by kernel_rfl) (by kernel_rfl) (fun _ => rfl) (by kernel_rfl) (fun _ => rfl) rfl ⟨?_, ?_, trivial⟩ fun g60 => ?_
        · exact OpOK2.off rfl rfl rfl hg58 rfl rfl (fun _ => ⟨rfl, trivial⟩)
        · exact OpOK2.off rfl rfl rfl hg58 rfl rfl (fun _ => ⟨rfl, trivial⟩)
        refine HQ.keep [(0, _), (2, _), (3, _), (4, _), (5, _), (6, _), (13, _), (14, _), (15, _), (16, _), (17, _), (18, _), (74, _), (75, _), (76, _)] ⟨rfl, rfl, rfl, rfl, rfl, rfl, rfl, rfl, rfl, rfl, rfl, rfl, rfl, rfl, rfl, trivial⟩ ?_
        refine HQ.keepR [(1, _), (2, _), (3, _), (4, _), (5, _), (6, _), (7, _), (8, _), (9, _), (10, _), (11, _), (12, _), (13, _), (14, _), (15, _), (16, _), (17, _)] ⟨rfl, rfl, rfl, rfl, rfl, rfl, rfl, rfl, rfl, rfl, rfl, rfl, rfl, rfl, rfl, rfl, rfl, trivial⟩ rfl ?_
        refine HQ.dRun 1 rfl rfl (by kernel_rfl) (by kernel_rfl) ?_
        refine HQ.off rfl rfl hg58 rfl ?_
        refine HQ.done ?_
        refine HQ.dRun 1 rfl rfl (by kernel_rfl) (by kernel_rfl) ?_
        refine HQ.pu (Pu.pickOT (u := (!(t21.2 == t24.2))) hg58) ⟨rfl, rfl, trivial⟩ rfl rfl rfl ?_
        refine HQ.done ?_
        exact HQ.dUse hmid ⟨rfl, rfl, rfl, rfl, rfl, rfl, rfl, rfl, rfl, rfl, rfl, rfl, rfl, trivial⟩ ⟨rfl, rfl, rfl, rfl, rfl, rfl, rfl, rfl, rfl, rfl, rfl, rfl, rfl, rfl, rfl, rfl, rfl, trivial⟩ rfl
      · refine HQ.dPart [(0, .slice a_0 (List.length p0) c_0), (2, .bool false), (3, BP b5 0), (4, .slice a8 (List.length t6) c9), (5, BP b16 0), (6, .bool t14.2), (9, .bool t21.2), (11, .bool t24.2), (13, BP b36 0), (14, .bool t34.2), (15, BP b39 0), (16, .bool t37.2), (17, BP b46 0), (18, BP b47 0), (74, .bool ((!t53) || (!(decide (t21.1 = t24.1)))))] 13 [⟨[], [], []⟩, ⟨[], [], []⟩, ⟨[], [], []⟩, ⟨[], [], []⟩, ⟨[], [], []⟩, ⟨[], [], []⟩, ⟨[], [], []⟩, ⟨[], [], []⟩, ⟨[], [], []⟩, ⟨[], [], []⟩, ⟨[], [], []⟩, ⟨[], [], []⟩, ⟨[], [], []⟩] [] (fun (g59 : Unit) => [undef, undef, undef, undef, undef, undef, undef, undef, undef, undef, undef, .bool t21.2, .bool t24.2]) (fun (g59 : Unit) => []) () [] [] [] ⟨rfl, rfl, rfl, rfl, rfl, rfl, rfl, rfl, rfl, rfl, rfl, rfl, rfl, rfl, rfl, trivial⟩ trivial rfl (by kernel_rfl) (by kernel_rfl) (fun _ => rfl) (by kernel_rfl) (fun _ => rfl) rfl ⟨?_, ?_, trivial⟩ fun g59 => ?_
        · exact OpOK2.on (fun g59 => [(.tmp 9, .bool t21.2)]) _ _ (fun g59 _ => g59) rfl rfl rfl hg58 (fun _ => ⟨rfl, trivial⟩) (fun g59 => Pu.toOT Pu.move) (fun _ _ => ⟨rfl, rfl, trivial⟩)
        · exact OpOK2.on (fun g59 => [(.tmp 11, .bool t24.2)]) _ _ (fun g59 _ => g59) rfl rfl rfl hg58 (fun _ => ⟨rfl, trivial⟩) (fun g59 => Pu.toOT Pu.move) (fun _ _ => ⟨rfl, rfl, trivial⟩)
        refine HQ.keep [(0, _), (2, _), (3, _), (4, _), (5, _), (6, _), (13, _), (14, _), (15, _), (16, _), (17, _), (18, _), (74, _), (75, _), (76, _)] ⟨rfl, rfl, rfl, rfl, rfl, rfl, rfl, rfl, rfl, rfl, rfl, rfl, rfl, rfl, rfl, trivial⟩ ?_
        refine HQ.keepR [(1, _), (2, _), (3, _), (4, _), (5, _), (6, _), (7, _), (8, _), (9, _), (10, _), (11, _), (12, _), (13, _), (14, _), (15, _), (16, _), (17, _)] ⟨rfl, rfl, rfl, rfl, rfl, rfl, rfl, rfl, rfl, rfl, rfl, rfl, rfl, rfl, rfl, rfl, rfl, trivial⟩ rfl ?_
        refine HQ.dRun 1 rfl rfl (by kernel_rfl) (by kernel_rfl) ?_
        refine HQ.on rfl rfl hg58 ?_
        refine HQ.pu (Pu.neqB ul4) ⟨rfl, rfl, trivial⟩ rfl rfl rfl ?_
        refine HQ.done ?_
        refine HQ.dRun 1 rfl rfl (by kernel_rfl) (by kernel_rfl) ?_
        refine HQ.pu (Pu.pickOF hg58) ⟨rfl, rfl, trivial⟩ rfl rfl rfl ?_
        refine HQ.done ?_
        exact HQ.dUse hmid ⟨rfl, rfl, rfl, rfl, rfl, rfl, rfl, rfl, rfl, rfl, rfl, rfl, rfl, trivial⟩ ⟨rfl, rfl, rfl, rfl, rfl, rfl, rfl, rfl, rfl, rfl, rfl, rfl, rfl, rfl, rfl, rfl, rfl, trivial⟩ rfl
    refine HQ.dRun 1 rfl rfl (by kernel_rfl) (by kernel_rfl) ?_
    refine HQ.pu Pu.move ⟨rfl, trivial⟩ rfl rfl rfl ?_
    refine HQ.done ?_
    refine HQ.dMid (m' := 20) [(83, .bool ((((!t53) || (!(decide (t21.1 = t24.1)))) || (!(t21.2 == t24.2))) || (!(decide (t34.1 = t37.1))))), (0, .slice a_0 (List.length p0) c_0), (2, .bool false), (3, BP b5 0), (4, .slice a8 (List.length t6) c9), (5, BP b16 0), (6, .bool t14.2), (14, .bool t34.2), (16, .bool t37.2), (17, BP b46 0), (18, BP b47 0)] [(1, Box b5 [.int .i64 t3.Epoch, .int .i64 t3.Seq, .int .i64 t3.Root, .int .i64 t3.Size]), (2, OwnS kU8 a8 c9 t6), (3, OwnS kU8 a12 c13 t10), (4, Box b16 [.int .i64 t14.1.Epoch, .int .i64 t14.1.Seq, .int .i64 t14.1.Root, .int .i64 t14.1.Size]), (5, OwnS kU8 a19 c20 t17), (6, Box b23 [.int .i64 t21.1.Epoch, .int .i64 t21.1.Seq, .int .i64 t21.1.Root, .int .i64 t21.1.Size]), (7, Box b26 [.int .i64 t24.1.Epoch, .int .i64 t24.1.Seq, .int .i64 t24.1.Root, .int .i64 t24.1.Size]), (8, OwnS kTCell a29 c30 t27.Cells), (9, OwnS kTWet a31 c32 t27.Wet), (10, Box b33 [.slice a29 (List.length t27.Cells) c30, .slice a31 (List.length t27.Wet) c32, .int .i64 t27.Fuse, .bool t27.Dead]), (11, Box b36 [.int .i64 t34.1.Epoch, .int .i64 t34.1.Seq, .int .i64 t34.1.Root, .int .i64 t34.1.Size]), (12, Box b39 [.int .i64 t37.1.Epoch, .int .i64 t37.1.Seq, .int .i64 t37.1.Root, .int .i64 t37.1.Size]), (13, OwnS kTCell a42 c43 t40.1.Cells), (14, OwnS kTWet a44 c45 t40.1.Wet), (15, Box b46 [.slice a42 (List.length t40.1.Cells) c43, .slice a44 (List.length t40.1.Wet) c45, .int .i64 t40.1.Fuse, .bool t40.1.Dead]), (16, Box b47 [.int .i64 t40.2.Epoch, .int .i64 t40.2.Seq, .int .i64 t40.2.Root, .int .i64 t40.2.Size]), (17, OwnS kU8 g48.1 g48.2 t49)] (fun hmid => ?_) ?_
    · rcases Bool.eq_false_or_eq_true (((!t53) || (!(decide (t21.1 = t24.1)))) || (!(t21.2 == t24.2))) with hg61 | hg61
      · refine HQ.dPart [(0, .slice a_0 (List.length p0) c_0), (2, .bool false), (3, BP b5 0), (4, .slice a8 (List.length t6) c9), (5, BP b16 0), (6, .bool t14.2), (13, BP b36 0), (14, .bool t34.2), (15, BP b39 0), (16, .bool t37.2), (17, BP b46 0), (18, BP b47 0), (79, .bool (((!t53) || (!(decide (t21.1 = t24.1)))) || (!(t21.2 == t24.2))))] 18 [⟨[], [], []⟩, ⟨[], [], []⟩, ⟨[], [], []⟩, ⟨[], [], []⟩, ⟨[], [], []⟩, ⟨[], [], []⟩, ⟨[], [], []⟩, ⟨[], [], []⟩, ⟨[], [], []⟩, ⟨[], [], []⟩, ⟨[], [], []⟩, ⟨[], [], []⟩, ⟨[], [], []⟩, ⟨[], [], []⟩, ⟨[], [], []⟩, ⟨[], [], []⟩, ⟨[], [], []⟩, ⟨[], [], []⟩] [] (fun (g63 : Unit) => [undef, undef, undef, undef, undef, undef, undef, undef, undef, undef, undef, undef, undef, undef, undef, undef, undef, undef]) (fun (g63 : Unit) => []) () [] [] [] ⟨rfl, rfl, rfl, rfl, rfl, rfl, rfl, rfl, rfl, rfl, rfl, rfl, rfl, trivial⟩ trivial rfl (by kernel_rfl) (by kernel_rfl) (fun _ => rfl) (by kernel_rfl) (fun _ => rfl) rfl ⟨?_, ?_, trivial⟩ fun g63 => ?_
        · exact OpOK2.off rfl rfl rfl hg61 rfl rfl (fun _ => ⟨rfl, trivial⟩)
        · exact OpOK2.off rfl rfl rfl hg61 rfl rfl (fun _ => ⟨rfl, trivial⟩)
        refine HQ.keep [(0, _), (2, _), (3, _), (4, _), (5, _), (6, _), (14, _), (16, _), (17, _), (18, _), (79, _), (80, _), (81, _)] ⟨rfl, rfl, rfl, rfl, rfl, rfl, rfl, rfl, rfl, rfl, rfl, rfl, rfl, trivial⟩ ?_
        refine HQ.keepR [(1, _), (2, _), (3, _), (4, _), (5, _), (6, _), (7, _), (8, _), (9, _), (10, _), (11, _), (12, _), (13, _), (14, _), (15, _), (16, _), (17, _)] ⟨rfl, rfl, rfl, rfl, rfl, rfl, rfl, rfl, rfl, rfl, rfl, rfl, rfl, rfl, rfl, rfl, rfl, trivial⟩ rfl ?_
        refine HQ.dRun 1 rfl rfl (by kernel_rfl) (by kernel_rfl) ?_
        refine HQ.off rfl rfl hg61 rfl ?_
        refine HQ.done ?_
        refine HQ.dRun 1 rfl rfl (by kernel_rfl) (by kernel_rfl) ?_
        refine HQ.pu (Pu.pickOT (u := (!(decide (t34.1 = t37.1)))) hg61) ⟨rfl, rfl, trivial⟩ rfl rfl rfl ?_
        refine HQ.done ?_
        exact HQ.dUse hmid ⟨rfl, rfl, rfl, rfl, rfl, rfl, rfl, rfl, rfl, rfl, rfl, trivial⟩ ⟨rfl, rfl, rfl, rfl, rfl, rfl, rfl, rfl, rfl, rfl, rfl, rfl, rfl, rfl, rfl, rfl, rfl, trivial⟩ rfl
      · refine HQ.dPart [(0, .slice a_0 (List.length p0) c_0), (2, .bool false), (3, BP b5 0), (4, .slice a8 (List.length t6) c9), (5, BP b16 0), (6, .bool t14.2), (13, BP b36 0), (14, .bool t34.2), (15, BP b39 0), (16, .bool t37.2), (17, BP b46 0), (18, BP b47 0), (79, .bool (((!t53) || (!(decide (t21.1 = t24.1)))) || (!(t21.2 == t24.2))))] 18 [⟨[], [], []⟩, ⟨[], [], []⟩, ⟨[], [], []⟩, ⟨[], [], []⟩, ⟨[], [], []⟩, ⟨[], [], []⟩, ⟨[], [], []⟩, ⟨[], [], []⟩, ⟨[], [], []⟩, ⟨[], [], []⟩, ⟨[], [], []⟩, ⟨[], [], []⟩, ⟨[], [], []⟩, ⟨[], [], []⟩, ⟨[], [], []⟩, ⟨[], [], []⟩, ⟨[0], [0], []⟩, ⟨[1], [1], []⟩] [⟨none, none⟩, ⟨none, none⟩] (fun (g62 : Unit) => [undef, undef, undef, undef, undef, undef, undef, undef, undef, undef, undef, undef, undef, undef, undef, undef, .agg #[.int .i64 t34.1.Epoch, .int .i64 t34.1.Seq, .int .i64 t34.1.Root, .int .i64 t34.1.Size], .agg #[.int .i64 t37.1.Epoch, .int .i64 t37.1.Seq, .int .i64 t37.1.Root, .int .i64 t37.1.Size]]) (fun (g62 : Unit) => [Box b36 [.int .i64 t34.1.Epoch, .int .i64 t34.1.Seq, .int .i64 t34.1.Root, .int .i64 t34.1.Size], Box b39 [.int .i64 t37.1.Epoch, .int .i64 t37.1.Seq, .int .i64 t37.1.Root, .int .i64 t37.1.Size]]) () [11, 12] [11, 12] [] ⟨rfl, rfl, rfl, rfl, rfl, rfl, rfl, rfl, rfl, rfl, rfl, rfl, rfl, trivial⟩ ⟨rfl, rfl, trivial⟩ rfl (by kernel_rfl) (by kernel_rfl) (fun _ => rfl) (by kernel_rfl) (fun _ => rfl) rfl ⟨?_, ?_, trivial⟩ fun g62 => ?_
        · exact OpOK2.on (fun g62 => [(.tmp 13, BP b36 0)]) _ _ (fun g62 _ => g62) rfl rfl rfl hg61 (fun _ => ⟨rfl, trivial⟩) (fun g62 => OT.loadBA (vs := [.int .i64 t34.1.Epoch, .int .i64 t34.1.Seq, .int .i64 t34.1.Root, .int .i64 t34.1.Size]) ag68 sz68 rfl rfl) (fun _ _ => ⟨rfl, rfl, ⟨rfl, rfl, trivial⟩⟩)
        · exact OpOK2.on (fun g62 => [(.tmp 15, BP b39 0)]) _ _ (fun g62 _ => g62) rfl rfl rfl hg61 (fun _ => ⟨rfl, trivial⟩) (fun g62 => OT.loadBA (vs := [.int .i64 t37.1.Epoch, .int .i64 t37.1.Seq, .int .i64 t37.1.Root, .int .i64 t37.1.Size]) ag68 sz68 rfl rfl) (fun _ _ => ⟨rfl, rfl, ⟨rfl, rfl, trivial⟩⟩)
        refine HQ.keep [(0, _), (2, _), (3, _), (4, _), (5, _), (6, _), (14, _), (16, _), (17, _), (18, _), (79, _), (80, _), (81, _)] ⟨rfl, rfl, rfl, rfl, rfl, rfl, rfl, rfl, rfl, rfl, rfl, rfl, rfl, trivial⟩ ?_
        refine HQ.keepR [(1, _), (2, _), (3, _), (4, _), (5, _), (6, _), (7, _), (8, _), (9, _), (10, _), (11, _), (12, _), (13, _), (14, _), (15, _), (16, _), (17, _)] ⟨rfl, rfl, rfl, rfl, rfl, rfl, rfl, rfl, rfl, rfl, rfl, rfl, rfl, rfl, rfl, rfl, rfl, trivial⟩ rfl ?_
        refine HQ.dRun 1 rfl rfl (by kernel_rfl) (by kernel_rfl) ?_
        refine HQ.on rfl rfl hg61 ?_
        refine HQ.pu (Pu.neqT gq68 (eqa68 t34.1 t37.1) rfl) ⟨rfl, rfl, trivial⟩ rfl rfl rfl ?_
        refine HQ.done ?_
        refine HQ.dRun 1 rfl rfl (by kernel_rfl) (by kernel_rfl) ?_
        refine HQ.pu (Pu.pickOF hg61) ⟨rfl, rfl, trivial⟩ rfl rfl rfl ?_
        refine HQ.done ?_
        exact HQ.dUse hmid ⟨rfl, rfl, rfl, rfl, rfl, rfl, rfl, rfl, rfl, rfl, rfl, trivial⟩ ⟨rfl, rfl, rfl, rfl, rfl, rfl, rfl, rfl, rfl, rfl, rfl, rfl, rfl, rfl, rfl, rfl, rfl, trivial⟩ rfl
    refine HQ.dRun 1 rfl rfl (by kernel_rfl) (by kernel_rfl) ?_
    refine HQ.pu Pu.move ⟨rfl, trivial⟩ rfl rfl rfl ?_
    refine HQ.done ?_
    refine HQ.dMid (m' := 25) [(88, .bool (((((!t53) || (!(decide (t21.1 = t24.1)))) || (!(t21.2 == t24.2))) || (!(decide (t34.1 = t37.1)))) || (!(t34.2 == t37.2)))), (0, .slice a_0 (List.length p0) c_0), (2, .bool false), (3, BP b5 0), (4, .slice a8 (List.length t6) c9), (5, BP b16 0), (6, .bool t14.2), (17, BP b46 0), (18, BP b47 0)] [(1, Box b5 [.int .i64 t3.Epoch, .int .i64 t3.Seq, .int .i64 t3.Root, .int .i64 t3.Size]), (2, OwnS kU8 a8 c9 t6), (3, OwnS kU8 a12 c13 t10), (4, Box b16 [.int .i64 t14.1.Epoch, .int .i64 t14.1.Seq, .int .i64 t14.1.Root, .int .i64 t14.1.Size]), (5, OwnS kU8 a19 c20 t17), (6, Box b23 [.int .i64 t21.1.Epoch, .int .i64 t21.1.Seq, .int .i64 t21.1.Root, .int .i64 t21.1.Size]), (7, Box b26 [.int .i64 t24.1.Epoch, .int .i64 t24.1.Seq, .int .i64 t24.1.Root, .int .i64 t24.1.Size]), (8, OwnS kTCell a29 c30 t27.Cells), (9, OwnS kTWet a31 c32 t27.Wet), (10, Box b33 [.slice a29 (List.length t27.Cells) c30, .slice a31 (List.length t27.Wet) c32, .int .i64 t27.Fuse, .bool t27.Dead]), (11, Box b36 [.int .i64 t34.1.Epoch, .int .i64 t34.1.Seq, .int .i64 t34.1.Root, .int .i64 t34.1.Size]), (12, Box b39 [.int .i64 t37.1.Epoch, .int .i64 t37.1.Seq, .int .i64 t37.1.Root, .int .i64 t37.1.Size]), (13, OwnS kTCell a42 c43 t40.1.Cells), (14, OwnS kTWet a44 c45 t40.1.Wet), (15, Box b46 [.slice a42 (List.length t40.1.Cells) c43, .slice a44 (List.length t40.1.Wet) c45, .int .i64 t40.1.Fuse, .bool t40.1.Dead]), (16, Box b47 [.int .i64 t40.2.Epoch, .int .i64 t40.2.Seq, .int .i64 t40.2.Root, .int .i64 t40.2.Size]), (17, OwnS kU8 g48.1 g48.2 t49)] (fun hmid => ?_) ?_
    · rcases Bool.eq_false_or_eq_true ((((!t53) || (!(decide (t21.1 = t24.1)))) || (!(t21.2 == t24.2))) || (!(decide (t34.1 = t37.1)))) with hg64 | hg64
      · refine HQ.dPart [(0, .slice a_0 (List.length p0) c_0), (2, .bool false), (3, BP b5 0), (4, .slice a8 (List.length t6) c9), (5, BP b16 0), (6, .bool t14.2), (14, .bool t34.2), (16, .bool t37.2), (17, BP b46 0), (18, BP b47 0), (84, .bool ((((!t53) || (!(decide (t21.1 = t24.1)))) || (!(t21.2 == t24.2))) || (!(decide (t34.1 = t37.1)))))] 23 [⟨[], [], []⟩, ⟨[], [], []⟩, ⟨[], [], []⟩, ⟨[], [], []⟩, ⟨[], [], []⟩, ⟨[], [], []⟩, ⟨[], [], []⟩, ⟨[], [], []⟩, ⟨[], [], []⟩, ⟨[], [], []⟩, ⟨[], [], []⟩, ⟨[], [], []⟩, ⟨[], [], []⟩, ⟨[], [], []⟩, ⟨[], [], []⟩, ⟨[], [], []⟩, ⟨[], [], []⟩, ⟨[], [], []⟩, ⟨[], [], []⟩, ⟨[], [], []⟩, ⟨[], [], []⟩, ⟨[], [], []⟩, ⟨[], [], []⟩] [] (fun (g66 : Unit) => [undef, undef, undef, undef, undef, undef, undef, undef, undef, undef, undef, undef, undef, undef, undef, undef, undef, undef, undef, undef, undef, undef, undef]) (fun (g66 : Unit) => []) () [] [] [] ⟨rfl, rfl, rfl, rfl, rfl, rfl, rfl, rfl, rfl, rfl, rfl, trivial⟩ trivial rfl (by kernel_rfl) (by kernel_rfl) (fun _ => rfl) (by kernel_rfl) (fun _ => rfl) rfl ⟨?_, ?_, trivial⟩ fun g66 => ?_
        · exact OpOK2.off rfl rfl rfl hg64 rfl rfl (fun _ => ⟨rfl, trivial⟩)
        · exact OpOK2.off rfl rfl rfl hg64 rfl rfl (fun _ => ⟨rfl, trivial⟩)
        refine HQ.keep [(0, _), (2, _), (3, _), (4, _), (5, _), (6, _), (17, _), (18, _), (84, _), (85, _), (86, _)] ⟨rfl, rfl, rfl, rfl, rfl, rfl, rfl, rfl, rfl, rfl, rfl, trivial⟩ ?_
        refine HQ.keepR [(1, _), (2, _), (3, _), (4, _), (5, _), (6, _), (7, _), (8, _), (9, _), (10, _), (11, _), (12, _), (13, _), (14, _), (15, _), (16, _), (17, _)] ⟨rfl, rfl, rfl, rfl, rfl, rfl, rfl, rfl, rfl, rfl, rfl, rfl, rfl, rfl, rfl, rfl, rfl, trivial⟩ rfl ?_
        refine HQ.dRun 1 rfl rfl (by kernel_rfl) (by kernel_rfl) ?_
        refine HQ.off rfl rfl hg64 rfl ?_
        refine HQ.done ?_
        refine HQ.dRun 1 rfl rfl (by kernel_rfl) (by kernel_rfl) ?_
        refine HQ.pu (Pu.pickOT (u := (!(t34.2 == t37.2))) hg64) ⟨rfl, rfl, trivial⟩ rfl rfl rfl ?_
        refine HQ.done ?_
        exact HQ.dUse hmid ⟨rfl, rfl, rfl, rfl, rfl, rfl, rfl, rfl, rfl, trivial⟩ ⟨rfl, rfl, rfl, rfl, rfl, rfl, rfl, rfl, rfl, rfl, rfl, rfl, rfl, rfl, rfl, rfl, rfl, trivial⟩ rfl
      · refine HQ.dPart [(0, .slice a_0 (List.length p0) c_0), (2, .bool false), (3, BP b5 0), (4, .slice a8 (List.length t6) c9), (5, BP b16 0), (6, .bool t14.2), (14, .bool t34.2), (16, .bool t37.2), (17, BP b46 0), (18, BP b47 0), (84, .bool ((((!t53) || (!(decide (t21.1 = t24.1)))) || (!(t21.2 == t24.2))) || (!(decide (t34.1 = t37.1)))))] 23 [⟨[], [], []⟩, ⟨[], [], []⟩, ⟨[], [], []⟩, ⟨[], [], []⟩, ⟨[], [], []⟩, ⟨[], [], []⟩, ⟨[], [], []⟩, ⟨[], [], []⟩, ⟨[], [], []⟩, ⟨[], [], []⟩, ⟨[], [], []⟩, ⟨[], [], []⟩, ⟨[], [], []⟩, ⟨[], [], []⟩, ⟨[], [], []⟩, ⟨[], [], []⟩, ⟨[], [], []⟩, ⟨[], [], []⟩, ⟨[], [], []⟩, ⟨[], [], []⟩, ⟨[], [], []⟩, ⟨[], [], []⟩, ⟨[], [], []⟩] [] (fun (g65 : Unit) => [undef, undef, undef, undef, undef, undef, undef, undef, undef, undef, undef, undef, undef, undef, undef, undef, undef, undef, undef, undef, undef, .bool t34.2, .bool t37.2]) (fun (g65 : Unit) => []) () [] [] [] ⟨rfl, rfl, rfl, rfl, rfl, rfl, rfl, rfl, rfl, rfl, rfl, trivial⟩ trivial rfl (by kernel_rfl) (by kernel_rfl) (fun _ => rfl) (by kernel_rfl) (fun _ => rfl) rfl ⟨?_, ?_, trivial⟩ fun g65 => ?_
        · exact OpOK2.on (fun g65 => [(.tmp 14, .bool t34.2)]) _ _ (fun g65 _ => g65) rfl rfl rfl hg64 (fun _ => ⟨rfl, trivial⟩) (fun g65 => Pu.toOT Pu.move) (fun _ _ => ⟨rfl, rfl, trivial⟩)
        · exact OpOK2.on (fun g65 => [(.tmp 16, .bool t37.2)]) _ _ (fun g65 _ => g65) rfl rfl rfl hg64 (fun _ => ⟨rfl, trivial⟩) (fun g65 => Pu.toOT Pu.move) (fun _ _ => ⟨rfl, rfl, trivial⟩)
        refine HQ.keep [(0, _), (2, _), (3, _), (4, _), (5, _), (6, _), (17, _), (18, _), (84, _), (85, _), (86, _)] ⟨rfl, rfl, rfl, rfl, rfl, rfl, rfl, rfl, rfl, rfl, rfl, trivial⟩ ?_
        refine HQ.keepR [(1, _), (2, _), (3, _), (4, _), (5, _), (6, _), (7, _), (8, _), (9, _), (10, _), (11, _), (12, _), (13, _), (14, _), (15, _), (16, _), (17, _)] ⟨rfl, rfl, rfl, rfl, rfl, rfl, rfl, rfl, rfl, rfl, rfl, rfl, rfl, rfl, rfl, rfl, rfl, trivial⟩ rfl ?_
        refine HQ.dRun 1 rfl rfl (by kernel_rfl) (by kernel_rfl) ?_
        refine HQ.on rfl rfl hg64 ?_
        refine HQ.pu (Pu.neqB ul4) ⟨rfl, rfl, trivial⟩ rfl rfl rfl ?_
        refine HQ.done ?_
        refine HQ.dRun 1 rfl rfl (by kernel_rfl) (by kernel_rfl) ?_
        refine HQ.pu (Pu.pickOF hg64) ⟨rfl, rfl, trivial⟩ rfl rfl rfl ?_
        refine HQ.done ?_
        exact HQ.dUse hmid ⟨rfl, rfl, rfl, rfl, rfl, rfl, rfl, rfl, rfl, trivial⟩ ⟨rfl, rfl, rfl, rfl, rfl, rfl, rfl, rfl, rfl, rfl, rfl, rfl, rfl, rfl, rfl, rfl, rfl, trivial⟩ rfl
    refine HQ.dRun 1 rfl rfl (by kernel_rfl) (by kernel_rfl) ?_
    refine HQ.pu Pu.move ⟨rfl, trivial⟩ rfl rfl rfl ?_
    refine HQ.done ?_
    obtain ⟨c74, h75, H⟩ := bnd H
    refine HQ.dMid (m' := 32) [(95, .bool c74), (0, .slice a_0 (List.length p0) c_0), (2, .bool false), (3, BP b5 0), (4, .slice a8 (List.length t6) c9), (5, BP b16 0), (6, .bool t14.2), (17, BP b46 0), (18, BP b47 0)] [(1, Box b5 [.int .i64 t3.Epoch, .int .i64 t3.Seq, .int .i64 t3.Root, .int .i64 t3.Size]), (2, OwnS kU8 a8 c9 t6), (3, OwnS kU8 a12 c13 t10), (4, Box b16 [.int .i64 t14.1.Epoch, .int .i64 t14.1.Seq, .int .i64 t14.1.Root, .int .i64 t14.1.Size]), (5, OwnS kU8 a19 c20 t17), (6, Box b23 [.int .i64 t21.1.Epoch, .int .i64 t21.1.Seq, .int .i64 t21.1.Root, .int .i64 t21.1.Size]), (7, Box b26 [.int .i64 t24.1.Epoch, .int .i64 t24.1.Seq, .int .i64 t24.1.Root, .int .i64 t24.1.Size]), (8, OwnS kTCell a29 c30 t27.Cells), (9, OwnS kTWet a31 c32 t27.Wet), (10, Box b33 [.slice a29 (List.length t27.Cells) c30, .slice a31 (List.length t27.Wet) c32, .int .i64 t27.Fuse, .bool t27.Dead]), (11, Box b36 [.int .i64 t34.1.Epoch, .int .i64 t34.1.Seq, .int .i64 t34.1.Root, .int .i64 t34.1.Size]), (12, Box b39 [.int .i64 t37.1.Epoch, .int .i64 t37.1.Seq, .int .i64 t37.1.Root, .int .i64 t37.1.Size]), (13, OwnS kTCell a42 c43 t40.1.Cells), (14, OwnS kTWet a44 c45 t40.1.Wet), (15, Box b46 [.slice a42 (List.length t40.1.Cells) c43, .slice a44 (List.length t40.1.Wet) c45, .int .i64 t40.1.Fuse, .bool t40.1.Dead]), (16, Box b47 [.int .i64 t40.2.Epoch, .int .i64 t40.2.Seq, .int .i64 t40.2.Root, .int .i64 t40.2.Size]), (17, OwnS kU8 g48.1 g48.2 t49)] (fun hmid => ?_) ?_
    · clear H
      have H := h75
      rcases brk H with ⟨hg67, H⟩ | ⟨hg67, H⟩
      · obtain rfl := Option.some.inj H
        refine HQ.dPart [(0, .slice a_0 (List.length p0) c_0), (2, .bool false), (3, BP b5 0), (4, .slice a8 (List.length t6) c9), (5, BP b16 0), (6, .bool t14.2), (17, BP b46 0), (18, BP b47 0), (89, .bool (((((!t53) || (!(decide (t21.1 = t24.1)))) || (!(t21.2 == t24.2))) || (!(decide (t34.1 = t37.1)))) || (!(t34.2 == t37.2))))] 29 [⟨[], [], []⟩, ⟨[], [], []⟩, ⟨[], [], []⟩, ⟨[], [], []⟩, ⟨[], [], []⟩, ⟨[], [], []⟩, ⟨[], [], []⟩, ⟨[], [], []⟩, ⟨[], [], []⟩, ⟨[], [], []⟩, ⟨[], [], []⟩, ⟨[], [], []⟩, ⟨[], [], []⟩, ⟨[], [], []⟩, ⟨[], [], []⟩, ⟨[], [], []⟩, ⟨[], [], []⟩, ⟨[], [], []⟩, ⟨[], [], []⟩, ⟨[], [], []⟩, ⟨[], [], []⟩, ⟨[], [], []⟩, ⟨[], [], []⟩, ⟨[], [], []⟩, ⟨[], [], []⟩, ⟨[], [], []⟩, ⟨[], [], []⟩, ⟨[], [], []⟩, ⟨[], [], []⟩] [] (fun (g73 : Unit) => [undef, undef, undef, undef, undef, undef, undef, undef, undef, undef, undef, undef, undef, undef, undef, undef, undef, undef, undef, undef, undef, undef, undef, undef, undef, undef, undef, undef, undef]) (fun (g73 : Unit) => []) () [] [] [] ⟨rfl, rfl, rfl, rfl, rfl, rfl, rfl, rfl, rfl, trivial⟩ trivial rfl (by kernel_rfl) (by kernel_rfl) (fun _ => rfl) (by kernel_rfl) (fun _ => rfl) rfl ⟨?_, ?_, ?_, trivial⟩ fun g73 => ?_
        · exact OpOK2.off rfl rfl rfl hg67 rfl rfl (fun _ => ⟨rfl, trivial⟩)
        · exact OpOK2.off rfl rfl rfl hg67 rfl rfl (fun _ => ⟨rfl, trivial⟩)
        · exact OpOK2.off rfl rfl rfl hg67 rfl rfl (fun _ => ⟨rfl, trivial⟩)
        refine HQ.keep [(0, _), (2, _), (3, _), (4, _), (5, _), (6, _), (17, _), (18, _), (89, _), (91, _), (92, _)] ⟨rfl, rfl, rfl, rfl, rfl, rfl, rfl, rfl, rfl, rfl, rfl, trivial⟩ ?_
        refine HQ.keepR [(1, _), (2, _), (3, _), (4, _), (5, _), (6, _), (7, _), (8, _), (9, _), (10, _), (11, _), (12, _), (13, _), (14, _), (15, _), (16, _), (17, _)] ⟨rfl, rfl, rfl, rfl, rfl, rfl, rfl, rfl, rfl, rfl, rfl, rfl, rfl, rfl, rfl, rfl, rfl, trivial⟩ rfl ?_
        refine HQ.dRun 2 rfl rfl (by kernel_rfl) (by kernel_rfl) ?_
        refine HQ.off rfl rfl hg67 rfl ?_
        refine HQ.off rfl rfl hg67 rfl ?_
        refine HQ.done ?_
        refine HQ.dRun 1 rfl rfl (by kernel_rfl) (by kernel_rfl) ?_
        refine HQ.pu (Pu.pickC1 hg67) ⟨rfl, rfl, trivial⟩ rfl rfl rfl ?_
        refine HQ.done ?_
        exact HQ.dUse hmid ⟨rfl, rfl, rfl, rfl, rfl, rfl, rfl, rfl, rfl, trivial⟩ ⟨rfl, rfl, rfl, rfl, rfl, rfl, rfl, rfl, rfl, rfl, rfl, rfl, rfl, rfl, rfl, rfl, rfl, trivial⟩ rfl
      · obtain ⟨t69, h70, H⟩ := bnd H
        refine HQ.dPart [(0, .slice a_0 (List.length p0) c_0), (2, .bool false), (3, BP b5 0), (4, .slice a8 (List.length t6) c9), (5, BP b16 0), (6, .bool t14.2), (17, BP b46 0), (18, BP b47 0), (89, .bool (((((!t53) || (!(decide (t21.1 = t24.1)))) || (!(t21.2 == t24.2))) || (!(decide (t34.1 = t37.1)))) || (!(t34.2 == t37.2))))] 29 [⟨[], [], []⟩, ⟨[], [], []⟩, ⟨[], [], []⟩, ⟨[], [], []⟩, ⟨[], [], []⟩, ⟨[], [], []⟩, ⟨[], [], []⟩, ⟨[], [], []⟩, ⟨[], [], []⟩, ⟨[], [], []⟩, ⟨[], [], []⟩, ⟨[], [], []⟩, ⟨[], [], []⟩, ⟨[], [], []⟩, ⟨[], [], []⟩, ⟨[], [], []⟩, ⟨[], [], []⟩, ⟨[], [], []⟩, ⟨[], [], []⟩, ⟨[], [], []⟩, ⟨[], [], []⟩, ⟨[], [], []⟩, ⟨[], [], []⟩, ⟨[], [], []⟩, ⟨[], [], []⟩, ⟨[], [], []⟩, ⟨[0], [0], []⟩, ⟨[], [], [26]⟩, ⟨[0], [0], []⟩] [⟨none, none⟩] (fun (g68 : Unit) => [undef, undef, undef, undef, undef, undef, undef, undef, undef, undef, undef, undef, undef, undef, undef, undef, undef, undef, undef, undef, undef, undef, undef, undef, undef, undef, .agg #[.int .i64 t3.Epoch, .int .i64 t3.Seq, .int .i64 t3.Root, .int .i64 t3.Size], .bool t69, .agg #[.int .i64 t3.Epoch, .int .i64 t3.Seq, .int .i64 t3.Root, .int .i64 t3.Size]]) (fun (g68 : Unit) => [Box b5 [.int .i64 t3.Epoch, .int .i64 t3.Seq, .int .i64 t3.Root, .int .i64 t3.Size]]) () [1] [1] [] ⟨rfl, rfl, rfl, rfl, rfl, rfl, rfl, rfl, rfl, trivial⟩ ⟨rfl, trivial⟩ rfl (by kernel_rfl) (by kernel_rfl) (fun _ => rfl) (by kernel_rfl) (fun _ => rfl) rfl ⟨?_, ?_, ?_, trivial⟩ fun g68 => ?_
        · exact OpOK2.on (fun g68 => [(.tmp 3, BP b5 0)]) _ _ (fun g68 _ => g68) rfl rfl rfl hg67 (fun _ => ⟨rfl, trivial⟩) (fun g68 => OT.loadBA (vs := [.int .i64 t3.Epoch, .int .i64 t3.Seq, .int .i64 t3.Root, .int .i64 t3.Size]) ag68 sz68 rfl rfl) (fun _ _ => ⟨rfl, rfl, ⟨rfl, trivial⟩⟩)
        · exact OpOK2.on (fun g68 => [(.func 49, .func (.func 49) #[] #[]), (.tmp 90, .agg #[.int .i64 t3.Epoch, .int .i64 t3.Seq, .int .i64 t3.Root, .int .i64 t3.Size])]) _ _ (fun g68 _ => g68) rfl rfl rfl hg67 (fun _ => ⟨rfl, rfl, trivial⟩) (fun g68 => OT.call (us := [_]) (Pre := []) [.tmp 90] Try.call49 rfl rfl fun w F hs hF hp => impl_HeadOk_c h70) (fun _ _ => ⟨rfl, rfl, ⟨rfl, trivial⟩⟩)
        · exact OpOK2.on (fun g68 => [(.tmp 3, BP b5 0)]) _ _ (fun g68 _ => g68) rfl rfl rfl hg67 (fun _ => ⟨rfl, trivial⟩) (fun g68 => OT.loadBA (vs := [.int .i64 t3.Epoch, .int .i64 t3.Seq, .int .i64 t3.Root, .int .i64 t3.Size]) ag68 sz68 rfl rfl) (fun _ _ => ⟨rfl, rfl, ⟨rfl, trivial⟩⟩)
        refine HQ.keep [(0, _), (2, _), (3, _), (4, _), (5, _), (6, _), (17, _), (18, _), (89, _), (91, _), (92, _)] ⟨rfl, rfl, rfl, rfl, rfl, rfl, rfl, rfl, rfl, rfl, rfl, trivial⟩ ?_
        refine HQ.keepR [(1, _), (2, _), (3, _), (4, _), (5, _), (6, _), (7, _), (8, _), (9, _), (10, _), (11, _), (12, _), (13, _), (14, _), (15, _), (16, _), (17, _)] ⟨rfl, rfl, rfl, rfl, rfl, rfl, rfl, rfl, rfl, rfl, rfl, rfl, rfl, rfl, rfl, rfl, rfl, trivial⟩ rfl ?_
        refine HQ.dRun 2 rfl rfl (by kernel_rfl) (by kernel_rfl) ?_
        refine HQ.on rfl rfl hg67 ?_
        obtain ⟨t71, h72, H⟩ := bnd H
        refine HQ.op [] [] (OT.call (us := [_]) (Pre := []) [.tmp 92] Try.call50 rfl rfl fun w F hs hF hp => spec_HeadOk_c h72) ⟨rfl, rfl, trivial⟩ trivial rfl rfl rfl rfl (fun _ => rfl) fun _ => ?_
        refine HQ.on rfl rfl hg67 ?_
        refine HQ.pu (Pu.neqB ul4) ⟨rfl, rfl, trivial⟩ rfl rfl rfl ?_
        refine HQ.done ?_
        obtain rfl := Option.some.inj H
        refine HQ.dRun 1 rfl rfl (by kernel_rfl) (by kernel_rfl) ?_
        refine HQ.pu (Pu.pickC0 hg67) ⟨rfl, rfl, trivial⟩ rfl rfl rfl ?_
        refine HQ.done ?_
        exact HQ.dUse hmid ⟨rfl, rfl, rfl, rfl, rfl, rfl, rfl, rfl, rfl, trivial⟩ ⟨rfl, rfl, rfl, rfl, rfl, rfl, rfl, rfl, rfl, rfl, rfl, rfl, rfl, rfl, rfl, rfl, rfl, trivial⟩ rfl
    refine HQ.dRun 1 rfl rfl (by kernel_rfl) (by kernel_rfl) ?_
    refine HQ.pu Pu.move ⟨rfl, trivial⟩ rfl rfl rfl ?_
    refine HQ.done ?_
    obtain ⟨c93, h94, H⟩ := bnd H
    refine HQ.dMid (m' := 42) [(105, .bool c93), (0, .slice a_0 (List.length p0) c_0), (2, .bool false), (3, BP b5 0), (4, .slice a8 (List.length t6) c9), (5, BP b16 0), (6, .bool t14.2)] [(1, Box b5 [.int .i64 t3.Epoch, .int .i64 t3.Seq, .int .i64 t3.Root, .int .i64 t3.Size]), (2, OwnS kU8 a8 c9 t6), (3, OwnS kU8 a12 c13 t10), (4, Box b16 [.int .i64 t14.1.Epoch, .int .i64 t14.1.Seq, .int .i64 t14.1.Root, .int .i64 t14.1.Size]), (5, OwnS kU8 a19 c20 t17), (6, Box b23 [.int .i64 t21.1.Epoch, .int .i64 t21.1.Seq, .int .i64 t21.1.Root, .int .i64 t21.1.Size]), (7, Box b26 [.int .i64 t24.1.Epoch, .int .i64 t24.1.Seq, .int .i64 t24.1.Root, .int .i64 t24.1.Size]), (8, OwnS kTCell a29 c30 t27.Cells), (9, OwnS kTWet a31 c32 t27.Wet), (10, Box b33 [.slice a29 (List.length t27.Cells) c30, .slice a31 (List.length t27.Wet) c32, .int .i64 t27.Fuse, .bool t27.Dead]), (11, Box b36 [.int .i64 t34.1.Epoch, .int .i64 t34.1.Seq, .int .i64 t34.1.Root, .int .i64 t34.1.Size]), (12, Box b39 [.int .i64 t37.1.Epoch, .int .i64 t37.1.Seq, .int .i64 t37.1.Root, .int .i64 t37.1.Size]), (13, OwnS kTCell a42 c43 t40.1.Cells), (14, OwnS kTWet a44 c45 t40.1.Wet), (15, Box b46 [.slice a42 (List.length t40.1.Cells) c43, .slice a44 (List.length t40.1.Wet) c45, .int .i64 t40.1.Fuse, .bool t40.1.Dead]), (16, Box b47 [.int .i64 t40.2.Epoch, .int .i64 t40.2.Seq, .int .i64 t40.2.Root, .int .i64 t40.2.Size]), (17, OwnS kU8 g48.1 g48.2 t49)] (fun hmid => ?_) ?_
    · clear H
      have H := h94
      rcases brk H with ⟨hg76, H⟩ | ⟨hg76, H⟩
      · obtain rfl := Option.some.inj H
        refine HQ.dPart [(0, .slice a_0 (List.length p0) c_0), (2, .bool false), (3, BP b5 0), (4, .slice a8 (List.length t6) c9), (5, BP b16 0), (6, .bool t14.2), (17, BP b46 0), (18, BP b47 0), (96, .bool c74)] 38 [⟨[], [], []⟩, ⟨[], [], []⟩, ⟨[], [], []⟩, ⟨[], [], []⟩, ⟨[], [], []⟩, ⟨[], [], []⟩, ⟨[], [], []⟩, ⟨[], [], []⟩, ⟨[], [], []⟩, ⟨[], [], []⟩, ⟨[], [], []⟩, ⟨[], [], []⟩, ⟨[], [], []⟩, ⟨[], [], []⟩, ⟨[], [], []⟩, ⟨[], [], []⟩, ⟨[], [], []⟩, ⟨[], [], []⟩, ⟨[], [], []⟩, ⟨[], [], []⟩, ⟨[], [], []⟩, ⟨[], [], []⟩, ⟨[], [], []⟩, ⟨[], [], []⟩, ⟨[], [], []⟩, ⟨[], [], []⟩, ⟨[], [], []⟩, ⟨[], [], []⟩, ⟨[], [], []⟩, ⟨[], [], []⟩, ⟨[], [], []⟩, ⟨[], [], []⟩, ⟨[], [], []⟩, ⟨[], [], []⟩, ⟨[], [], []⟩, ⟨[], [], []⟩, ⟨[], [], []⟩, ⟨[], [], []⟩] [] (fun (g92 : Unit) => [undef, undef, undef, undef, undef, undef, undef, undef, undef, undef, undef, undef, undef, undef, undef, undef, undef, undef, undef, undef, undef, undef, undef, undef, undef, undef, undef, undef, undef, undef, undef, undef, undef, undef, undef, undef, undef, undef]) (fun (g92 : Unit) => []) () [] [] [] ⟨rfl, rfl, rfl, rfl, rfl, rfl, rfl, rfl, rfl, trivial⟩ trivial rfl (by kernel_rfl) (by kernel_rfl) (fun _ => rfl) (by kernel_rfl) (fun _ => rfl) rfl ⟨?_, ?_, ?_, ?_, ?_, trivial⟩ fun g92 => ?_
        · exact OpOK2.off rfl rfl rfl hg76 rfl rfl (fun _ => ⟨rfl, trivial⟩)
        · exact OpOK2.off rfl rfl rfl hg76 rfl rfl (fun _ => ⟨rfl, trivial⟩)
        · exact OpOK2.off rfl rfl rfl hg76 rfl rfl (fun _ => ⟨rfl, trivial⟩)
        · exact OpOK2.off rfl rfl rfl hg76 rfl rfl (fun _ => ⟨rfl, trivial⟩)
        · exact OpOK2.off rfl rfl rfl hg76 rfl rfl (fun _ => ⟨rfl, trivial⟩)
        refine HQ.keep [(0, _), (2, _), (3, _), (4, _), (5, _), (6, _), (96, _), (99, _), (100, _), (101, _)] ⟨rfl, rfl, rfl, rfl, rfl, rfl, rfl, rfl, rfl, rfl, trivial⟩ ?_
        refine HQ.keepR [(1, _), (2, _), (3, _), (4, _), (5, _), (6, _), (7, _), (8, _), (9, _), (10, _), (11, _), (12, _), (13, _), (14, _), (15, _), (16, _), (17, _)] ⟨rfl, rfl, rfl, rfl, rfl, rfl, rfl, rfl, rfl, rfl, rfl, rfl, rfl, rfl, rfl, rfl, rfl, trivial⟩ rfl ?_
        refine HQ.dRun 3 rfl rfl (by kernel_rfl) (by kernel_rfl) ?_
        refine HQ.off rfl rfl hg76 rfl ?_
        refine HQ.off rfl rfl hg76 rfl ?_
        refine HQ.off rfl rfl hg76 rfl ?_
        refine HQ.done ?_
        refine HQ.dRun 1 rfl rfl (by kernel_rfl) (by kernel_rfl) ?_
        refine HQ.pu (Pu.pickC1 hg76) ⟨rfl, rfl, trivial⟩ rfl rfl rfl ?_
        refine HQ.done ?_
        exact HQ.dUse hmid ⟨rfl, rfl, rfl, rfl, rfl, rfl, rfl, trivial⟩ ⟨rfl, rfl, rfl, rfl, rfl, rfl, rfl, rfl, rfl, rfl, rfl, rfl, rfl, rfl, rfl, rfl, rfl, trivial⟩ rfl
      · obtain ⟨t78, h79, H⟩ := bnd H
        refine HQ.dPart [(0, .slice a_0 (List.length p0) c_0), (2, .bool false), (3, BP b5 0), (4, .slice a8 (List.length t6) c9), (5, BP b16 0), (6, .bool t14.2), (17, BP b46 0), (18, BP b47 0), (96, .bool c74)] 38 [⟨[], [], []⟩, ⟨[], [], []⟩, ⟨[], [], []⟩, ⟨[], [], []⟩, ⟨[], [], []⟩, ⟨[], [], []⟩, ⟨[], [], []⟩, ⟨[], [], []⟩, ⟨[], [], []⟩, ⟨[], [], []⟩, ⟨[], [], []⟩, ⟨[], [], []⟩, ⟨[], [], []⟩, ⟨[], [], []⟩, ⟨[], [], []⟩, ⟨[], [], []⟩, ⟨[], [], []⟩, ⟨[], [], []⟩, ⟨[], [], []⟩, ⟨[], [], []⟩, ⟨[], [], []⟩, ⟨[], [], []⟩, ⟨[], [], []⟩, ⟨[], [], []⟩, ⟨[], [], []⟩, ⟨[], [], []⟩, ⟨[], [], []⟩, ⟨[], [], []⟩, ⟨[], [], []⟩, ⟨[], [], []⟩, ⟨[], [], []⟩, ⟨[], [], []⟩, ⟨[], [], []⟩, ⟨[0], [0], []⟩, ⟨[1], [1], []⟩, ⟨[2, 3], [4, 5, 2, 3], [33, 34]⟩, ⟨[0], [0], []⟩, ⟨[1], [1], []⟩] [⟨none, none⟩, ⟨none, none⟩, ⟨none, none⟩, ⟨none, none⟩, ⟨some 35, none⟩, ⟨some 35, none⟩] (fun (g77 : ((Option Addr × Nat) × (Option Addr × Nat))) => [undef, undef, undef, undef, undef, undef, undef, undef, undef, undef, undef, undef, undef, undef, undef, undef, undef, undef, undef, undef, undef, undef, undef, undef, undef, undef, undef, undef, undef, undef, undef, undef, undef, .agg #[.slice a42 (List.length t40.1.Cells) c43, .slice a44 (List.length t40.1.Wet) c45, .int .i64 t40.1.Fuse, .bool t40.1.Dead], .agg #[.int .i64 t40.2.Epoch, .int .i64 t40.2.Seq, .int .i64 t40.2.Root, .int .i64 t40.2.Size], .agg #[.slice g77.1.1 (List.length t78.Cells) g77.1.2, .slice g77.2.1 (List.length t78.Wet) g77.2.2, .int .i64 t78.Fuse, .bool t78.Dead], .agg #[.slice a42 (List.length t40.1.Cells) c43, .slice a44 (List.length t40.1.Wet) c45, .int .i64 t40.1.Fuse, .bool t40.1.Dead], .agg #[.int .i64 t40.2.Epoch, .int .i64 t40.2.Seq, .int .i64 t40.2.Root, .int .i64 t40.2.Size]]) (fun (g77 : ((Option Addr × Nat) × (Option Addr × Nat))) => [Box b46 [.slice a42 (List.length t40.1.Cells) c43, .slice a44 (List.length t40.1.Wet) c45, .int .i64 t40.1.Fuse, .bool t40.1.Dead], Box b47 [.int .i64 t40.2.Epoch, .int .i64 t40.2.Seq, .int .i64 t40.2.Root, .int .i64 t40.2.Size], OwnS kTCell a42 c43 t40.1.Cells, OwnS kTWet a44 c45 t40.1.Wet, OwnS kTCell g77.1.1 g77.1.2 t78.Cells, OwnS kTWet g77.2.1 g77.2.2 t78.Wet]) ((none, 0), (none, 0)) [15, 16, 13, 14] [15, 16, 13, 14, 18, 19] [] ⟨rfl, rfl, rfl, rfl, rfl, rfl, rfl, rfl, rfl, trivial⟩ ⟨rfl, rfl, rfl, rfl, trivial⟩ rfl (by kernel_rfl) (by kernel_rfl) (fun _ => rfl) (by kernel_rfl) (fun _ => rfl) rfl ⟨?_, ?_, ?_, ?_, ?_, trivial⟩ fun g77 => ?_
        · exact OpOK2.on (fun g77 => [(.tmp 17, BP b46 0)]) _ _ (fun g77 _ => g77) rfl rfl rfl hg76 (fun _ => ⟨rfl, trivial⟩) (fun g77 => OT.loadBA (vs := [.slice a42 (List.length t40.1.Cells) c43, .slice a44 (List.length t40.1.Wet) c45, .int .i64 t40.1.Fuse, .bool t40.1.Dead]) ag27 sz27 rfl rfl) (fun _ _ => ⟨rfl, rfl, ⟨rfl, rfl, rfl, rfl, rfl, rfl, trivial⟩⟩)
        · exact OpOK2.on (fun g77 => [(.tmp 18, BP b47 0)]) _ _ (fun g77 _ => g77) rfl rfl rfl hg76 (fun _ => ⟨rfl, trivial⟩) (fun g77 => OT.loadBA (vs := [.int .i64 t40.2.Epoch, .int .i64 t40.2.Seq, .int .i64 t40.2.Root, .int .i64 t40.2.Size]) ag68 sz68 rfl rfl) (fun _ _ => ⟨rfl, rfl, ⟨rfl, rfl, rfl, rfl, rfl, rfl, trivial⟩⟩)
        · exact OpOK2.on (fun g77 => [(.func 51, .func (.func 51) #[] #[]), (.tmp 97, .agg #[.slice a42 (List.length t40.1.Cells) c43, .slice a44 (List.length t40.1.Wet) c45, .int .i64 t40.1.Fuse, .bool t40.1.Dead]), (.tmp 98, .agg #[.int .i64 t40.2.Epoch, .int .i64 t40.2.Seq, .int .i64 t40.2.Root, .int .i64 t40.2.Size])]) _ _ (fun g77 x => x) rfl rfl rfl hg76 (fun _ => ⟨rfl, rfl, rfl, trivial⟩) (fun g77 => OT.call (us := [_, _]) (Pre := [OwnS kTCell a42 c43 t40.1.Cells, OwnS kTWet a44 c45 t40.1.Wet]) [.tmp 97, .tmp 98] Try.call51 rfl rfl fun w F hs hF hp => impl_PutHead_c (hs.lend hF 0 rfl) (hs.lend hF 1 rfl) h79) (fun _ _ => ⟨rfl, rfl, ⟨rfl, rfl, rfl, rfl, rfl, rfl, trivial⟩⟩)
        · exact OpOK2.on (fun g77 => [(.tmp 17, BP b46 0)]) _ _ (fun g77 _ => g77) rfl rfl rfl hg76 (fun _ => ⟨rfl, trivial⟩) (fun g77 => OT.loadBA (vs := [.slice a42 (List.length t40.1.Cells) c43, .slice a44 (List.length t40.1.Wet) c45, .int .i64 t40.1.Fuse, .bool t40.1.Dead]) ag27 sz27 rfl rfl) (fun _ _ => ⟨rfl, rfl, ⟨rfl, rfl, rfl, rfl, rfl, rfl, trivial⟩⟩)
        · exact OpOK2.on (fun g77 => [(.tmp 18, BP b47 0)]) _ _ (fun g77 _ => g77) rfl rfl rfl hg76 (fun _ => ⟨rfl, trivial⟩) (fun g77 => OT.loadBA (vs := [.int .i64 t40.2.Epoch, .int .i64 t40.2.Seq, .int .i64 t40.2.Root, .int .i64 t40.2.Size]) ag68 sz68 rfl rfl) (fun _ _ => ⟨rfl, rfl, ⟨rfl, rfl, rfl, rfl, rfl, rfl, trivial⟩⟩)
        refine HQ.keep [(0, _), (2, _), (3, _), (4, _), (5, _), (6, _), (96, _), (99, _), (100, _), (101, _)] ⟨rfl, rfl, rfl, rfl, rfl, rfl, rfl, rfl, rfl, rfl, trivial⟩ ?_
        refine HQ.keepR [(1, _), (2, _), (3, _), (4, _), (5, _), (6, _), (7, _), (8, _), (9, _), (10, _), (11, _), (12, _), (13, _), (14, _), (15, _), (16, _), (17, _), (18, _), (19, _)] ⟨rfl, rfl, rfl, rfl, rfl, rfl, rfl, rfl, rfl, rfl, rfl, rfl, rfl, rfl, rfl, rfl, rfl, rfl, rfl, trivial⟩ rfl ?_
        refine HQ.dRun 3 rfl rfl (by kernel_rfl) (by kernel_rfl) ?_
        refine HQ.on rfl rfl hg76 ?_
        obtain ⟨t84, h85, H⟩ := bnd H
        refine HQ.op [13, 14] [20, 21, 13, 14] (OT.call (us := [_, _]) (Pre := [OwnS kTCell a42 c43 t40.1.Cells, OwnS kTWet a44 c45 t40.1.Wet]) [.tmp 100, .tmp 101] Try.call52 rfl rfl fun w F hs hF hp => spec_PutHead_c (hs.lend hF 0 rfl) (hs.lend hF 1 rfl) h85) ⟨rfl, rfl, rfl, trivial⟩ ⟨rfl, rfl, trivial⟩ rfl rfl rfl rfl (fun _ => rfl) fun ⟨⟨a86, c87⟩, ⟨a88, c89⟩⟩ => ?_
        refine HQ.on rfl rfl hg76 ?_
        obtain ⟨t90, h91, H⟩ := bnd H
        refine HQ.op [18, 19, 20, 21] [18, 19, 20, 21] (OT.call (us := [_, _]) (Pre := [OwnS kTCell g77.1.1 g77.1.2 t78.Cells, OwnS kTWet g77.2.1 g77.2.2 t78.Wet, OwnS kTCell a86 c87 t84.Cells, OwnS kTWet a88 c89 t84.Wet]) [.tmp 99, .tmp 102] Try.call19 rfl rfl fun w F hs hF hp => laws_sameDisk_c (hs.lend hF 0 rfl) (hs.lend hF 1 rfl) (hs.lend hF 2 rfl) (hs.lend hF 3 rfl) h91) ⟨rfl, rfl, rfl, trivial⟩ ⟨rfl, rfl, rfl, rfl, trivial⟩ rfl rfl rfl rfl (fun _ => rfl) fun _ => ?_
        refine HQ.on rfl rfl hg76 ?_
        refine HQ.pu Pu.not ⟨rfl, trivial⟩ rfl rfl rfl ?_
        refine HQ.done ?_
        obtain rfl := Option.some.inj H
        refine HQ.dRun 1 rfl rfl (by kernel_rfl) (by kernel_rfl) ?_
        refine HQ.pu (Pu.pickC0 hg76) ⟨rfl, rfl, trivial⟩ rfl rfl rfl ?_
        refine HQ.done ?_
        exact HQ.dUse hmid ⟨rfl, rfl, rfl, rfl, rfl, rfl, rfl, trivial⟩ ⟨rfl, rfl, rfl, rfl, rfl, rfl, rfl, rfl, rfl, rfl, rfl, rfl, rfl, rfl, rfl, rfl, rfl, trivial⟩ rfl
    refine HQ.dRun 1 rfl rfl (by kernel_rfl) (by kernel_rfl) ?_
    refine HQ.pu Pu.move ⟨rfl, trivial⟩ rfl rfl rfl ?_
    refine HQ.done ?_
    obtain ⟨c100, h101, H⟩ := bnd H
    refine HQ.dMid (m' := 50) [(113, .bool c100), (0, .slice a_0 (List.length p0) c_0), (2, .bool false), (3, BP b5 0), (4, .slice a8 (List.length t6) c9), (5, BP b16 0), (6, .bool t14.2)] [(1, Box b5 [.int .i64 t3.Epoch, .int .i64 t3.Seq, .int .i64 t3.Root, .int .i64 t3.Size]), (2, OwnS kU8 a8 c9 t6), (3, OwnS kU8 a12 c13 t10), (4, Box b16 [.int .i64 t14.1.Epoch, .int .i64 t14.1.Seq, .int .i64 t14.1.Root, .int .i64 t14.1.Size]), (5, OwnS kU8 a19 c20 t17), (6, Box b23 [.int .i64 t21.1.Epoch, .int .i64 t21.1.Seq, .int .i64 t21.1.Root, .int .i64 t21.1.Size]), (7, Box b26 [.int .i64 t24.1.Epoch, .int .i64 t24.1.Seq, .int .i64 t24.1.Root, .int .i64 t24.1.Size]), (8, OwnS kTCell a29 c30 t27.Cells), (9, OwnS kTWet a31 c32 t27.Wet), (10, Box b33 [.slice a29 (List.length t27.Cells) c30, .slice a31 (List.length t27.Wet) c32, .int .i64 t27.Fuse, .bool t27.Dead]), (11, Box b36 [.int .i64 t34.1.Epoch, .int .i64 t34.1.Seq, .int .i64 t34.1.Root, .int .i64 t34.1.Size]), (12, Box b39 [.int .i64 t37.1.Epoch, .int .i64 t37.1.Seq, .int .i64 t37.1.Root, .int .i64 t37.1.Size]), (13, OwnS kTCell a42 c43 t40.1.Cells), (14, OwnS kTWet a44 c45 t40.1.Wet), (15, Box b46 [.slice a42 (List.length t40.1.Cells) c43, .slice a44 (List.length t40.1.Wet) c45, .int .i64 t40.1.Fuse, .bool t40.1.Dead]), (16, Box b47 [.int .i64 t40.2.Epoch, .int .i64 t40.2.Seq, .int .i64 t40.2.Root, .int .i64 t40.2.Size]), (17, OwnS kU8 g48.1 g48.2 t49)] (fun hmid => ?_) ?_
    · clear H
      have H := h101
      rcases brk H with ⟨hg95, H⟩ | ⟨hg95, H⟩
      · obtain rfl := Option.some.inj H
        refine HQ.dPart [(0, .slice a_0 (List.length p0) c_0), (2, .bool false), (3, BP b5 0), (4, .slice a8 (List.length t6) c9), (5, BP b16 0), (6, .bool t14.2), (106, .bool c93)] 48 [⟨[], [], []⟩, ⟨[], [], []⟩, ⟨[], [], []⟩, ⟨[], [], []⟩, ⟨[], [], []⟩, ⟨[], [], []⟩, ⟨[], [], []⟩, ⟨[], [], []⟩, ⟨[], [], []⟩, ⟨[], [], []⟩, ⟨[], [], []⟩, ⟨[], [], []⟩, ⟨[], [], []⟩, ⟨[], [], []⟩, ⟨[], [], []⟩, ⟨[], [], []⟩, ⟨[], [], []⟩, ⟨[], [], []⟩, ⟨[], [], []⟩, ⟨[], [], []⟩, ⟨[], [], []⟩, ⟨[], [], []⟩, ⟨[], [], []⟩, ⟨[], [], []⟩, ⟨[], [], []⟩, ⟨[], [], []⟩, ⟨[], [], []⟩, ⟨[], [], []⟩, ⟨[], [], []⟩, ⟨[], [], []⟩, ⟨[], [], []⟩, ⟨[], [], []⟩, ⟨[], [], []⟩, ⟨[], [], []⟩, ⟨[], [], []⟩, ⟨[], [], []⟩, ⟨[], [], []⟩, ⟨[], [], []⟩, ⟨[], [], []⟩, ⟨[], [], []⟩, ⟨[], [], []⟩, ⟨[], [], []⟩, ⟨[], [], []⟩, ⟨[], [], []⟩, ⟨[], [], []⟩, ⟨[], [], []⟩, ⟨[], [], []⟩, ⟨[], [], []⟩] [] (fun (g99 : Unit) => [undef, undef, undef, undef, undef, undef, undef, undef, undef, undef, undef, undef, undef, undef, undef, undef, undef, undef, undef, undef, undef, undef, undef, undef, undef, undef, undef, undef, undef, undef, undef, undef, undef, undef, undef, undef, undef, undef, undef, undef, undef, undef, undef, undef, undef, undef, undef, undef]) (fun (g99 : Unit) => []) () [] [] [] ⟨rfl, rfl, rfl, rfl, rfl, rfl, rfl, trivial⟩ trivial rfl (by kernel_rfl) (by kernel_rfl) (fun _ => rfl) (by kernel_rfl) (fun _ => rfl) rfl ⟨?_, ?_, ?_, ?_, ?_, trivial⟩ fun g99 => ?_
        · exact OpOK2.off rfl rfl rfl hg95 rfl rfl (fun _ => ⟨rfl, trivial⟩)
        · exact OpOK2.off rfl rfl rfl hg95 rfl rfl (fun _ => ⟨rfl, trivial⟩)
        · exact OpOK2.off rfl rfl rfl hg95 rfl rfl (fun _ => ⟨rfl, trivial⟩)
        · exact OpOK2.off rfl rfl rfl hg95 rfl rfl (fun _ => ⟨rfl, trivial⟩)
        · exact OpOK2.off rfl rfl rfl hg95 rfl rfl (fun _ => ⟨rfl, trivial⟩)
        refine HQ.keep [(0, _), (2, _), (3, _), (4, _), (5, _), (6, _), (106, _), (109, _), (111, _)] ⟨rfl, rfl, rfl, rfl, rfl, rfl, rfl, rfl, rfl, trivial⟩ ?_
        refine HQ.keepR [(1, _), (2, _), (3, _), (4, _), (5, _), (6, _), (7, _), (8, _), (9, _), (10, _), (11, _), (12, _), (13, _), (14, _), (15, _), (16, _), (17, _)] ⟨rfl, rfl, rfl, rfl, rfl, rfl, rfl, rfl, rfl, rfl, rfl, rfl, rfl, rfl, rfl, rfl, rfl, trivial⟩ rfl ?_
        refine HQ.dRun 1 rfl rfl (by kernel_rfl) (by kernel_rfl) ?_
        refine HQ.off rfl rfl hg95 rfl ?_
        refine HQ.done ?_
        refine HQ.dRun 1 rfl rfl (by kernel_rfl) (by kernel_rfl) ?_
        refine HQ.pu (Pu.pickC1 hg95) ⟨rfl, rfl, trivial⟩ rfl rfl rfl ?_
        refine HQ.done ?_
        exact HQ.dUse hmid ⟨rfl, rfl, rfl, rfl, rfl, rfl, rfl, trivial⟩ ⟨rfl, rfl, rfl, rfl, rfl, rfl, rfl, rfl, rfl, rfl, rfl, rfl, rfl, rfl, rfl, rfl, rfl, trivial⟩ rfl
      · obtain ⟨t97, h98, H⟩ := bnd H
        refine HQ.dPart [(0, .slice a_0 (List.length p0) c_0), (2, .bool false), (3, BP b5 0), (4, .slice a8 (List.length t6) c9), (5, BP b16 0), (6, .bool t14.2), (106, .bool c93)] 48 [⟨[], [], []⟩, ⟨[], [], []⟩, ⟨[], [], []⟩, ⟨[], [], []⟩, ⟨[], [], []⟩, ⟨[], [], []⟩, ⟨[], [], []⟩, ⟨[], [], []⟩, ⟨[], [], []⟩, ⟨[], [], []⟩, ⟨[], [], []⟩, ⟨[], [], []⟩, ⟨[], [], []⟩, ⟨[], [], []⟩, ⟨[], [], []⟩, ⟨[], [], []⟩, ⟨[], [], []⟩, ⟨[], [], []⟩, ⟨[], [], []⟩, ⟨[], [], []⟩, ⟨[], [], []⟩, ⟨[], [], []⟩, ⟨[], [], []⟩, ⟨[], [], []⟩, ⟨[], [], []⟩, ⟨[], [], []⟩, ⟨[], [], []⟩, ⟨[], [], []⟩, ⟨[], [], []⟩, ⟨[], [], []⟩, ⟨[], [], []⟩, ⟨[], [], []⟩, ⟨[], [], []⟩, ⟨[], [], []⟩, ⟨[], [], []⟩, ⟨[], [], []⟩, ⟨[], [], []⟩, ⟨[], [], []⟩, ⟨[], [], []⟩, ⟨[], [], []⟩, ⟨[], [], []⟩, ⟨[], [], []⟩, ⟨[], [], []⟩, ⟨[], [], []⟩, ⟨[], [], [43]⟩, ⟨[], [], [44]⟩, ⟨[0], [0], []⟩, ⟨[], [], [46]⟩] [⟨none, none⟩] (fun (g96 : Unit) => [undef, undef, undef, undef, undef, undef, undef, undef, undef, undef, undef, undef, undef, undef, undef, undef, undef, undef, undef, undef, undef, undef, undef, undef, undef, undef, undef, undef, undef, undef, undef, undef, undef, undef, undef, undef, undef, undef, undef, undef, undef, undef, undef, .slice a8 (List.length t6) c9, .int .i64 ((List.length t6 : Nat) : Int), .bool (decide (((List.length t6 : Nat) : Int) > 0)), .agg #[.int .i64 t3.Epoch, .int .i64 t3.Seq, .int .i64 t3.Root, .int .i64 t3.Size], .bool t97]) (fun (g96 : Unit) => [Box b5 [.int .i64 t3.Epoch, .int .i64 t3.Seq, .int .i64 t3.Root, .int .i64 t3.Size]]) () [1] [1] [] ⟨rfl, rfl, rfl, rfl, rfl, rfl, rfl, trivial⟩ ⟨rfl, trivial⟩ rfl (by kernel_rfl) (by kernel_rfl) (fun _ => rfl) (by kernel_rfl) (fun _ => rfl) rfl ⟨?_, ?_, ?_, ?_, ?_, trivial⟩ fun g96 => ?_
        · exact OpOK2.on (fun g96 => [(.tmp 4, .slice a8 (List.length t6) c9)]) _ _ (fun g96 _ => g96) rfl rfl rfl hg95 (fun _ => ⟨rfl, trivial⟩) (fun g96 => Pu.toOT Pu.move) (fun _ _ => ⟨rfl, rfl, ⟨rfl, trivial⟩⟩)
        · exact OpOK2.on (fun g96 => [(.tmp 107, .slice a8 (List.length t6) c9)]) _ _ (fun g96 _ => g96) rfl rfl rfl hg95 (fun _ => ⟨rfl, trivial⟩) (fun g96 => Pu.toOT (Pu.len ul22)) (fun _ _ => ⟨rfl, rfl, ⟨rfl, trivial⟩⟩)
        · exact OpOK2.on (fun g96 => [(.tmp 108, .int .i64 ((List.length t6 : Nat) : Int)), (.const (.int .i64 0), .int .i64 0)]) _ _ (fun g96 _ => g96) rfl rfl rfl hg95 (fun _ => ⟨rfl, rfl, trivial⟩) (fun g96 => Pu.toOT Pu.gtr) (fun _ _ => ⟨rfl, rfl, ⟨rfl, trivial⟩⟩)
        · exact OpOK2.on (fun g96 => [(.tmp 3, BP b5 0)]) _ _ (fun g96 _ => g96) rfl rfl rfl hg95 (fun _ => ⟨rfl, trivial⟩) (fun g96 => OT.loadBA (vs := [.int .i64 t3.Epoch, .int .i64 t3.Seq, .int .i64 t3.Root, .int .i64 t3.Size]) ag68 sz68 rfl rfl) (fun _ _ => ⟨rfl, rfl, ⟨rfl, trivial⟩⟩)
        · exact OpOK2.on (fun g96 => [(.func 49, .func (.func 49) #[] #[]), (.tmp 110, .agg #[.int .i64 t3.Epoch, .int .i64 t3.Seq, .int .i64 t3.Root, .int .i64 t3.Size])]) _ _ (fun g96 _ => g96) rfl rfl rfl hg95 (fun _ => ⟨rfl, rfl, trivial⟩) (fun g96 => OT.call (us := [_]) (Pre := []) [.tmp 110] Try.call49 rfl rfl fun w F hs hF hp => impl_HeadOk_c h98) (fun _ _ => ⟨rfl, rfl, ⟨rfl, trivial⟩⟩)
        refine HQ.keep [(0, _), (2, _), (3, _), (4, _), (5, _), (6, _), (106, _), (109, _), (111, _)] ⟨rfl, rfl, rfl, rfl, rfl, rfl, rfl, rfl, rfl, trivial⟩ ?_
        refine HQ.keepR [(1, _), (2, _), (3, _), (4, _), (5, _), (6, _), (7, _), (8, _), (9, _), (10, _), (11, _), (12, _), (13, _), (14, _), (15, _), (16, _), (17, _)] ⟨rfl, rfl, rfl, rfl, rfl, rfl, rfl, rfl, rfl, rfl, rfl, rfl, rfl, rfl, rfl, rfl, rfl, trivial⟩ rfl ?_
        refine HQ.dRun 1 rfl rfl (by kernel_rfl) (by kernel_rfl) ?_
        refine HQ.on rfl rfl hg95 ?_
        refine HQ.pu (Pu.neqB ul4) ⟨rfl, rfl, trivial⟩ rfl rfl rfl ?_
        refine HQ.done ?_
        obtain rfl := Option.some.inj H
        refine HQ.dRun 1 rfl rfl (by kernel_rfl) (by kernel_rfl) ?_
        refine HQ.pu (Pu.pickC0 hg95) ⟨rfl, rfl, trivial⟩ rfl rfl rfl ?_
        refine HQ.done ?_
        exact HQ.dUse hmid ⟨rfl, rfl, rfl, rfl, rfl, rfl, rfl, trivial⟩ ⟨rfl, rfl, rfl, rfl, rfl, rfl, rfl, rfl, rfl, rfl, rfl, rfl, rfl, rfl, rfl, rfl, rfl, trivial⟩ rfl
    refine HQ.dRun 1 rfl rfl (by kernel_rfl) (by kernel_rfl) ?_
    refine HQ.pu Pu.move ⟨rfl, trivial⟩ rfl rfl rfl ?_
    refine HQ.done ?_
    refine HQ.dMid (m' := 64) [(127, .bool (c100 || ((decide (((List.length t6 : Nat) : Int) > 0)) && ((!t14.2) || (!(decide (t14.1 = t3))))))), (0, .slice a_0 (List.length p0) c_0), (2, .bool false)] [(1, Box b5 [.int .i64 t3.Epoch, .int .i64 t3.Seq, .int .i64 t3.Root, .int .i64 t3.Size]), (2, OwnS kU8 a8 c9 t6), (3, OwnS kU8 a12 c13 t10), (4, Box b16 [.int .i64 t14.1.Epoch, .int .i64 t14.1.Seq, .int .i64 t14.1.Root, .int .i64 t14.1.Size]), (5, OwnS kU8 a19 c20 t17), (6, Box b23 [.int .i64 t21.1.Epoch, .int .i64 t21.1.Seq, .int .i64 t21.1.Root, .int .i64 t21.1.Size]), (7, Box b26 [.int .i64 t24.1.Epoch, .int .i64 t24.1.Seq, .int .i64 t24.1.Root, .int .i64 t24.1.Size]), (8, OwnS kTCell a29 c30 t27.Cells), (9, OwnS kTWet a31 c32 t27.Wet), (10, Box b33 [.slice a29 (List.length t27.Cells) c30, .slice a31 (List.length t27.Wet) c32, .int .i64 t27.Fuse, .bool t27.Dead]), (11, Box b36 [.int .i64 t34.1.Epoch, .int .i64 t34.1.Seq, .int .i64 t34.1.Root, .int .i64 t34.1.Size]), (12, Box b39 [.int .i64 t37.1.Epoch, .int .i64 t37.1.Seq, .int .i64 t37.1.Root, .int .i64 t37.1.Size]), (13, OwnS kTCell a42 c43 t40.1.Cells), (14, OwnS kTWet a44 c45 t40.1.Wet), (15, Box b46 [.slice a42 (List.length t40.1.Cells) c43, .slice a44 (List.length t40.1.Wet) c45, .int .i64 t40.1.Fuse, .bool t40.1.Dead]), (16, Box b47 [.int .i64 t40.2.Epoch, .int .i64 t40.2.Seq, .int .i64 t40.2.Root, .int .i64 t40.2.Size]), (17, OwnS kU8 g48.1 g48.2 t49)] (fun hmid => ?_) ?_
    · rcases Bool.eq_false_or_eq_true c100 with hg102 | hg102
      · refine HQ.dRun 7 rfl rfl (by kernel_rfl) (by kernel_rfl) ?_
        refine HQ.off rfl rfl hg102 rfl ?_
        refine HQ.off rfl rfl hg102 rfl ?_
        refine HQ.off rfl rfl hg102 rfl ?_
        refine HQ.off rfl rfl hg102 rfl ?_
        refine HQ.offU rfl rfl rfl ?_
        refine HQ.offU rfl rfl rfl ?_
        refine HQ.offU rfl rfl rfl ?_
        refine HQ.done ?_
        refine HQ.dPart [(0, .slice a_0 (List.length p0) c_0), (2, .bool false), (3, BP b5 0), (5, BP b16 0), (114, .bool c100), (118, undef), (121, undef)] 60 [⟨[], [], []⟩, ⟨[], [], []⟩, ⟨[], [], []⟩, ⟨[], [], []⟩, ⟨[], [], []⟩, ⟨[], [], []⟩, ⟨[], [], []⟩, ⟨[], [], []⟩, ⟨[], [], []⟩, ⟨[], [], []⟩, ⟨[], [], []⟩, ⟨[], [], []⟩, ⟨[], [], []⟩, ⟨[], [], []⟩, ⟨[], [], []⟩, ⟨[], [], []⟩, ⟨[], [], []⟩, ⟨[], [], []⟩, ⟨[], [], []⟩, ⟨[], [], []⟩, ⟨[], [], []⟩, ⟨[], [], []⟩, ⟨[], [], []⟩, ⟨[], [], []⟩, ⟨[], [], []⟩, ⟨[], [], []⟩, ⟨[], [], []⟩, ⟨[], [], []⟩, ⟨[], [], []⟩, ⟨[], [], []⟩, ⟨[], [], []⟩, ⟨[], [], []⟩, ⟨[], [], []⟩, ⟨[], [], []⟩, ⟨[], [], []⟩, ⟨[], [], []⟩, ⟨[], [], []⟩, ⟨[], [], []⟩, ⟨[], [], []⟩, ⟨[], [], []⟩, ⟨[], [], []⟩, ⟨[], [], []⟩, ⟨[], [], []⟩, ⟨[], [], []⟩, ⟨[], [], []⟩, ⟨[], [], []⟩, ⟨[], [], []⟩, ⟨[], [], []⟩, ⟨[], [], []⟩, ⟨[], [], []⟩, ⟨[], [], []⟩, ⟨[], [], []⟩, ⟨[], [], []⟩, ⟨[], [], []⟩, ⟨[], [], []⟩, ⟨[], [], []⟩, ⟨[], [], []⟩, ⟨[], [], []⟩, ⟨[], [], []⟩, ⟨[], [], []⟩] [] (fun (g108 : Unit) => [undef, undef, undef, undef, undef, undef, undef, undef, undef, undef, undef, undef, undef, undef, undef, undef, undef, undef, undef, undef, undef, undef, undef, undef, undef, undef, undef, undef, undef, undef, undef, undef, undef, undef, undef, undef, undef, undef, undef, undef, undef, undef, undef, undef, undef, undef, undef, undef, undef, undef, undef, undef, undef, undef, undef, undef, undef, undef, undef, undef]) (fun (g108 : Unit) => []) () [] [] [] ⟨rfl, rfl, rfl, rfl, rfl, rfl, rfl, trivial⟩ trivial rfl (by kernel_rfl) (by kernel_rfl) (fun _ => rfl) (by kernel_rfl) (fun _ => rfl) rfl ⟨?_, ?_, trivial⟩ fun g108 => ?_
        · exact OpOK2.offU rfl rfl rfl rfl rfl (fun _ => ⟨rfl, trivial⟩)
        · exact OpOK2.offU rfl rfl rfl rfl rfl (fun _ => ⟨rfl, trivial⟩)
        refine HQ.keep [(0, _), (2, _), (114, _), (118, _), (121, _), (122, _), (123, _)] ⟨rfl, rfl, rfl, rfl, rfl, rfl, rfl, trivial⟩ ?_
        refine HQ.keepR [(1, _), (2, _), (3, _), (4, _), (5, _), (6, _), (7, _), (8, _), (9, _), (10, _), (11, _), (12, _), (13, _), (14, _), (15, _), (16, _), (17, _)] ⟨rfl, rfl, rfl, rfl, rfl, rfl, rfl, rfl, rfl, rfl, rfl, rfl, rfl, rfl, rfl, rfl, rfl, trivial⟩ rfl ?_
        refine HQ.dRun 3 rfl rfl (by kernel_rfl) (by kernel_rfl) ?_
        refine HQ.offU rfl rfl rfl ?_
        refine HQ.offU rfl rfl rfl ?_
        refine HQ.off rfl rfl hg102 rfl ?_
        refine HQ.done ?_
        refine HQ.dRun 1 rfl rfl (by kernel_rfl) (by kernel_rfl) ?_
        refine HQ.pu (Pu.pickOT (u := ((decide (((List.length t6 : Nat) : Int) > 0)) && ((!t14.2) || (!(decide (t14.1 = t3)))))) hg102) ⟨rfl, rfl, trivial⟩ rfl rfl rfl ?_
        refine HQ.done ?_
        exact HQ.dUse hmid ⟨rfl, rfl, rfl, trivial⟩ ⟨rfl, rfl, rfl, rfl, rfl, rfl, rfl, rfl, rfl, rfl, rfl, rfl, rfl, rfl, rfl, rfl, rfl, trivial⟩ rfl
      · refine HQ.dRun 4 rfl rfl (by kernel_rfl) (by kernel_rfl) ?_
        refine HQ.on rfl rfl hg102 ?_
        refine HQ.pu Pu.move ⟨rfl, trivial⟩ rfl rfl rfl ?_
        refine HQ.on rfl rfl hg102 ?_
        refine HQ.pu (Pu.len ul22) ⟨rfl, trivial⟩ rfl rfl rfl ?_
        refine HQ.on rfl rfl hg102 ?_
        refine HQ.pu Pu.gtr ⟨rfl, rfl, trivial⟩ rfl rfl rfl ?_
        refine HQ.on rfl rfl hg102 ?_
        refine HQ.pu Pu.move ⟨rfl, trivial⟩ rfl rfl rfl ?_
        refine HQ.done ?_
        refine HQ.dMid (m' := 63) [(126, .bool ((decide (((List.length t6 : Nat) : Int) > 0)) && ((!t14.2) || (!(decide (t14.1 = t3)))))), (0, .slice a_0 (List.length p0) c_0), (2, .bool false), (114, .bool c100)] [(1, Box b5 [.int .i64 t3.Epoch, .int .i64 t3.Seq, .int .i64 t3.Root, .int .i64 t3.Size]), (2, OwnS kU8 a8 c9 t6), (3, OwnS kU8 a12 c13 t10), (4, Box b16 [.int .i64 t14.1.Epoch, .int .i64 t14.1.Seq, .int .i64 t14.1.Root, .int .i64 t14.1.Size]), (5, OwnS kU8 a19 c20 t17), (6, Box b23 [.int .i64 t21.1.Epoch, .int .i64 t21.1.Seq, .int .i64 t21.1.Root, .int .i64 t21.1.Size]), (7, Box b26 [.int .i64 t24.1.Epoch, .int .i64 t24.1.Seq, .int .i64 t24.1.Root, .int .i64 t24.1.Size]), (8, OwnS kTCell a29 c30 t27.Cells), (9, OwnS kTWet a31 c32 t27.Wet), (10, Box b33 [.slice a29 (List.length t27.Cells) c30, .slice a31 (List.length t27.Wet) c32, .int .i64 t27.Fuse, .bool t27.Dead]), (11, Box b36 [.int .i64 t34.1.Epoch, .int .i64 t34.1.Seq, .int .i64 t34.1.Root, .int .i64 t34.1.Size]), (12, Box b39 [.int .i64 t37.1.Epoch, .int .i64 t37.1.Seq, .int .i64 t37.1.Root, .int .i64 t37.1.Size]), (13, OwnS kTCell a42 c43 t40.1.Cells), (14, OwnS kTWet a44 c45 t40.1.Wet), (15, Box b46 [.slice a42 (List.length t40.1.Cells) c43, .slice a44 (List.length t40.1.Wet) c45, .int .i64 t40.1.Fuse, .bool t40.1.Dead]), (16, Box b47 [.int .i64 t40.2.Epoch, .int .i64 t40.2.Seq, .int .i64 t40.2.Root, .int .i64 t40.2.Size]), (17, OwnS kU8 g48.1 g48.2 t49)] (fun hmid => ?_) ?_
        · rcases Bool.eq_false_or_eq_true (decide (((List.length t6 : Nat) : Int) > 0)) with hg103 | hg103
          · refine HQ.dRun 3 rfl rfl (by kernel_rfl) (by kernel_rfl) ?_
            refine HQ.on rfl rfl hg103 ?_
            refine HQ.pu Pu.move ⟨rfl, trivial⟩ rfl rfl rfl ?_
            refine HQ.on rfl rfl hg103 ?_
            refine HQ.pu Pu.not ⟨rfl, trivial⟩ rfl rfl rfl ?_
            refine HQ.on rfl rfl hg103 ?_
            refine HQ.pu Pu.move ⟨rfl, trivial⟩ rfl rfl rfl ?_
            refine HQ.done ?_
            refine HQ.dMid (m' := 62) [(125, .bool ((!t14.2) || (!(decide (t14.1 = t3))))), (0, .slice a_0 (List.length p0) c_0), (2, .bool false), (114, .bool c100), (118, .bool (decide (((List.length t6 : Nat) : Int) > 0)))] [(1, Box b5 [.int .i64 t3.Epoch, .int .i64 t3.Seq, .int .i64 t3.Root, .int .i64 t3.Size]), (2, OwnS kU8 a8 c9 t6), (3, OwnS kU8 a12 c13 t10), (4, Box b16 [.int .i64 t14.1.Epoch, .int .i64 t14.1.Seq, .int .i64 t14.1.Root, .int .i64 t14.1.Size]), (5, OwnS kU8 a19 c20 t17), (6, Box b23 [.int .i64 t21.1.Epoch, .int .i64 t21.1.Seq, .int .i64 t21.1.Root, .int .i64 t21.1.Size]), (7, Box b26 [.int .i64 t24.1.Epoch, .int .i64 t24.1.Seq, .int .i64 t24.1.Root, .int .i64 t24.1.Size]), (8, OwnS kTCell a29 c30 t27.Cells), (9, OwnS kTWet a31 c32 t27.Wet), (10, Box b33 [.slice a29 (List.length t27.Cells) c30, .slice a31 (List.length t27.Wet) c32, .int .i64 t27.Fuse, .bool t27.Dead]), (11, Box b36 [.int .i64 t34.1.Epoch, .int .i64 t34.1.Seq, .int .i64 t34.1.Root, .int .i64 t34.1.Size]), (12, Box b39 [.int .i64 t37.1.Epoch, .int .i64 t37.1.Seq, .int .i64 t37.1.Root, .int .i64 t37.1.Size]), (13, OwnS kTCell a42 c43 t40.1.Cells), (14, OwnS kTWet a44 c45 t40.1.Wet), (15, Box b46 [.slice a42 (List.length t40.1.Cells) c43, .slice a44 (List.length t40.1.Wet) c45, .int .i64 t40.1.Fuse, .bool t40.1.Dead]), (16, Box b47 [.int .i64 t40.2.Epoch, .int .i64 t40.2.Seq, .int .i64 t40.2.Root, .int .i64 t40.2.Size]), (17, OwnS kU8 g48.1 g48.2 t49)] (fun hmid => ?_) ?_
            · rcases Bool.eq_false_or_eq_true (!t14.2) with hg104 | hg104
              · refine HQ.dPart [(0, .slice a_0 (List.length p0) c_0), (2, .bool false), (3, BP b5 0), (5, BP b16 0), (114, .bool c100), (118, .bool (decide (((List.length t6 : Nat) : Int) > 0))), (121, .bool (!t14.2))] 60 [⟨[], [], []⟩, ⟨[], [], []⟩, ⟨[], [], []⟩, ⟨[], [], []⟩, ⟨[], [], []⟩, ⟨[], [], []⟩, ⟨[], [], []⟩, ⟨[], [], []⟩, ⟨[], [], []⟩, ⟨[], [], []⟩, ⟨[], [], []⟩, ⟨[], [], []⟩, ⟨[], [], []⟩, ⟨[], [], []⟩, ⟨[], [], []⟩, ⟨[], [], []⟩, ⟨[], [], []⟩, ⟨[], [], []⟩, ⟨[], [], []⟩, ⟨[], [], []⟩, ⟨[], [], []⟩, ⟨[], [], []⟩, ⟨[], [], []⟩, ⟨[], [], []⟩, ⟨[], [], []⟩, ⟨[], [], []⟩, ⟨[], [], []⟩, ⟨[], [], []⟩, ⟨[], [], []⟩, ⟨[], [], []⟩, ⟨[], [], []⟩, ⟨[], [], []⟩, ⟨[], [], []⟩, ⟨[], [], []⟩, ⟨[], [], []⟩, ⟨[], [], []⟩, ⟨[], [], []⟩, ⟨[], [], []⟩, ⟨[], [], []⟩, ⟨[], [], []⟩, ⟨[], [], []⟩, ⟨[], [], []⟩, ⟨[], [], []⟩, ⟨[], [], []⟩, ⟨[], [], []⟩, ⟨[], [], []⟩, ⟨[], [], []⟩, ⟨[], [], []⟩, ⟨[], [], []⟩, ⟨[], [], []⟩, ⟨[], [], []⟩, ⟨[], [], []⟩, ⟨[], [], []⟩, ⟨[], [], []⟩, ⟨[], [], []⟩, ⟨[], [], []⟩, ⟨[], [], []⟩, ⟨[], [], []⟩, ⟨[], [], []⟩, ⟨[], [], []⟩] [] (fun (g106 : Unit) => [undef, undef, undef, undef, undef, undef, undef, undef, undef, undef, undef, undef, undef, undef, undef, undef, undef, undef, undef, undef, undef, undef, undef, undef, undef, undef, undef, undef, undef, undef, undef, undef, undef, undef, undef, undef, undef, undef, undef, undef, undef, undef, undef, undef, undef, undef, undef, undef, undef, undef, undef, undef, undef, undef, undef, undef, undef, undef, undef, undef]) (fun (g106 : Unit) => []) () [] [] [] ⟨rfl, rfl, rfl, rfl, rfl, rfl, rfl, trivial⟩ trivial rfl (by kernel_rfl) (by kernel_rfl) (fun _ => rfl) (by kernel_rfl) (fun _ => rfl) rfl ⟨?_, ?_, trivial⟩ fun g106 => ?_
                · exact OpOK2.off rfl rfl rfl hg104 rfl rfl (fun _ => ⟨rfl, trivial⟩)
                · exact OpOK2.off rfl rfl rfl hg104 rfl rfl (fun _ => ⟨rfl, trivial⟩)
                refine HQ.keep [(0, _), (2, _), (114, _), (118, _), (121, _), (122, _), (123, _)] ⟨rfl, rfl, rfl, rfl, rfl, rfl, rfl, trivial⟩ ?_
                refine HQ.keepR [(1, _), (2, _), (3, _), (4, _), (5, _), (6, _), (7, _), (8, _), (9, _), (10, _), (11, _), (12, _), (13, _), (14, _), (15, _), (16, _), (17, _)] ⟨rfl, rfl, rfl, rfl, rfl, rfl, rfl, rfl, rfl, rfl, rfl, rfl, rfl, rfl, rfl, rfl, rfl, trivial⟩ rfl ?_
                refine HQ.dRun 1 rfl rfl (by kernel_rfl) (by kernel_rfl) ?_
                refine HQ.off rfl rfl hg104 rfl ?_
                refine HQ.done ?_
                refine HQ.dRun 1 rfl rfl (by kernel_rfl) (by kernel_rfl) ?_
                refine HQ.on rfl rfl hg103 ?_
                refine HQ.pu (Pu.pickOT (u := (!(decide (t14.1 = t3)))) hg104) ⟨rfl, rfl, trivial⟩ rfl rfl rfl ?_
                refine HQ.done ?_
                exact HQ.dUse hmid ⟨rfl, rfl, rfl, rfl, rfl, trivial⟩ ⟨rfl, rfl, rfl, rfl, rfl, rfl, rfl, rfl, rfl, rfl, rfl, rfl, rfl, rfl, rfl, rfl, rfl, trivial⟩ rfl
              · refine HQ.dPart [(0, .slice a_0 (List.length p0) c_0), (2, .bool false), (3, BP b5 0), (5, BP b16 0), (114, .bool c100), (118, .bool (decide (((List.length t6 : Nat) : Int) > 0))), (121, .bool (!t14.2))] 60 [⟨[], [], []⟩, ⟨[], [], []⟩, ⟨[], [], []⟩, ⟨[], [], []⟩, ⟨[], [], []⟩, ⟨[], [], []⟩, ⟨[], [], []⟩, ⟨[], [], []⟩, ⟨[], [], []⟩, ⟨[], [], []⟩, ⟨[], [], []⟩, ⟨[], [], []⟩, ⟨[], [], []⟩, ⟨[], [], []⟩, ⟨[], [], []⟩, ⟨[], [], []⟩, ⟨[], [], []⟩, ⟨[], [], []⟩, ⟨[], [], []⟩, ⟨[], [], []⟩, ⟨[], [], []⟩, ⟨[], [], []⟩, ⟨[], [], []⟩, ⟨[], [], []⟩, ⟨[], [], []⟩, ⟨[], [], []⟩, ⟨[], [], []⟩, ⟨[], [], []⟩, ⟨[], [], []⟩, ⟨[], [], []⟩, ⟨[], [], []⟩, ⟨[], [], []⟩, ⟨[], [], []⟩, ⟨[], [], []⟩, ⟨[], [], []⟩, ⟨[], [], []⟩, ⟨[], [], []⟩, ⟨[], [], []⟩, ⟨[], [], []⟩, ⟨[], [], []⟩, ⟨[], [], []⟩, ⟨[], [], []⟩, ⟨[], [], []⟩, ⟨[], [], []⟩, ⟨[], [], []⟩, ⟨[], [], []⟩, ⟨[], [], []⟩, ⟨[], [], []⟩, ⟨[], [], []⟩, ⟨[], [], []⟩, ⟨[], [], []⟩, ⟨[], [], []⟩, ⟨[], [], []⟩, ⟨[], [], []⟩, ⟨[], [], []⟩, ⟨[], [], []⟩, ⟨[], [], []⟩, ⟨[], [], []⟩, ⟨[0], [0], []⟩, ⟨[1], [1], []⟩] [⟨none, none⟩, ⟨none, none⟩] (fun (g105 : Unit) => [undef, undef, undef, undef, undef, undef, undef, undef, undef, undef, undef, undef, undef, undef, undef, undef, undef, undef, undef, undef, undef, undef, undef, undef, undef, undef, undef, undef, undef, undef, undef, undef, undef, undef, undef, undef, undef, undef, undef, undef, undef, undef, undef, undef, undef, undef, undef, undef, undef, undef, undef, undef, undef, undef, undef, undef, undef, undef, .agg #[.int .i64 t14.1.Epoch, .int .i64 t14.1.Seq, .int .i64 t14.1.Root, .int .i64 t14.1.Size], .agg #[.int .i64 t3.Epoch, .int .i64 t3.Seq, .int .i64 t3.Root, .int .i64 t3.Size]]) (fun (g105 : Unit) => [Box b16 [.int .i64 t14.1.Epoch, .int .i64 t14.1.Seq, .int .i64 t14.1.Root, .int .i64 t14.1.Size], Box b5 [.int .i64 t3.Epoch, .int .i64 t3.Seq, .int .i64 t3.Root, .int .i64 t3.Size]]) () [4, 1] [4, 1] [] ⟨rfl, rfl, rfl, rfl, rfl, rfl, rfl, trivial⟩ ⟨rfl, rfl, trivial⟩ rfl (by kernel_rfl) (by kernel_rfl) (fun _ => rfl) (by kernel_rfl) (fun _ => rfl) rfl ⟨?_, ?_, trivial⟩ fun g105 => ?_
                · exact OpOK2.on (fun g105 => [(.tmp 5, BP b16 0)]) _ _ (fun g105 _ => g105) rfl rfl rfl hg104 (fun _ => ⟨rfl, trivial⟩) (fun g105 => OT.loadBA (vs := [.int .i64 t14.1.Epoch, .int .i64 t14.1.Seq, .int .i64 t14.1.Root, .int .i64 t14.1.Size]) ag68 sz68 rfl rfl) (fun _ _ => ⟨rfl, rfl, ⟨rfl, rfl, trivial⟩⟩)
                · exact OpOK2.on (fun g105 => [(.tmp 3, BP b5 0)]) _ _ (fun g105 _ => g105) rfl rfl rfl hg104 (fun _ => ⟨rfl, trivial⟩) (fun g105 => OT.loadBA (vs := [.int .i64 t3.Epoch, .int .i64 t3.Seq, .int .i64 t3.Root, .int .i64 t3.Size]) ag68 sz68 rfl rfl) (fun _ _ => ⟨rfl, rfl, ⟨rfl, rfl, trivial⟩⟩)
                refine HQ.keep [(0, _), (2, _), (114, _), (118, _), (121, _), (122, _), (123, _)] ⟨rfl, rfl, rfl, rfl, rfl, rfl, rfl, trivial⟩ ?_
                refine HQ.keepR [(1, _), (2, _), (3, _), (4, _), (5, _), (6, _), (7, _), (8, _), (9, _), (10, _), (11, _), (12, _), (13, _), (14, _), (15, _), (16, _), (17, _)] ⟨rfl, rfl, rfl, rfl, rfl, rfl, rfl, rfl, rfl, rfl, rfl, rfl, rfl, rfl, rfl, rfl, rfl, trivial⟩ rfl ?_
                refine HQ.dRun 1 rfl rfl (by kernel_rfl) (by kernel_rfl) ?_
                refine HQ.on rfl rfl hg104 ?_
                refine HQ.pu (Pu.neqT gq68 (eqa68 t14.1 t3) rfl) ⟨rfl, rfl, trivial⟩ rfl rfl rfl ?_
                refine HQ.done ?_
                refine HQ.dRun 1 rfl rfl (by kernel_rfl) (by kernel_rfl) ?_
                refine HQ.on rfl rfl hg103 ?_
                refine HQ.pu (Pu.pickOF hg104) ⟨rfl, rfl, trivial⟩ rfl rfl rfl ?_
                refine HQ.done ?_
                exact HQ.dUse hmid ⟨rfl, rfl, rfl, rfl, rfl, trivial⟩ ⟨rfl, rfl, rfl, rfl, rfl, rfl, rfl, rfl, rfl, rfl, rfl, rfl, rfl, rfl, rfl, rfl, rfl, trivial⟩ rfl
            refine HQ.dRun 1 rfl rfl (by kernel_rfl) (by kernel_rfl) ?_
            refine HQ.on rfl rfl hg102 ?_
            refine HQ.pu (Pu.pickAT hg103) ⟨rfl, rfl, trivial⟩ rfl rfl rfl ?_
            refine HQ.done ?_
            exact HQ.dUse hmid ⟨rfl, rfl, rfl, rfl, trivial⟩ ⟨rfl, rfl, rfl, rfl, rfl, rfl, rfl, rfl, rfl, rfl, rfl, rfl, rfl, rfl, rfl, rfl, rfl, trivial⟩ rfl
          · refine HQ.dRun 3 rfl rfl (by kernel_rfl) (by kernel_rfl) ?_
            refine HQ.off rfl rfl hg103 rfl ?_
            refine HQ.off rfl rfl hg103 rfl ?_
            refine HQ.off rfl rfl hg103 rfl ?_
            refine HQ.done ?_
            refine HQ.dPart [(0, .slice a_0 (List.length p0) c_0), (2, .bool false), (3, BP b5 0), (5, BP b16 0), (114, .bool c100), (118, .bool (decide (((List.length t6 : Nat) : Int) > 0))), (121, undef)] 60 [⟨[], [], []⟩, ⟨[], [], []⟩, ⟨[], [], []⟩, ⟨[], [], []⟩, ⟨[], [], []⟩, ⟨[], [], []⟩, ⟨[], [], []⟩, ⟨[], [], []⟩, ⟨[], [], []⟩, ⟨[], [], []⟩, ⟨[], [], []⟩, ⟨[], [], []⟩, ⟨[], [], []⟩, ⟨[], [], []⟩, ⟨[], [], []⟩, ⟨[], [], []⟩, ⟨[], [], []⟩, ⟨[], [], []⟩, ⟨[], [], []⟩, ⟨[], [], []⟩, ⟨[], [], []⟩, ⟨[], [], []⟩, ⟨[], [], []⟩, ⟨[], [], []⟩, ⟨[], [], []⟩, ⟨[], [], []⟩, ⟨[], [], []⟩, ⟨[], [], []⟩, ⟨[], [], []⟩, ⟨[], [], []⟩, ⟨[], [], []⟩, ⟨[], [], []⟩, ⟨[], [], []⟩, ⟨[], [], []⟩, ⟨[], [], []⟩, ⟨[], [], []⟩, ⟨[], [], []⟩, ⟨[], [], []⟩, ⟨[], [], []⟩, ⟨[], [], []⟩, ⟨[], [], []⟩, ⟨[], [], []⟩, ⟨[], [], []⟩, ⟨[], [], []⟩, ⟨[], [], []⟩, ⟨[], [], []⟩, ⟨[], [], []⟩, ⟨[], [], []⟩, ⟨[], [], []⟩, ⟨[], [], []⟩, ⟨[], [], []⟩, ⟨[], [], []⟩, ⟨[], [], []⟩, ⟨[], [], []⟩, ⟨[], [], []⟩, ⟨[], [], []⟩, ⟨[], [], []⟩, ⟨[], [], []⟩, ⟨[], [], []⟩, ⟨[], [], []⟩] [] (fun (g107 : Unit) => [undef, undef, undef, undef, undef, undef, undef, undef, undef, undef, undef, undef, undef, undef, undef, undef, undef, undef, undef, undef, undef, undef, undef, undef, undef, undef, undef, undef, undef, undef, undef, undef, undef, undef, undef, undef, undef, undef, undef, undef, undef, undef, undef, undef, undef, undef, undef, undef, undef, undef, undef, undef, undef, undef, undef, undef, undef, undef, undef, undef]) (fun (g107 : Unit) => []) () [] [] [] ⟨rfl, rfl, rfl, rfl, rfl, rfl, rfl, trivial⟩ trivial rfl (by kernel_rfl) (by kernel_rfl) (fun _ => rfl) (by kernel_rfl) (fun _ => rfl) rfl ⟨?_, ?_, trivial⟩ fun g107 => ?_
            · exact OpOK2.offU rfl rfl rfl rfl rfl (fun _ => ⟨rfl, trivial⟩)
            · exact OpOK2.offU rfl rfl rfl rfl rfl (fun _ => ⟨rfl, trivial⟩)
            refine HQ.keep [(0, _), (2, _), (114, _), (118, _), (121, _), (122, _), (123, _)] ⟨rfl, rfl, rfl, rfl, rfl, rfl, rfl, trivial⟩ ?_
            refine HQ.keepR [(1, _), (2, _), (3, _), (4, _), (5, _), (6, _), (7, _), (8, _), (9, _), (10, _), (11, _), (12, _), (13, _), (14, _), (15, _), (16, _), (17, _)] ⟨rfl, rfl, rfl, rfl, rfl, rfl, rfl, rfl, rfl, rfl, rfl, rfl, rfl, rfl, rfl, rfl, rfl, trivial⟩ rfl ?_
            refine HQ.dRun 2 rfl rfl (by kernel_rfl) (by kernel_rfl) ?_
            refine HQ.offU rfl rfl rfl ?_
            refine HQ.off rfl rfl hg103 rfl ?_
            refine HQ.done ?_
            refine HQ.dRun 1 rfl rfl (by kernel_rfl) (by kernel_rfl) ?_
            refine HQ.on rfl rfl hg102 ?_
            refine HQ.pu (Pu.pickAF (u := ((!t14.2) || (!(decide (t14.1 = t3))))) hg103) ⟨rfl, rfl, trivial⟩ rfl rfl rfl ?_
            refine HQ.done ?_
            exact HQ.dUse hmid ⟨rfl, rfl, rfl, rfl, trivial⟩ ⟨rfl, rfl, rfl, rfl, rfl, rfl, rfl, rfl, rfl, rfl, rfl, rfl, rfl, rfl, rfl, rfl, rfl, trivial⟩ rfl
        refine HQ.dRun 1 rfl rfl (by kernel_rfl) (by kernel_rfl) ?_
        refine HQ.pu (Pu.pickOF hg102) ⟨rfl, rfl, trivial⟩ rfl rfl rfl ?_
        refine HQ.done ?_
        exact HQ.dUse hmid ⟨rfl, rfl, rfl, trivial⟩ ⟨rfl, rfl, rfl, rfl, rfl, rfl, rfl, rfl, rfl, rfl, rfl, rfl, rfl, rfl, rfl, rfl, rfl, trivial⟩ rfl
    refine HQ.dEnd rfl ?_
    refine HQ.thenN ?_
    refine HQ.keep [(127, _), (0, _), (2, _)] ⟨rfl, rfl, rfl, trivial⟩ ?_
    rcases brk H with ⟨hc, H⟩ | ⟨hc, H⟩
    · refine HQ.condT rfl hc ?_
      clear hc
      refine HQ.rseq ?_
      refine HQ.pu Pu.assign ⟨rfl, trivial⟩ rfl rfl rfl ?_
      refine HQ.done ?_
      refine HQ.keep [(0, _), (2, _)] ⟨rfl, rfl, trivial⟩ ?_
      refine HQ.ret ?_
      refine HQ.thenR ?_
      obtain rfl := Option.some.inj H
      exact HQ.fin (vs := [_]) Try.results5 () ⟨rfl, trivial⟩ rfl [] trivial rfl
    · refine HQ.condF rfl hc ?_
      clear hc
      refine HQ.skipThen ?_
      refine HQ.rseq ?_
      obtain ⟨t109, h110, H⟩ := bnd H
      refine HQ.op [] [22, 23] (OT.call (us := []) (Pre := []) [] Try.call25 rfl rfl fun w F hs hF hp => impl_DiskNew_c h110) ⟨rfl, trivial⟩ trivial rfl rfl rfl rfl (fun _ => rfl) fun ⟨⟨a111, c112⟩, ⟨a113, c114⟩⟩ => ?_
      refine HQ.pu (Pu.build (us := [.int .i64 6, .int .i64 1]) (cs := [.int .i64 6, .int .i64 0, .int .i64 0, .int .i64 1]) [(0, .const (.int .i64 6)), (3, .const (.int .i64 1))] st68 rfl rfl rfl) ⟨rfl, rfl, trivial⟩ rfl rfl rfl ?_
      obtain ⟨t115, h116, H⟩ := bnd H
      refine HQ.op [22, 23] [24, 25, 22, 23] (OT.call (us := [_, _]) (Pre := [OwnS kTCell a111 c112 t109.Cells, OwnS kTWet a113 c114 t109.Wet]) [.tmp 128, .tmp 129] Try.call51 rfl rfl fun w F hs hF hp => impl_PutHead_c (hs.lend hF 0 rfl) (hs.lend hF 1 rfl) h116) ⟨rfl, rfl, rfl, trivial⟩ ⟨rfl, rfl, trivial⟩ rfl rfl rfl rfl (fun _ => rfl) fun ⟨⟨a117, c118⟩, ⟨a119, c120⟩⟩ => ?_
      obtain ⟨t121, h122, H⟩ := bnd H
      refine HQ.op [24, 25] [26, 27, 24, 25] (OT.call (us := [_]) (Pre := [OwnS kTCell a117 c118 t115.Cells, OwnS kTWet a119 c120 t115.Wet]) [.tmp 130] Try.call13 rfl rfl fun w F hs hF hp => impl_Flush_c (hs.lend hF 0 rfl) (hs.lend hF 1 rfl) h122) ⟨rfl, rfl, trivial⟩ ⟨rfl, rfl, trivial⟩ rfl rfl rfl rfl (fun _ => rfl) fun ⟨⟨a123, c124⟩, ⟨a125, c126⟩⟩ => ?_
      refine HQ.op [] [28] (OT.alloc zc27) trivial trivial rfl rfl rfl rfl (fun _ => rfl) fun b127 => ?_
      refine HQ.opN [28] [28] [] (OT.storeC (cs' := [.slice a123 (List.length t121.Cells) c124, .slice a125 (List.length t121.Wet) c126, .int .i64 t121.Fuse, .bool t121.Dead]) sz27 rfl rfl rfl rfl rfl) ⟨rfl, rfl, trivial⟩ ⟨rfl, trivial⟩ rfl rfl rfl (fun _ => rfl) fun _ => ?_
      refine HQ.done ?_
      refine HQ.keep [(0, _), (2, _), (19, _)] ⟨rfl, rfl, rfl, trivial⟩ ?_
      refine HQ.rseq ?_
      refine HQ.op [28] [28] (OT.loadBA (vs := [.slice a123 (List.length t121.Cells) c124, .slice a125 (List.length t121.Wet) c126, .int .i64 t121.Fuse, .bool t121.Dead]) ag27 sz27 rfl rfl) ⟨rfl, trivial⟩ ⟨rfl, trivial⟩ rfl rfl rfl rfl (fun _ => rfl) fun _ => ?_
      refine HQ.pu (Pu.build (us := [.int .i64 7, .int .i64 3, .int .i64 2]) (cs := [.int .i64 7, .int .i64 3, .int .i64 0, .int .i64 2]) [(0, .const (.int .i64 7)), (1, .const (.int .i64 3)), (3, .const (.int .i64 2))] st68 rfl rfl rfl) ⟨rfl, rfl, rfl, trivial⟩ rfl rfl rfl ?_
      obtain ⟨t128, h129, H⟩ := bnd H
      refine HQ.op [26, 27] [29, 30, 26, 27] (OT.call (us := [_, _]) (Pre := [OwnS kTCell a123 c124 t121.Cells, OwnS kTWet a125 c126 t121.Wet]) [.tmp 132, .tmp 133] Try.call51 rfl rfl fun w F hs hF hp => impl_PutHead_c (hs.lend hF 0 rfl) (hs.lend hF 1 rfl) h129) ⟨rfl, rfl, rfl, trivial⟩ ⟨rfl, rfl, trivial⟩ rfl rfl rfl rfl (fun _ => rfl) fun ⟨⟨a130, c131⟩, ⟨a132, c133⟩⟩ => ?_
      refine HQ.op [] [31] (OT.alloc zc27) trivial trivial rfl rfl rfl rfl (fun _ => rfl) fun b134 => ?_
      refine HQ.opN [31] [31] [] (OT.storeC (cs' := [.slice a130 (List.length t128.Cells) c131, .slice a132 (List.length t128.Wet) c133, .int .i64 t128.Fuse, .bool t128.Dead]) sz27 rfl rfl rfl rfl rfl) ⟨rfl, rfl, trivial⟩ ⟨rfl, trivial⟩ rfl rfl rfl (fun _ => rfl) fun _ => ?_
      refine HQ.done ?_
      refine HQ.keep [(0, _), (2, _), (20, _)] ⟨rfl, rfl, rfl, trivial⟩ ?_
      refine HQ.seq ?_
      refine HQ.dStart mixd ?_
      obtain ⟨t136, h137, H⟩ := bnd H
      obtain ⟨t140, h141, H⟩ := bnd H
      obtain ⟨t146, h147, H⟩ := bnd H
      refine HQ.dPart [(0, .slice a_0 (List.length p0) c_0), (2, .bool false), (20, BP b134 0)] 12 [⟨[0], [0], []⟩, ⟨[], [], []⟩, ⟨[], [], [1]⟩, ⟨[], [], [2]⟩, ⟨[], [1], [3]⟩, ⟨[2, 3, 1], [4, 5, 2, 3, 1], [0, 4]⟩, ⟨[4, 5], [4, 5], [5]⟩, ⟨[], [], [6]⟩, ⟨[], [], [7]⟩, ⟨[], [], [7]⟩, ⟨[], [6], []⟩, ⟨[6], [7], [8, 10]⟩] [⟨none, none⟩, ⟨some 4, none⟩, ⟨none, none⟩, ⟨none, none⟩, ⟨some 5, none⟩, ⟨some 5, none⟩, ⟨some 10, some 11⟩, ⟨some 11, none⟩] (fun (g135 : (Option Addr × Nat) × ((Option Addr × Nat) × (Option Addr × Nat)) × Nat) => [.agg #[.slice a130 (List.length t128.Cells) c131, .slice a132 (List.length t128.Wet) c133, .int .i64 t128.Fuse, .bool t128.Dead], .slice a_0 (List.length p0) c_0, .int .i64 t136, .int .i64 (Int.tmod t136 3), .slice g135.1.1 (List.length ([(Int.tmod t136 3)] : (List Int))) g135.1.2, .agg #[.slice g135.2.1.1.1 (List.length t140.Cells) g135.2.1.1.2, .slice g135.2.1.2.1 (List.length t140.Wet) g135.2.1.2.2, .int .i64 t140.Fuse, .bool t140.Dead], .tuple #[.agg #[.int .i64 t146.1.Epoch, .int .i64 t146.1.Seq, .int .i64 t146.1.Root, .int .i64 t146.1.Size], .bool t146.2], .tuple #[.agg #[.int .i64 t146.1.Epoch, .int .i64 t146.1.Seq, .int .i64 t146.1.Root, .int .i64 t146.1.Size], .bool t146.2], .agg #[.int .i64 t146.1.Epoch, .int .i64 t146.1.Seq, .int .i64 t146.1.Root, .int .i64 t146.1.Size], .bool t146.2, BP g135.2.2 0, undef]) (fun (g135 : (Option Addr × Nat) × ((Option Addr × Nat) × (Option Addr × Nat)) × Nat) => [Box b134 [.slice a130 (List.length t128.Cells) c131, .slice a132 (List.length t128.Wet) c133, .int .i64 t128.Fuse, .bool t128.Dead], OwnS kI g135.1.1 g135.1.2 ([(Int.tmod t136 3)] : (List Int)), OwnS kTCell a130 c131 t128.Cells, OwnS kTWet a132 c133 t128.Wet, OwnS kTCell g135.2.1.1.1 g135.2.1.1.2 t140.Cells, OwnS kTWet g135.2.1.2.1 g135.2.1.2.2 t140.Wet, Box g135.2.2 [.int .i64 0, .int .i64 0, .int .i64 0, .int .i64 0], Box g135.2.2 [.int .i64 t146.1.Epoch, .int .i64 t146.1.Seq, .int .i64 t146.1.Root, .int .i64 t146.1.Size]]) ((none, 0), ((none, 0), (none, 0)), 0) [31, 29, 30] [31, 32, 29, 30, 33, 34, 35] [] ⟨rfl, rfl, rfl, trivial⟩ ⟨rfl, rfl, rfl, trivial⟩ rfl (by kernel_rfl) (by kernel_rfl) (fun _ => rfl) (by kernel_rfl) (fun _ => rfl) rfl ⟨?_, ?_, ?_, ?_, ?_, ?_, ?_, ?_, ?_, ?_, ?_, ?_, trivial⟩ fun g135 => ?_
      · exact OpOK2.of (fun g135 => [(.tmp 20, BP b134 0)]) _ _ (fun g135 _ => g135) rfl rfl (fun _ => ⟨rfl, trivial⟩) (fun g135 => OT.loadBA (vs := [.slice a130 (List.length t128.Cells) c131, .slice a132 (List.length t128.Wet) c133, .int .i64 t128.Fuse, .bool t128.Dead]) ag27 sz27 rfl rfl) (fun _ _ => ⟨rfl, rfl, ⟨rfl, rfl, rfl, rfl, rfl, rfl, rfl, rfl, trivial⟩⟩)
      · exact OpOK2.of (fun g135 => [(.tmp 0, .slice a_0 (List.length p0) c_0)]) _ _ (fun g135 _ => g135) rfl rfl (fun _ => ⟨rfl, trivial⟩) (fun g135 => Pu.toOT Pu.move) (fun _ _ => ⟨rfl, rfl, ⟨rfl, rfl, rfl, rfl, rfl, rfl, rfl, rfl, trivial⟩⟩)
      · exact OpOK2.of (fun g135 => [(.func 53, .func (.func 53) #[] #[]), (.tmp 137, .slice a_0 (List.length p0) c_0), (.const (.int .i64 2), .int .i64 2)]) _ _ (fun g135 _ => g135) rfl rfl (fun _ => ⟨rfl, rfl, rfl, trivial⟩) (fun g135 => OT.call (us := [_, _]) (Pre := []) [.tmp 137, .const (.int .i64 2)] Try.call53 rfl rfl fun w F hs hF hp => laws_at_c (hb_0.pass hp) h137) (fun _ _ => ⟨rfl, rfl, ⟨rfl, rfl, rfl, rfl, rfl, rfl, rfl, rfl, trivial⟩⟩)
      · exact OpOK2.of (fun g135 => [(.tmp 138, .int .i64 t136), (.const (.int .i64 3), .int .i64 3)]) _ _ (fun g135 _ => g135) rfl rfl (fun _ => ⟨rfl, rfl, trivial⟩) (fun g135 => Pu.toOT (Pu.rem (by decide))) (fun _ _ => ⟨rfl, rfl, ⟨rfl, rfl, rfl, rfl, rfl, rfl, rfl, rfl, trivial⟩⟩)
      · exact OpOK2.of (fun g135 => [(.tmp 139, .int .i64 (Int.tmod t136 3))]) _ _ (fun g135 x => (x, g135.2.1, g135.2.2)) rfl rfl (fun _ => ⟨rfl, trivial⟩) (fun g135 => OT.buildF (us := [.int .i64 (Int.tmod t136 3)]) (ys := ([(Int.tmod t136 3)] : (List Int))) (enc := (encI .i64)) (hl := fun _ => ⟨rfl, rfl⟩) [.tmp 139] sl33.ul sl33.szE sl33.zc rfl rfl rfl rfl rfl) (fun _ _ => ⟨rfl, rfl, ⟨rfl, rfl, rfl, rfl, rfl, rfl, rfl, rfl, trivial⟩⟩)
      · exact OpOK2.of (fun g135 => [(.func 15, .func (.func 15) #[] #[]), (.tmp 136, .agg #[.slice a130 (List.length t128.Cells) c131, .slice a132 (List.length t128.Wet) c133, .int .i64 t128.Fuse, .bool t128.Dead]), (.tmp 140, .slice g135.1.1 (List.length ([(Int.tmod t136 3)] : (List Int))) g135.1.2), (.const (.int .i64 (-1)), .int .i64 (-1))]) _ _ (fun g135 x => (g135.1, x, g135.2.2)) rfl rfl (fun _ => ⟨rfl, rfl, rfl, rfl, trivial⟩) (fun g135 => OT.call (us := [_, _, _]) (Pre := [OwnS kTCell a130 c131 t128.Cells, OwnS kTWet a132 c133 t128.Wet, OwnS kI g135.1.1 g135.1.2 ([(Int.tmod t136 3)] : (List Int))]) [.tmp 136, .tmp 140, .const (.int .i64 (-1))] Try.call15 rfl rfl fun w F hs hF hp => impl_Crash_c (hs.lend hF 0 rfl) (hs.lend hF 1 rfl) (hs.lend hF 2 rfl) h141) (fun _ _ => ⟨rfl, rfl, ⟨rfl, rfl, rfl, rfl, rfl, rfl, rfl, rfl, trivial⟩⟩)
      · exact OpOK2.of (fun g135 => [(.func 45, .func (.func 45) #[] #[]), (.tmp 141, .agg #[.slice g135.2.1.1.1 (List.length t140.Cells) g135.2.1.1.2, .slice g135.2.1.2.1 (List.length t140.Wet) g135.2.1.2.2, .int .i64 t140.Fuse, .bool t140.Dead])]) _ _ (fun g135 _ => g135) rfl rfl (fun _ => ⟨rfl, rfl, trivial⟩) (fun g135 => OT.call (us := [_]) (Pre := [OwnS kTCell g135.2.1.1.1 g135.2.1.1.2 t140.Cells, OwnS kTWet g135.2.1.2.1 g135.2.1.2.2 t140.Wet]) [.tmp 141] Try.call45 rfl rfl fun w F hs hF hp => impl_BestHead_c (hs.lend hF 0 rfl) (hs.lend hF 1 rfl) h147) (fun _ _ => ⟨rfl, rfl, ⟨rfl, rfl, rfl, rfl, rfl, rfl, rfl, rfl, trivial⟩⟩)
      · exact OpOK2.of (fun g135 => [(.tmp 142, .tuple #[.agg #[.int .i64 t146.1.Epoch, .int .i64 t146.1.Seq, .int .i64 t146.1.Root, .int .i64 t146.1.Size], .bool t146.2])]) _ _ (fun g135 _ => g135) rfl rfl (fun _ => ⟨rfl, trivial⟩) (fun g135 => Pu.toOT Pu.move) (fun _ _ => ⟨rfl, rfl, ⟨rfl, rfl, rfl, rfl, rfl, rfl, rfl, rfl, trivial⟩⟩)
      · exact OpOK2.of (fun g135 => [(.tmp 135, .tuple #[.agg #[.int .i64 t146.1.Epoch, .int .i64 t146.1.Seq, .int .i64 t146.1.Root, .int .i64 t146.1.Size], .bool t146.2])]) _ _ (fun g135 _ => g135) rfl rfl (fun _ => ⟨rfl, trivial⟩) (fun g135 => Pu.toOT (Pu.extract rfl)) (fun _ _ => ⟨rfl, rfl, ⟨rfl, rfl, rfl, rfl, rfl, rfl, rfl, rfl, trivial⟩⟩)
      · exact OpOK2.of (fun g135 => [(.tmp 135, .tuple #[.agg #[.int .i64 t146.1.Epoch, .int .i64 t146.1.Seq, .int .i64 t146.1.Root, .int .i64 t146.1.Size], .bool t146.2])]) _ _ (fun g135 _ => g135) rfl rfl (fun _ => ⟨rfl, trivial⟩) (fun g135 => Pu.toOT (Pu.extract rfl)) (fun _ _ => ⟨rfl, rfl, ⟨rfl, rfl, rfl, rfl, rfl, rfl, rfl, rfl, trivial⟩⟩)
      · exact OpOK2.ofD [11] (by kernel_rfl) (fun g135 => []) _ _ (fun g135 x => (g135.1, g135.2.1, x)) rfl rfl (fun _ => trivial) (fun g135 => OT.alloc zc68) (fun _ _ => ⟨⟨rfl, rfl, rfl, rfl, rfl, rfl, rfl, rfl, rfl, rfl, rfl, trivial, trivial⟩, rfl, ⟨rfl, rfl, rfl, rfl, rfl, rfl, rfl, rfl, trivial⟩⟩)
      · exact OpOK2.of (fun g135 => [(.tmp 21, BP g135.2.2 0), (.tmp 143, .agg #[.int .i64 t146.1.Epoch, .int .i64 t146.1.Seq, .int .i64 t146.1.Root, .int .i64 t146.1.Size])]) _ _ (fun g135 _ => g135) rfl rfl (fun _ => ⟨rfl, rfl, trivial⟩) (fun g135 => OT.storeC (cs' := [.int .i64 t146.1.Epoch, .int .i64 t146.1.Seq, .int .i64 t146.1.Root, .int .i64 t146.1.Size]) sz68 rfl rfl rfl rfl rfl) (fun _ _ => ⟨rfl, rfl, ⟨rfl, rfl, rfl, rfl, rfl, rfl, rfl, rfl, trivial⟩⟩)
      refine HQ.keep [(0, _), (2, _), (144, _), (21, _)] ⟨rfl, rfl, rfl, rfl, trivial⟩ ?_
      refine HQ.keepR [(1, _), (2, _), (3, _), (4, _), (5, _), (6, _), (7, _), (8, _), (9, _), (10, _), (11, _), (12, _), (13, _), (14, _), (15, _), (16, _), (17, _), (22, _), (23, _), (24, _), (25, _), (26, _), (27, _), (28, _), (29, _), (30, _), (31, _), (32, _), (33, _), (34, _), (35, _)] ⟨rfl, rfl, rfl, rfl, rfl, rfl, rfl, rfl, rfl, rfl, rfl, rfl, rfl, rfl, rfl, rfl, rfl, rfl, rfl, rfl, rfl, rfl, rfl, rfl, rfl, rfl, rfl, rfl, rfl, rfl, rfl, trivial⟩ rfl ?_
      refine HQ.dRun 1 rfl rfl (by kernel_rfl) (by kernel_rfl) ?_
      refine HQ.pu Pu.assign ⟨rfl, trivial⟩ rfl rfl rfl ?_
      refine HQ.done ?_
      refine HQ.dEnd rfl ?_
      refine HQ.thenN ?_
      refine HQ.keep [(0, _), (2, _), (21, _), (22, _)] ⟨rfl, rfl, rfl, rfl, trivial⟩ ?_
      refine HQ.rseq ?_
      refine HQ.pu Pu.move ⟨rfl, trivial⟩ rfl rfl rfl ?_
      refine HQ.pu Pu.move ⟨rfl, trivial⟩ rfl rfl rfl ?_
      obtain ⟨c158, h159, H⟩ := bnd H
      refine HQ.cutAt 15 [(161, .bool c158), (2, .bool false)] [(1, Box b5 [.int .i64 t3.Epoch, .int .i64 t3.Seq, .int .i64 t3.Root, .int .i64 t3.Size]), (2, OwnS kU8 a8 c9 t6), (3, OwnS kU8 a12 c13 t10), (4, Box b16 [.int .i64 t14.1.Epoch, .int .i64 t14.1.Seq, .int .i64 t14.1.Root, .int .i64 t14.1.Size]), (5, OwnS kU8 a19 c20 t17), (6, Box b23 [.int .i64 t21.1.Epoch, .int .i64 t21.1.Seq, .int .i64 t21.1.Root, .int .i64 t21.1.Size]), (7, Box b26 [.int .i64 t24.1.Epoch, .int .i64 t24.1.Seq, .int .i64 t24.1.Root, .int .i64 t24.1.Size]), (8, OwnS kTCell a29 c30 t27.Cells), (9, OwnS kTWet a31 c32 t27.Wet), (10, Box b33 [.slice a29 (List.length t27.Cells) c30, .slice a31 (List.length t27.Wet) c32, .int .i64 t27.Fuse, .bool t27.Dead]), (11, Box b36 [.int .i64 t34.1.Epoch, .int .i64 t34.1.Seq, .int .i64 t34.1.Root, .int .i64 t34.1.Size]), (12, Box b39 [.int .i64 t37.1.Epoch, .int .i64 t37.1.Seq, .int .i64 t37.1.Root, .int .i64 t37.1.Size]), (13, OwnS kTCell a42 c43 t40.1.Cells), (14, OwnS kTWet a44 c45 t40.1.Wet), (15, Box b46 [.slice a42 (List.length t40.1.Cells) c43, .slice a44 (List.length t40.1.Wet) c45, .int .i64 t40.1.Fuse, .bool t40.1.Dead]), (16, Box b47 [.int .i64 t40.2.Epoch, .int .i64 t40.2.Seq, .int .i64 t40.2.Root, .int .i64 t40.2.Size]), (17, OwnS kU8 g48.1 g48.2 t49), (22, OwnS kTCell a111 c112 t109.Cells), (23, OwnS kTWet a113 c114 t109.Wet), (24, OwnS kTCell a117 c118 t115.Cells), (25, OwnS kTWet a119 c120 t115.Wet), (26, OwnS kTCell a123 c124 t121.Cells), (27, OwnS kTWet a125 c126 t121.Wet), (28, Box b127 [.slice a123 (List.length t121.Cells) c124, .slice a125 (List.length t121.Wet) c126, .int .i64 t121.Fuse, .bool t121.Dead]), (29, OwnS kTCell a130 c131 t128.Cells), (30, OwnS kTWet a132 c133 t128.Wet), (31, Box b134 [.slice a130 (List.length t128.Cells) c131, .slice a132 (List.length t128.Wet) c133, .int .i64 t128.Fuse, .bool t128.Dead]), (32, OwnS kI g135.1.1 g135.1.2 ([(Int.tmod t136 3)] : (List Int))), (33, OwnS kTCell g135.2.1.1.1 g135.2.1.1.2 t140.Cells), (34, OwnS kTWet g135.2.1.2.1 g135.2.1.2.2 t140.Wet), (35, Box g135.2.2 [.int .i64 t146.1.Epoch, .int .i64 t146.1.Seq, .int .i64 t146.1.Root, .int .i64 t146.1.Size])] ?_ ?_
      · clear H
        have H := h159
        rcases brk H with ⟨hg149, H⟩ | ⟨hg149, H⟩
        · refine HQ.on rfl rfl hg149 ?_
          refine HQ.pu (Pu.fieldB fo68_0 rfl) ⟨rfl, trivial⟩ rfl rfl rfl ?_
          refine HQ.on rfl rfl hg149 ?_
          refine HQ.op [35] [35] (OT.loadB sc3 rfl) ⟨rfl, trivial⟩ ⟨rfl, trivial⟩ rfl rfl rfl rfl (fun _ => rfl) fun _ => ?_
          refine HQ.on rfl rfl hg149 ?_
          refine HQ.pu Pu.eql ⟨rfl, rfl, trivial⟩ rfl rfl rfl ?_
          refine HQ.on rfl rfl hg149 ?_
          refine HQ.pu Pu.move ⟨rfl, trivial⟩ rfl rfl rfl ?_
          obtain ⟨c156, h157, H⟩ := bnd H
          refine HQ.cutAt 10 [(160, .bool c156), (2, .bool false), (146, .bool t146.2)] [(1, Box b5 [.int .i64 t3.Epoch, .int .i64 t3.Seq, .int .i64 t3.Root, .int .i64 t3.Size]), (2, OwnS kU8 a8 c9 t6), (3, OwnS kU8 a12 c13 t10), (4, Box b16 [.int .i64 t14.1.Epoch, .int .i64 t14.1.Seq, .int .i64 t14.1.Root, .int .i64 t14.1.Size]), (5, OwnS kU8 a19 c20 t17), (6, Box b23 [.int .i64 t21.1.Epoch, .int .i64 t21.1.Seq, .int .i64 t21.1.Root, .int .i64 t21.1.Size]), (7, Box b26 [.int .i64 t24.1.Epoch, .int .i64 t24.1.Seq, .int .i64 t24.1.Root, .int .i64 t24.1.Size]), (8, OwnS kTCell a29 c30 t27.Cells), (9, OwnS kTWet a31 c32 t27.Wet), (10, Box b33 [.slice a29 (List.length t27.Cells) c30, .slice a31 (List.length t27.Wet) c32, .int .i64 t27.Fuse, .bool t27.Dead]), (11, Box b36 [.int .i64 t34.1.Epoch, .int .i64 t34.1.Seq, .int .i64 t34.1.Root, .int .i64 t34.1.Size]), (12, Box b39 [.int .i64 t37.1.Epoch, .int .i64 t37.1.Seq, .int .i64 t37.1.Root, .int .i64 t37.1.Size]), (13, OwnS kTCell a42 c43 t40.1.Cells), (14, OwnS kTWet a44 c45 t40.1.Wet), (15, Box b46 [.slice a42 (List.length t40.1.Cells) c43, .slice a44 (List.length t40.1.Wet) c45, .int .i64 t40.1.Fuse, .bool t40.1.Dead]), (16, Box b47 [.int .i64 t40.2.Epoch, .int .i64 t40.2.Seq, .int .i64 t40.2.Root, .int .i64 t40.2.Size]), (17, OwnS kU8 g48.1 g48.2 t49), (22, OwnS kTCell a111 c112 t109.Cells), (23, OwnS kTWet a113 c114 t109.Wet), (24, OwnS kTCell a117 c118 t115.Cells), (25, OwnS kTWet a119 c120 t115.Wet), (26, OwnS kTCell a123 c124 t121.Cells), (27, OwnS kTWet a125 c126 t121.Wet), (28, Box b127 [.slice a123 (List.length t121.Cells) c124, .slice a125 (List.length t121.Wet) c126, .int .i64 t121.Fuse, .bool t121.Dead]), (29, OwnS kTCell a130 c131 t128.Cells), (30, OwnS kTWet a132 c133 t128.Wet), (31, Box b134 [.slice a130 (List.length t128.Cells) c131, .slice a132 (List.length t128.Wet) c133, .int .i64 t128.Fuse, .bool t128.Dead]), (32, OwnS kI g135.1.1 g135.1.2 ([(Int.tmod t136 3)] : (List Int))), (33, OwnS kTCell g135.2.1.1.1 g135.2.1.1.2 t140.Cells), (34, OwnS kTWet g135.2.1.2.1 g135.2.1.2.2 t140.Wet), (35, Box g135.2.2 [.int .i64 t146.1.Epoch, .int .i64 t146.1.Seq, .int .i64 t146.1.Root, .int .i64 t146.1.Size])] ?_ ?_
          · clear H
            have H := h157
            rcases brk H with ⟨hg150, H⟩ | ⟨hg150, H⟩
            · obtain rfl := Option.some.inj H
              refine HQ.off rfl rfl hg150 rfl ?_
              refine HQ.off rfl rfl hg150 rfl ?_
              refine HQ.off rfl rfl hg150 rfl ?_
              refine HQ.off rfl rfl hg150 rfl ?_
              refine HQ.offU rfl rfl rfl ?_
              refine HQ.offU rfl rfl rfl ?_
              refine HQ.offU rfl rfl rfl ?_
              refine HQ.offU rfl rfl rfl ?_
              refine HQ.off rfl rfl hg150 rfl ?_
              refine HQ.on rfl rfl hg149 ?_
              refine HQ.pu (Pu.pickC1 hg150) ⟨rfl, rfl, trivial⟩ rfl rfl rfl ?_
              exact HQ.mid ⟨rfl, rfl, rfl, trivial⟩ ⟨rfl, rfl, rfl, rfl, rfl, rfl, rfl, rfl, rfl, rfl, rfl, rfl, rfl, rfl, rfl, rfl, rfl, rfl, rfl, rfl, rfl, rfl, rfl, rfl, rfl, rfl, rfl, rfl, rfl, rfl, rfl, trivial⟩ rfl
            · refine HQ.on rfl rfl hg150 ?_
              refine HQ.pu (Pu.fieldB fo68_0 rfl) ⟨rfl, trivial⟩ rfl rfl rfl ?_
              refine HQ.on rfl rfl hg150 ?_
              refine HQ.op [35] [35] (OT.loadB sc3 rfl) ⟨rfl, trivial⟩ ⟨rfl, trivial⟩ rfl rfl rfl rfl (fun _ => rfl) fun _ => ?_
              refine HQ.on rfl rfl hg150 ?_
              refine HQ.pu Pu.eql ⟨rfl, rfl, trivial⟩ rfl rfl rfl ?_
              refine HQ.on rfl rfl hg150 ?_
              refine HQ.pu Pu.move ⟨rfl, trivial⟩ rfl rfl rfl ?_
              obtain ⟨c154, h155, H⟩ := bnd H
              refine HQ.cutAt 5 [(159, .bool c154), (2, .bool false), (146, .bool t146.2), (150, .bool (decide (t146.1.Epoch = 6)))] [(1, Box b5 [.int .i64 t3.Epoch, .int .i64 t3.Seq, .int .i64 t3.Root, .int .i64 t3.Size]), (2, OwnS kU8 a8 c9 t6), (3, OwnS kU8 a12 c13 t10), (4, Box b16 [.int .i64 t14.1.Epoch, .int .i64 t14.1.Seq, .int .i64 t14.1.Root, .int .i64 t14.1.Size]), (5, OwnS kU8 a19 c20 t17), (6, Box b23 [.int .i64 t21.1.Epoch, .int .i64 t21.1.Seq, .int .i64 t21.1.Root, .int .i64 t21.1.Size]), (7, Box b26 [.int .i64 t24.1.Epoch, .int .i64 t24.1.Seq, .int .i64 t24.1.Root, .int .i64 t24.1.Size]), (8, OwnS kTCell a29 c30 t27.Cells), (9, OwnS kTWet a31 c32 t27.Wet), (10, Box b33 [.slice a29 (List.length t27.Cells) c30, .slice a31 (List.length t27.Wet) c32, .int .i64 t27.Fuse, .bool t27.Dead]), (11, Box b36 [.int .i64 t34.1.Epoch, .int .i64 t34.1.Seq, .int .i64 t34.1.Root, .int .i64 t34.1.Size]), (12, Box b39 [.int .i64 t37.1.Epoch, .int .i64 t37.1.Seq, .int .i64 t37.1.Root, .int .i64 t37.1.Size]), (13, OwnS kTCell a42 c43 t40.1.Cells), (14, OwnS kTWet a44 c45 t40.1.Wet), (15, Box b46 [.slice a42 (List.length t40.1.Cells) c43, .slice a44 (List.length t40.1.Wet) c45, .int .i64 t40.1.Fuse, .bool t40.1.Dead]), (16, Box b47 [.int .i64 t40.2.Epoch, .int .i64 t40.2.Seq, .int .i64 t40.2.Root, .int .i64 t40.2.Size]), (17, OwnS kU8 g48.1 g48.2 t49), (22, OwnS kTCell a111 c112 t109.Cells), (23, OwnS kTWet a113 c114 t109.Wet), (24, OwnS kTCell a117 c118 t115.Cells), (25, OwnS kTWet a119 c120 t115.Wet), (26, OwnS kTCell a123 c124 t121.Cells), (27, OwnS kTWet a125 c126 t121.Wet), (28, Box b127 [.slice a123 (List.length t121.Cells) c124, .slice a125 (List.length t121.Wet) c126, .int .i64 t121.Fuse, .bool t121.Dead]), (29, OwnS kTCell a130 c131 t128.Cells), (30, OwnS kTWet a132 c133 t128.Wet), (31, Box b134 [.slice a130 (List.length t128.Cells) c131, .slice a132 (List.length t128.Wet) c133, .int .i64 t128.Fuse, .bool t128.Dead]), (32, OwnS kI g135.1.1 g135.1.2 ([(Int.tmod t136 3)] : (List Int))), (33, OwnS kTCell g135.2.1.1.1 g135.2.1.1.2 t140.Cells), (34, OwnS kTWet g135.2.1.2.1 g135.2.1.2.2 t140.Wet), (35, Box g135.2.2 [.int .i64 t146.1.Epoch, .int .i64 t146.1.Seq, .int .i64 t146.1.Root, .int .i64 t146.1.Size])] ?_ ?_
              · clear H
                have H := h155
                rcases brk H with ⟨hg151, H⟩ | ⟨hg151, H⟩
                · refine HQ.on rfl rfl hg151 ?_
                  refine HQ.pu Pu.move ⟨rfl, trivial⟩ rfl rfl rfl ?_
                  refine HQ.on rfl rfl hg151 ?_
                  obtain ⟨t152, h153, H⟩ := bnd H
                  refine HQ.op [] [] (OT.call (us := [_, _]) (Pre := []) [.tmp 155, .const (.int .i64 2)] Try.call53 rfl rfl fun w F hs hF hp => laws_at_c (hb_0.pass hp) h153) ⟨rfl, rfl, rfl, trivial⟩ trivial rfl rfl rfl rfl (fun _ => rfl) fun _ => ?_
                  refine HQ.on rfl rfl hg151 ?_
                  refine HQ.pu (Pu.rem (by decide)) ⟨rfl, rfl, trivial⟩ rfl rfl rfl ?_
                  refine HQ.on rfl rfl hg151 ?_
                  refine HQ.pu Pu.eql ⟨rfl, rfl, trivial⟩ rfl rfl rfl ?_
                  obtain rfl := Option.some.inj H
                  refine HQ.on rfl rfl hg150 ?_
                  refine HQ.pu (Pu.pickC1 hg151) ⟨rfl, rfl, trivial⟩ rfl rfl rfl ?_
                  exact HQ.mid ⟨rfl, rfl, rfl, rfl, trivial⟩ ⟨rfl, rfl, rfl, rfl, rfl, rfl, rfl, rfl, rfl, rfl, rfl, rfl, rfl, rfl, rfl, rfl, rfl, rfl, rfl, rfl, rfl, rfl, rfl, rfl, rfl, rfl, rfl, rfl, rfl, rfl, rfl, trivial⟩ rfl
                · obtain rfl := Option.some.inj H
                  refine HQ.off rfl rfl hg151 rfl ?_
                  refine HQ.off rfl rfl hg151 rfl ?_
                  refine HQ.off rfl rfl hg151 rfl ?_
                  refine HQ.off rfl rfl hg151 rfl ?_
                  refine HQ.on rfl rfl hg150 ?_
                  refine HQ.pu (Pu.pickC0 hg151) ⟨rfl, rfl, trivial⟩ rfl rfl rfl ?_
                  exact HQ.mid ⟨rfl, rfl, rfl, rfl, trivial⟩ ⟨rfl, rfl, rfl, rfl, rfl, rfl, rfl, rfl, rfl, rfl, rfl, rfl, rfl, rfl, rfl, rfl, rfl, rfl, rfl, rfl, rfl, rfl, rfl, rfl, rfl, rfl, rfl, rfl, rfl, rfl, rfl, trivial⟩ rfl
              obtain rfl := Option.some.inj H
              refine HQ.on rfl rfl hg149 ?_
              refine HQ.pu (Pu.pickC0 hg150) ⟨rfl, rfl, trivial⟩ rfl rfl rfl ?_
              exact HQ.mid ⟨rfl, rfl, rfl, trivial⟩ ⟨rfl, rfl, rfl, rfl, rfl, rfl, rfl, rfl, rfl, rfl, rfl, rfl, rfl, rfl, rfl, rfl, rfl, rfl, rfl, rfl, rfl, rfl, rfl, rfl, rfl, rfl, rfl, rfl, rfl, rfl, rfl, trivial⟩ rfl
          obtain rfl := Option.some.inj H
          refine HQ.pu (Pu.pickC1 hg149) ⟨rfl, rfl, trivial⟩ rfl rfl rfl ?_
          exact HQ.mid ⟨rfl, rfl, trivial⟩ ⟨rfl, rfl, rfl, rfl, rfl, rfl, rfl, rfl, rfl, rfl, rfl, rfl, rfl, rfl, rfl, rfl, rfl, rfl, rfl, rfl, rfl, rfl, rfl, rfl, rfl, rfl, rfl, rfl, rfl, rfl, rfl, trivial⟩ rfl
        · obtain rfl := Option.some.inj H
          refine HQ.off rfl rfl hg149 rfl ?_
          refine HQ.off rfl rfl hg149 rfl ?_
          refine HQ.off rfl rfl hg149 rfl ?_
          refine HQ.off rfl rfl hg149 rfl ?_
          refine HQ.offU rfl rfl rfl ?_
          refine HQ.offU rfl rfl rfl ?_
          refine HQ.offU rfl rfl rfl ?_
          refine HQ.offU rfl rfl rfl ?_
          refine HQ.offU rfl rfl rfl ?_
          refine HQ.offU rfl rfl rfl ?_
          refine HQ.offU rfl rfl rfl ?_
          refine HQ.offU rfl rfl rfl ?_
          refine HQ.offU rfl rfl rfl ?_
          refine HQ.off rfl rfl hg149 rfl ?_
          refine HQ.pu (Pu.pickC0 hg149) ⟨rfl, rfl, trivial⟩ rfl rfl rfl ?_
          exact HQ.mid ⟨rfl, rfl, trivial⟩ ⟨rfl, rfl, rfl, rfl, rfl, rfl, rfl, rfl, rfl, rfl, rfl, rfl, rfl, rfl, rfl, rfl, rfl, rfl, rfl, rfl, rfl, rfl, rfl, rfl, rfl, rfl, rfl, rfl, rfl, rfl, rfl, trivial⟩ rfl
      refine HQ.pu Pu.assign ⟨rfl, trivial⟩ rfl rfl rfl ?_
      refine HQ.done ?_
      refine HQ.keep [(2, _)] ⟨rfl, trivial⟩ ?_
      refine HQ.ret ?_
      obtain rfl := Option.some.inj H
      exact HQ.fin (vs := [_]) Try.results5 () ⟨rfl, trivial⟩ rfl [] trivial rfl

end Go.Proofs.Sx
