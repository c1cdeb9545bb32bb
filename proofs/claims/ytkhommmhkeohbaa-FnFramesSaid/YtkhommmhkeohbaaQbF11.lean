import Derived.Test.YtkhommmhkeohbaaQbF10
import Derived.KernelRfl
namespace Go.Proofs.Sx
open Go.RowKit
set_option linter.unusedVariables false
set_option linter.unusedSimpArgs false
set_option maxRecDepth 20000
set_option maxHeartbeats 1000000
/-! laws.FnFrames -/
theorem laws_FnFrames_c {w : World} {k : Nat} {p0 : (List Int)} {a_0 : Option Addr} {c_0 : Nat} (hb_0 : BorS kU8 a_0 c_0 p0 w.heap (Lt w Nil)) {r : Bool} (H : laws_FnFrames k p0 = some r) :
    Calls Try.prog 4 #[.slice a_0 (List.length p0) c_0] w (Rt w Nil (fun _ : Unit => .bool r) (fun _ => [])) := by
  rw [laws_FnFrames] at H
  refine Calls.enter0 (N := 179) (us := [_]) Try.func4 rfl rfl rfl ?_
  refine HQ.rseq ?_
  refine HQ.pu Pu.assign ⟨rfl, trivial⟩ rfl rfl rfl ?_
  refine HQ.done ?_
  refine HQ.keep [(0, _), (2, _)] ⟨rfl, rfl, trivial⟩ ?_
  refine HQ.seq ?_
  refine HQ.rseq ?_
  refine HQ.pu Pu.move ⟨rfl, trivial⟩ rfl rfl rfl ?_
  obtain ⟨t1, h2, H⟩ := bnd H
  refine HQ.op [] [] (OT.call (us := [_]) (Pre := []) [.tmp 17] Try.call9 rfl rfl fun w F hs hF hp => laws_big_c h2) ⟨rfl, rfl, trivial⟩ trivial rfl rfl rfl rfl (fun _ => rfl) fun _ => ?_
  refine HQ.done ?_
  refine HQ.keep [(0, _), (2, _), (18, _)] ⟨rfl, rfl, rfl, trivial⟩ ?_
  rcases brk H with ⟨hc, H⟩ | ⟨hc, H⟩
  · refine HQ.condT rfl hc ?_
    clear hc
    refine HQ.rseq ?_
    refine HQ.pu Pu.assign ⟨rfl, trivial⟩ rfl rfl rfl ?_
    refine HQ.done ?_
    refine HQ.keep [(0, _), (2, _)] ⟨rfl, rfl, trivial⟩ ?_
    refine HQ.ret ?_
    refine HQ.thenR ?_
    obtain rfl := Option.some.inj H
    exact HQ.fin (vs := [_]) Try.results4 () ⟨rfl, trivial⟩ rfl [] trivial rfl
  · refine HQ.condF rfl hc ?_
    clear hc
    refine HQ.skipThen ?_
    refine HQ.rseq ?_
    refine HQ.pu Pu.move ⟨rfl, trivial⟩ rfl rfl rfl ?_
    obtain ⟨t3, h4, H⟩ := bnd H
    refine HQ.op [] [1] (OT.call (us := [_]) (Pre := []) [.tmp 20] Try.call26 rfl rfl fun w F hs hF hp => spec_DrawPutCell_c (hb_0.pass hp) h4) ⟨rfl, rfl, trivial⟩ trivial rfl rfl rfl rfl (fun _ => rfl) fun ⟨a5, c6⟩ => ?_
    refine HQ.pu Pu.move ⟨rfl, trivial⟩ rfl rfl rfl ?_
    refine HQ.pu (Pu.extract rfl) ⟨rfl, trivial⟩ rfl rfl rfl ?_
    refine HQ.pu (Pu.extract rfl) ⟨rfl, trivial⟩ rfl rfl rfl ?_
    refine HQ.op [] [2] (OT.alloc zc49) trivial trivial rfl rfl rfl rfl (fun _ => rfl) fun b7 => ?_
    refine HQ.pu Pu.assign ⟨rfl, trivial⟩ rfl rfl rfl ?_
    refine HQ.opN [2] [2] [] (OT.storeC (cs' := [.int .i64 t3.2.Page, .bool t3.2.N.Leaf, .slice a5 (List.length t3.2.N.L) c6]) sz49 rfl rfl rfl rfl rfl) ⟨rfl, rfl, trivial⟩ ⟨rfl, trivial⟩ rfl rfl rfl (fun _ => rfl) fun _ => ?_
    refine HQ.done ?_
    refine HQ.keep [(0, _), (2, _), (4, _), (3, _)] ⟨rfl, rfl, rfl, rfl, trivial⟩ ?_
    refine HQ.rseq ?_
    refine HQ.pu Pu.move ⟨rfl, trivial⟩ rfl rfl rfl ?_
    refine HQ.op [2] [2] (OT.loadBA (vs := [.int .i64 t3.2.Page, .bool t3.2.N.Leaf, .slice a5 (List.length t3.2.N.L) c6]) ag49 sz49 rfl rfl) ⟨rfl, trivial⟩ ⟨rfl, trivial⟩ rfl rfl rfl rfl (fun _ => rfl) fun _ => ?_
    obtain ⟨t8, h9, H⟩ := bnd H
    refine HQ.op [1] [3, 1] (OT.call (us := [_, _]) (Pre := [OwnS kTEntry a5 c6 t3.2.N.L]) [.tmp 24, .tmp 25] Try.call27 rfl rfl fun w F hs hF hp => impl_PutCell_c (hs.lend hF 0 rfl) h9) ⟨rfl, rfl, rfl, trivial⟩ ⟨rfl, trivial⟩ rfl rfl rfl rfl (fun _ => rfl) fun ⟨a10, c11⟩ => ?_
    refine HQ.pu Pu.assign ⟨rfl, trivial⟩ rfl rfl rfl ?_
    refine HQ.done ?_
    refine HQ.keep [(0, _), (2, _), (4, _), (3, _), (5, _)] ⟨rfl, rfl, rfl, rfl, rfl, trivial⟩ ?_
    refine HQ.rseq ?_
    refine HQ.pu Pu.move ⟨rfl, trivial⟩ rfl rfl rfl ?_
    refine HQ.pu Pu.move ⟨rfl, trivial⟩ rfl rfl rfl ?_
    obtain ⟨t12, h13, H⟩ := bnd H
    refine HQ.op [3] [4, 3] (OT.call (us := [_, _]) (Pre := [OwnS kU8 a10 c11 t8]) [.tmp 29, .const (.int .i64 32)] Try.call24 rfl rfl fun w F hs hF hp => impl_Pad_c (hs.lend hF 0 rfl) h13) ⟨rfl, rfl, rfl, trivial⟩ ⟨rfl, trivial⟩ rfl rfl rfl rfl (fun _ => rfl) fun ⟨a14, c15⟩ => ?_
    obtain ⟨t16, h17, H⟩ := bnd H
    refine HQ.op [4] [5, 4] (OT.call (us := [_, _]) (Pre := [OwnS kU8 a14 c15 t12]) [.tmp 28, .tmp 30] Try.call28 rfl rfl fun w F hs hF hp => impl_GetPut_c (hs.lend hF 0 rfl) h17) ⟨rfl, rfl, rfl, trivial⟩ ⟨rfl, trivial⟩ rfl rfl rfl rfl (fun _ => rfl) fun ⟨a18, c19⟩ => ?_
    refine HQ.pu Pu.move ⟨rfl, trivial⟩ rfl rfl rfl ?_
    refine HQ.pu (Pu.extract rfl) ⟨rfl, trivial⟩ rfl rfl rfl ?_
    refine HQ.pu (Pu.extract rfl) ⟨rfl, trivial⟩ rfl rfl rfl ?_
    refine HQ.op [] [6] (OT.alloc zc49) trivial trivial rfl rfl rfl rfl (fun _ => rfl) fun b20 => ?_
    refine HQ.opN [6] [6] [] (OT.storeC (cs' := [.int .i64 t16.1.Page, .bool t16.1.N.Leaf, .slice a18 (List.length t16.1.N.L) c19]) sz49 rfl rfl rfl rfl rfl) ⟨rfl, rfl, trivial⟩ ⟨rfl, trivial⟩ rfl rfl rfl (fun _ => rfl) fun _ => ?_
    refine HQ.pu Pu.assign ⟨rfl, trivial⟩ rfl rfl rfl ?_
    refine HQ.done ?_
    refine HQ.keep [(0, _), (2, _), (4, _), (3, _), (5, _), (6, _), (7, _)] ⟨rfl, rfl, rfl, rfl, rfl, rfl, rfl, trivial⟩ ?_
    refine HQ.rseq ?_
    refine HQ.pu Pu.move ⟨rfl, trivial⟩ rfl rfl rfl ?_
    refine HQ.pu Pu.add ⟨rfl, rfl, trivial⟩ rfl rfl rfl ?_
    refine HQ.pu Pu.move ⟨rfl, trivial⟩ rfl rfl rfl ?_
    obtain ⟨t21, h22, H⟩ := bnd H
    refine HQ.op [3] [7, 3] (OT.call (us := [_, _]) (Pre := [OwnS kU8 a10 c11 t8]) [.tmp 37, .const (.int .i64 32)] Try.call24 rfl rfl fun w F hs hF hp => impl_Pad_c (hs.lend hF 0 rfl) h22) ⟨rfl, rfl, rfl, trivial⟩ ⟨rfl, trivial⟩ rfl rfl rfl rfl (fun _ => rfl) fun ⟨a23, c24⟩ => ?_
    obtain ⟨t25, h26, H⟩ := bnd H
    refine HQ.op [7] [8, 7] (OT.call (us := [_, _]) (Pre := [OwnS kU8 a23 c24 t21]) [.tmp 36, .tmp 38] Try.call28 rfl rfl fun w F hs hF hp => impl_GetPut_c (hs.lend hF 0 rfl) h26) ⟨rfl, rfl, rfl, trivial⟩ ⟨rfl, trivial⟩ rfl rfl rfl rfl (fun _ => rfl) fun ⟨a27, c28⟩ => ?_
    refine HQ.pu Pu.move ⟨rfl, trivial⟩ rfl rfl rfl ?_
    refine HQ.pu (Pu.extract rfl) ⟨rfl, trivial⟩ rfl rfl rfl ?_
    refine HQ.pu (Pu.extract rfl) ⟨rfl, trivial⟩ rfl rfl rfl ?_
    refine HQ.op [] [9] (OT.alloc zc49) trivial trivial rfl rfl rfl rfl (fun _ => rfl) fun b29 => ?_
    refine HQ.opN [9] [9] [] (OT.storeC (cs' := [.int .i64 t25.1.Page, .bool t25.1.N.Leaf, .slice a27 (List.length t25.1.N.L) c28]) sz49 rfl rfl rfl rfl rfl) ⟨rfl, rfl, trivial⟩ ⟨rfl, trivial⟩ rfl rfl rfl (fun _ => rfl) fun _ => ?_
    refine HQ.pu Pu.assign ⟨rfl, trivial⟩ rfl rfl rfl ?_
    refine HQ.done ?_
    refine HQ.keep [(0, _), (2, _), (4, _), (3, _), (5, _), (6, _), (7, _), (9, _)] ⟨rfl, rfl, rfl, rfl, rfl, rfl, rfl, rfl, trivial⟩ ?_
    refine HQ.rseq ?_
    refine HQ.pu Pu.move ⟨rfl, trivial⟩ rfl rfl rfl ?_
    obtain ⟨t30, h31, H⟩ := bnd H
    refine HQ.op [] [10] (OT.call (us := [_]) (Pre := []) [.tmp 43] Try.call29 rfl rfl fun w F hs hF hp => spec_DrawEndCell_c (hb_0.pass hp) h31) ⟨rfl, rfl, trivial⟩ trivial rfl rfl rfl rfl (fun _ => rfl) fun ⟨a32, c33⟩ => ?_
    refine HQ.pu Pu.move ⟨rfl, trivial⟩ rfl rfl rfl ?_
    refine HQ.pu (Pu.extract rfl) ⟨rfl, trivial⟩ rfl rfl rfl ?_
    refine HQ.pu (Pu.extract rfl) ⟨rfl, trivial⟩ rfl rfl rfl ?_
    refine HQ.op [] [11] (OT.alloc zc57) trivial trivial rfl rfl rfl rfl (fun _ => rfl) fun b34 => ?_
    refine HQ.pu Pu.assign ⟨rfl, trivial⟩ rfl rfl rfl ?_
    refine HQ.opN [11] [11] [] (OT.storeC (cs' := [.int .i64 t30.2.Seq, .int .i64 t30.2.Root, .int .i64 t30.2.Size, .slice a32 (List.length t30.2.Puts) c33]) sz57 rfl rfl rfl rfl rfl) ⟨rfl, rfl, trivial⟩ ⟨rfl, trivial⟩ rfl rfl rfl (fun _ => rfl) fun _ => ?_
    refine HQ.done ?_
    refine HQ.keep [(0, _), (2, _), (4, _), (3, _), (5, _), (6, _), (7, _), (9, _), (11, _), (10, _)] ⟨rfl, rfl, rfl, rfl, rfl, rfl, rfl, rfl, rfl, rfl, trivial⟩ ?_
    refine HQ.rseq ?_
    refine HQ.pu Pu.move ⟨rfl, trivial⟩ rfl rfl rfl ?_
    refine HQ.op [11] [11] (OT.loadBA (vs := [.int .i64 t30.2.Seq, .int .i64 t30.2.Root, .int .i64 t30.2.Size, .slice a32 (List.length t30.2.Puts) c33]) ag57 sz57 rfl rfl) ⟨rfl, trivial⟩ ⟨rfl, trivial⟩ rfl rfl rfl rfl (fun _ => rfl) fun _ => ?_
    obtain ⟨t35, h36, H⟩ := bnd H
    refine HQ.op [10] [12, 10] (OT.call (us := [_, _]) (Pre := [OwnS kTChange a32 c33 t30.2.Puts]) [.tmp 47, .tmp 48] Try.call30 rfl rfl fun w F hs hF hp => impl_EndCell_c (hs.lend hF 0 rfl) h36) ⟨rfl, rfl, rfl, trivial⟩ ⟨rfl, trivial⟩ rfl rfl rfl rfl (fun _ => rfl) fun ⟨a37, c38⟩ => ?_
    refine HQ.pu Pu.assign ⟨rfl, trivial⟩ rfl rfl rfl ?_
    refine HQ.done ?_
    refine HQ.keep [(0, _), (2, _), (4, _), (3, _), (5, _), (6, _), (7, _), (9, _), (11, _), (10, _), (12, _)] ⟨rfl, rfl, rfl, rfl, rfl, rfl, rfl, rfl, rfl, rfl, rfl, trivial⟩ ?_
    refine HQ.rseq ?_
    refine HQ.pu Pu.move ⟨rfl, trivial⟩ rfl rfl rfl ?_
    refine HQ.pu Pu.move ⟨rfl, trivial⟩ rfl rfl rfl ?_
    obtain ⟨t39, h40, H⟩ := bnd H
    refine HQ.op [12] [13, 12] (OT.call (us := [_, _]) (Pre := [OwnS kU8 a37 c38 t35]) [.tmp 52, .const (.int .i64 32)] Try.call24 rfl rfl fun w F hs hF hp => impl_Pad_c (hs.lend hF 0 rfl) h40) ⟨rfl, rfl, rfl, trivial⟩ ⟨rfl, trivial⟩ rfl rfl rfl rfl (fun _ => rfl) fun ⟨a41, c42⟩ => ?_
    obtain ⟨t43, h44, H⟩ := bnd H
    refine HQ.op [13] [14, 13] (OT.call (us := [_, _]) (Pre := [OwnS kU8 a41 c42 t39]) [.tmp 51, .tmp 53] Try.call31 rfl rfl fun w F hs hF hp => impl_GetEnd_c (hs.lend hF 0 rfl) h44) ⟨rfl, rfl, rfl, trivial⟩ ⟨rfl, trivial⟩ rfl rfl rfl rfl (fun _ => rfl) fun ⟨a45, c46⟩ => ?_
    refine HQ.pu Pu.move ⟨rfl, trivial⟩ rfl rfl rfl ?_
    refine HQ.pu (Pu.extract rfl) ⟨rfl, trivial⟩ rfl rfl rfl ?_
    refine HQ.pu (Pu.extract rfl) ⟨rfl, trivial⟩ rfl rfl rfl ?_
    refine HQ.pu (Pu.extract rfl) ⟨rfl, trivial⟩ rfl rfl rfl ?_
    refine HQ.op [] [15] (OT.alloc zc57) trivial trivial rfl rfl rfl rfl (fun _ => rfl) fun b47 => ?_
    refine HQ.opN [15] [15] [] (OT.storeC (cs' := [.int .i64 t43.1.Seq, .int .i64 t43.1.Root, .int .i64 t43.1.Size, .slice a45 (List.length t43.1.Puts) c46]) sz57 rfl rfl rfl rfl rfl) ⟨rfl, rfl, trivial⟩ ⟨rfl, trivial⟩ rfl rfl rfl (fun _ => rfl) fun _ => ?_
    refine HQ.pu Pu.assign ⟨rfl, trivial⟩ rfl rfl rfl ?_
    refine HQ.pu Pu.assign ⟨rfl, trivial⟩ rfl rfl rfl ?_
    refine HQ.done ?_
    refine HQ.keep [(0, _), (2, _), (4, _), (3, _), (5, _), (6, _), (7, _), (9, _), (11, _), (10, _), (12, _), (13, _), (14, _), (15, _)] ⟨rfl, rfl, rfl, rfl, rfl, rfl, rfl, rfl, rfl, rfl, rfl, rfl, rfl, rfl, trivial⟩ ?_
    refine HQ.rseq ?_
    refine HQ.pu Pu.move ⟨rfl, trivial⟩ rfl rfl rfl ?_
    obtain ⟨t48, h49, H⟩ := bnd H
    refine HQ.op [] [16] (OT.call (us := [_]) (Pre := []) [.tmp 58] Try.call32 rfl rfl fun w F hs hF hp => spec_DrawTxOk_c (hb_0.pass hp) h49) ⟨rfl, rfl, trivial⟩ trivial rfl rfl rfl rfl (fun _ => rfl) fun ⟨a50, c51⟩ => ?_
    refine HQ.op [] [17] (OT.alloc zc57) trivial trivial rfl rfl rfl rfl (fun _ => rfl) fun b52 => ?_
    refine HQ.opN [17] [17] [] (OT.storeC (cs' := [.int .i64 t48.Seq, .int .i64 t48.Root, .int .i64 t48.Size, .slice a50 (List.length t48.Puts) c51]) sz57 rfl rfl rfl rfl rfl) ⟨rfl, rfl, trivial⟩ ⟨rfl, trivial⟩ rfl rfl rfl (fun _ => rfl) fun _ => ?_
    refine HQ.done ?_
    refine HQ.keep [(2, _), (4, _), (3, _), (5, _), (6, _), (7, _), (9, _), (11, _), (10, _), (12, _), (13, _), (14, _), (15, _), (16, _)] ⟨rfl, rfl, rfl, rfl, rfl, rfl, rfl, rfl, rfl, rfl, rfl, rfl, rfl, rfl, trivial⟩ ?_
    refine HQ.seq ?_
    refine HQ.seq ?_
    refine HQ.dStart mixd ?_
    obtain ⟨t54, h55, H⟩ := bnd H
    refine HQ.dPart [(2, .bool false), (4, BP b7 0), (3, .int .i64 t3.1), (5, .slice a10 (List.length t8) c11), (6, BP b20 0), (7, .bool t16.2), (9, .bool t25.2), (11, BP b34 0), (10, .int .i64 t30.1), (12, .slice a37 (List.length t35) c38), (13, BP b47 0), (14, .int .i64 t43.2.1), (15, .bool t43.2.2), (16, BP b52 0)] 4 [⟨[], [], []⟩, ⟨[], [], []⟩, ⟨[0], [0], []⟩, ⟨[1], [2, 1], [1, 2]⟩] [⟨none, none⟩, ⟨none, none⟩, ⟨some 3, none⟩] (fun (g53 : (Option Addr × Nat)) => [.slice a10 (List.length t8) c11, .int .i64 t3.1, .agg #[.int .i64 t3.2.Page, .bool t3.2.N.Leaf, .slice a5 (List.length t3.2.N.L) c6], .slice g53.1 (List.length t54) g53.2]) (fun (g53 : (Option Addr × Nat)) => [Box b7 [.int .i64 t3.2.Page, .bool t3.2.N.Leaf, .slice a5 (List.length t3.2.N.L) c6], OwnS kTEntry a5 c6 t3.2.N.L, OwnS kU8 g53.1 g53.2 t54]) (none, 0) [2, 1] [2, 1, 18] [] ⟨rfl, rfl, rfl, rfl, rfl, rfl, rfl, rfl, rfl, rfl, rfl, rfl, rfl, rfl, trivial⟩ ⟨rfl, rfl, trivial⟩ rfl (by kernel_rfl) (by kernel_rfl) (fun _ => rfl) (by kernel_rfl) (fun _ => rfl) rfl ⟨?_, ?_, ?_, ?_, trivial⟩ fun g53 => ?_
    · exact OpOK2.of (fun g53 => [(.tmp 5, .slice a10 (List.length t8) c11)]) _ _ (fun g53 _ => g53) rfl rfl (fun _ => ⟨rfl, trivial⟩) (fun g53 => Pu.toOT Pu.move) (fun _ _ => ⟨rfl, rfl, ⟨rfl, rfl, rfl, trivial⟩⟩)
    · exact OpOK2.of (fun g53 => [(.tmp 3, .int .i64 t3.1)]) _ _ (fun g53 _ => g53) rfl rfl (fun _ => ⟨rfl, trivial⟩) (fun g53 => Pu.toOT Pu.move) (fun _ _ => ⟨rfl, rfl, ⟨rfl, rfl, rfl, trivial⟩⟩)
    · exact OpOK2.of (fun g53 => [(.tmp 4, BP b7 0)]) _ _ (fun g53 _ => g53) rfl rfl (fun _ => ⟨rfl, trivial⟩) (fun g53 => OT.loadBA (vs := [.int .i64 t3.2.Page, .bool t3.2.N.Leaf, .slice a5 (List.length t3.2.N.L) c6]) ag49 sz49 rfl rfl) (fun _ _ => ⟨rfl, rfl, ⟨rfl, rfl, rfl, trivial⟩⟩)
    · exact OpOK2.of (fun g53 => [(.func 33, .func (.func 33) #[] #[]), (.tmp 61, .int .i64 t3.1), (.tmp 62, .agg #[.int .i64 t3.2.Page, .bool t3.2.N.Leaf, .slice a5 (List.length t3.2.N.L) c6])]) _ _ (fun g53 x => x) rfl rfl (fun _ => ⟨rfl, rfl, rfl, trivial⟩) (fun g53 => OT.call (us := [_, _]) (Pre := [OwnS kTEntry a5 c6 t3.2.N.L]) [.tmp 61, .tmp 62] Try.call33 rfl rfl fun w F hs hF hp => spec_PutCell_c (hs.lend hF 0 rfl) h55) (fun _ _ => ⟨rfl, rfl, ⟨rfl, rfl, rfl, trivial⟩⟩)
    refine HQ.keep [(2, _), (4, _), (3, _), (5, _), (6, _), (7, _), (9, _), (11, _), (10, _), (12, _), (13, _), (14, _), (15, _), (16, _), (60, _), (63, _)] ⟨rfl, rfl, rfl, rfl, rfl, rfl, rfl, rfl, rfl, rfl, rfl, rfl, rfl, rfl, rfl, rfl, trivial⟩ ?_
    refine HQ.keepR [(1, _), (2, _), (3, _), (4, _), (5, _), (6, _), (7, _), (8, _), (9, _), (10, _), (11, _), (12, _), (13, _), (14, _), (15, _), (16, _), (17, _), (18, _)] ⟨rfl, rfl, rfl, rfl, rfl, rfl, rfl, rfl, rfl, rfl, rfl, rfl, rfl, rfl, rfl, rfl, rfl, rfl, trivial⟩ rfl ?_
    refine HQ.dRun 3 rfl rfl (by kernel_rfl) (by kernel_rfl) ?_
    obtain ⟨t58, h59, H⟩ := bnd H
    refine HQ.op [3, 18] [3, 18] (OT.call (us := [_, _]) (Pre := [OwnS kU8 a10 c11 t8, OwnS kU8 g53.1 g53.2 t54]) [.tmp 60, .tmp 63] Try.call23 rfl rfl fun w F hs hF hp => laws_same_c (hs.lend hF 0 rfl) (hs.lend hF 1 rfl) h59) ⟨rfl, rfl, rfl, trivial⟩ ⟨rfl, rfl, trivial⟩ rfl rfl rfl rfl (fun _ => rfl) fun _ => ?_
    refine HQ.pu Pu.not ⟨rfl, trivial⟩ rfl rfl rfl ?_
    refine HQ.pu Pu.move ⟨rfl, trivial⟩ rfl rfl rfl ?_
    refine HQ.done ?_
    obtain ⟨c69, h70, H⟩ := bnd H
    refine HQ.dMid (m' := 14) [(73, .bool c69), (2, .bool false), (4, BP b7 0), (3, .int .i64 t3.1), (5, .slice a10 (List.length t8) c11), (6, BP b20 0), (7, .bool t16.2), (9, .bool t25.2), (11, BP b34 0), (12, .slice a37 (List.length t35) c38), (13, BP b47 0), (14, .int .i64 t43.2.1), (15, .bool t43.2.2), (16, BP b52 0)] [(1, OwnS kTEntry a5 c6 t3.2.N.L), (2, Box b7 [.int .i64 t3.2.Page, .bool t3.2.N.Leaf, .slice a5 (List.length t3.2.N.L) c6]), (3, OwnS kU8 a10 c11 t8), (4, OwnS kU8 a14 c15 t12), (5, OwnS kTEntry a18 c19 t16.1.N.L), (6, Box b20 [.int .i64 t16.1.Page, .bool t16.1.N.Leaf, .slice a18 (List.length t16.1.N.L) c19]), (7, OwnS kU8 a23 c24 t21), (8, OwnS kTEntry a27 c28 t25.1.N.L), (9, Box b29 [.int .i64 t25.1.Page, .bool t25.1.N.Leaf, .slice a27 (List.length t25.1.N.L) c28]), (10, OwnS kTChange a32 c33 t30.2.Puts), (11, Box b34 [.int .i64 t30.2.Seq, .int .i64 t30.2.Root, .int .i64 t30.2.Size, .slice a32 (List.length t30.2.Puts) c33]), (12, OwnS kU8 a37 c38 t35), (13, OwnS kU8 a41 c42 t39), (14, OwnS kTChange a45 c46 t43.1.Puts), (15, Box b47 [.int .i64 t43.1.Seq, .int .i64 t43.1.Root, .int .i64 t43.1.Size, .slice a45 (List.length t43.1.Puts) c46]), (16, OwnS kTChange a50 c51 t48.Puts), (17, Box b52 [.int .i64 t48.Seq, .int .i64 t48.Root, .int .i64 t48.Size, .slice a50 (List.length t48.Puts) c51]), (18, OwnS kU8 g53.1 g53.2 t54)] (fun hmid => ?_) ?_
    · clear H
      have H := h70
      rcases brk H with ⟨hg60, H⟩ | ⟨hg60, H⟩
      · obtain rfl := Option.some.inj H
        refine HQ.dPart [(2, .bool false), (4, BP b7 0), (3, .int .i64 t3.1), (5, .slice a10 (List.length t8) c11), (6, BP b20 0), (7, .bool t16.2), (9, .bool t25.2), (11, BP b34 0), (10, .int .i64 t30.1), (12, .slice a37 (List.length t35) c38), (13, BP b47 0), (14, .int .i64 t43.2.1), (15, .bool t43.2.2), (16, BP b52 0), (66, .bool (!t58))] 11 [⟨[], [], []⟩, ⟨[], [], []⟩, ⟨[], [], []⟩, ⟨[], [], []⟩, ⟨[], [], []⟩, ⟨[], [], []⟩, ⟨[], [], []⟩, ⟨[], [], []⟩, ⟨[], [], []⟩, ⟨[], [], []⟩, ⟨[], [], []⟩] [] (fun (g68 : Unit) => [undef, undef, undef, undef, undef, undef, undef, undef, undef, undef, undef]) (fun (g68 : Unit) => []) () [] [] [] ⟨rfl, rfl, rfl, rfl, rfl, rfl, rfl, rfl, rfl, rfl, rfl, rfl, rfl, rfl, rfl, trivial⟩ trivial rfl (by kernel_rfl) (by kernel_rfl) (fun _ => rfl) (by kernel_rfl) (fun _ => rfl) rfl ⟨?_, ?_, ?_, ?_, trivial⟩ fun g68 => ?_
        · exact OpOK2.off rfl rfl rfl hg60 rfl rfl (fun _ => ⟨rfl, trivial⟩)
        · exact OpOK2.off rfl rfl rfl hg60 rfl rfl (fun _ => ⟨rfl, trivial⟩)
        · exact OpOK2.off rfl rfl rfl hg60 rfl rfl (fun _ => ⟨rfl, trivial⟩)
        · exact OpOK2.off rfl rfl rfl hg60 rfl rfl (fun _ => ⟨rfl, trivial⟩)
        refine HQ.keep [(2, _), (4, _), (3, _), (5, _), (6, _), (7, _), (9, _), (11, _), (12, _), (13, _), (14, _), (15, _), (16, _), (66, _), (67, _), (70, _)] ⟨rfl, rfl, rfl, rfl, rfl, rfl, rfl, rfl, rfl, rfl, rfl, rfl, rfl, rfl, rfl, rfl, trivial⟩ ?_
        refine HQ.keepR [(1, _), (2, _), (3, _), (4, _), (5, _), (6, _), (7, _), (8, _), (9, _), (10, _), (11, _), (12, _), (13, _), (14, _), (15, _), (16, _), (17, _), (18, _)] ⟨rfl, rfl, rfl, rfl, rfl, rfl, rfl, rfl, rfl, rfl, rfl, rfl, rfl, rfl, rfl, rfl, rfl, rfl, trivial⟩ rfl ?_
        refine HQ.dRun 2 rfl rfl (by kernel_rfl) (by kernel_rfl) ?_
        refine HQ.off rfl rfl hg60 rfl ?_
        refine HQ.off rfl rfl hg60 rfl ?_
        refine HQ.done ?_
        refine HQ.dRun 1 rfl rfl (by kernel_rfl) (by kernel_rfl) ?_
        refine HQ.pu (Pu.pickC1 hg60) ⟨rfl, rfl, trivial⟩ rfl rfl rfl ?_
        refine HQ.done ?_
        exact HQ.dUse hmid ⟨rfl, rfl, rfl, rfl, rfl, rfl, rfl, rfl, rfl, rfl, rfl, rfl, rfl, rfl, trivial⟩ ⟨rfl, rfl, rfl, rfl, rfl, rfl, rfl, rfl, rfl, rfl, rfl, rfl, rfl, rfl, rfl, rfl, rfl, rfl, trivial⟩ rfl
      · obtain ⟨t62, h63, H⟩ := bnd H
        refine HQ.dPart [(2, .bool false), (4, BP b7 0), (3, .int .i64 t3.1), (5, .slice a10 (List.length t8) c11), (6, BP b20 0), (7, .bool t16.2), (9, .bool t25.2), (11, BP b34 0), (10, .int .i64 t30.1), (12, .slice a37 (List.length t35) c38), (13, BP b47 0), (14, .int .i64 t43.2.1), (15, .bool t43.2.2), (16, BP b52 0), (66, .bool (!t58))] 11 [⟨[], [], []⟩, ⟨[], [], []⟩, ⟨[], [], []⟩, ⟨[], [], []⟩, ⟨[], [], []⟩, ⟨[], [], []⟩, ⟨[], [], []⟩, ⟨[], [], []⟩, ⟨[], [], []⟩, ⟨[0], [0], []⟩, ⟨[1], [2, 1], [8, 9]⟩] [⟨none, none⟩, ⟨none, none⟩, ⟨some 10, none⟩] (fun (g61 : (Option Addr × Nat)) => [undef, undef, undef, undef, undef, undef, undef, .slice a37 (List.length t35) c38, .int .i64 t30.1, .agg #[.int .i64 t30.2.Seq, .int .i64 t30.2.Root, .int .i64 t30.2.Size, .slice a32 (List.length t30.2.Puts) c33], .slice g61.1 (List.length t62) g61.2]) (fun (g61 : (Option Addr × Nat)) => [Box b34 [.int .i64 t30.2.Seq, .int .i64 t30.2.Root, .int .i64 t30.2.Size, .slice a32 (List.length t30.2.Puts) c33], OwnS kTChange a32 c33 t30.2.Puts, OwnS kU8 g61.1 g61.2 t62]) (none, 0) [11, 10] [11, 10, 19] [] ⟨rfl, rfl, rfl, rfl, rfl, rfl, rfl, rfl, rfl, rfl, rfl, rfl, rfl, rfl, rfl, trivial⟩ ⟨rfl, rfl, trivial⟩ rfl (by kernel_rfl) (by kernel_rfl) (fun _ => rfl) (by kernel_rfl) (fun _ => rfl) rfl ⟨?_, ?_, ?_, ?_, trivial⟩ fun g61 => ?_
        · exact OpOK2.on (fun g61 => [(.tmp 12, .slice a37 (List.length t35) c38)]) _ _ (fun g61 _ => g61) rfl rfl rfl hg60 (fun _ => ⟨rfl, trivial⟩) (fun g61 => Pu.toOT Pu.move) (fun _ _ => ⟨rfl, rfl, ⟨rfl, rfl, rfl, trivial⟩⟩)
        · exact OpOK2.on (fun g61 => [(.tmp 10, .int .i64 t30.1)]) _ _ (fun g61 _ => g61) rfl rfl rfl hg60 (fun _ => ⟨rfl, trivial⟩) (fun g61 => Pu.toOT Pu.move) (fun _ _ => ⟨rfl, rfl, ⟨rfl, rfl, rfl, trivial⟩⟩)
        · exact OpOK2.on (fun g61 => [(.tmp 11, BP b34 0)]) _ _ (fun g61 _ => g61) rfl rfl rfl hg60 (fun _ => ⟨rfl, trivial⟩) (fun g61 => OT.loadBA (vs := [.int .i64 t30.2.Seq, .int .i64 t30.2.Root, .int .i64 t30.2.Size, .slice a32 (List.length t30.2.Puts) c33]) ag57 sz57 rfl rfl) (fun _ _ => ⟨rfl, rfl, ⟨rfl, rfl, rfl, trivial⟩⟩)
        · exact OpOK2.on (fun g61 => [(.func 34, .func (.func 34) #[] #[]), (.tmp 68, .int .i64 t30.1), (.tmp 69, .agg #[.int .i64 t30.2.Seq, .int .i64 t30.2.Root, .int .i64 t30.2.Size, .slice a32 (List.length t30.2.Puts) c33])]) _ _ (fun g61 x => x) rfl rfl rfl hg60 (fun _ => ⟨rfl, rfl, rfl, trivial⟩) (fun g61 => OT.call (us := [_, _]) (Pre := [OwnS kTChange a32 c33 t30.2.Puts]) [.tmp 68, .tmp 69] Try.call34 rfl rfl fun w F hs hF hp => spec_EndCell_c (hs.lend hF 0 rfl) h63) (fun _ _ => ⟨rfl, rfl, ⟨rfl, rfl, rfl, trivial⟩⟩)
        refine HQ.keep [(2, _), (4, _), (3, _), (5, _), (6, _), (7, _), (9, _), (11, _), (12, _), (13, _), (14, _), (15, _), (16, _), (66, _), (67, _), (70, _)] ⟨rfl, rfl, rfl, rfl, rfl, rfl, rfl, rfl, rfl, rfl, rfl, rfl, rfl, rfl, rfl, rfl, trivial⟩ ?_
        refine HQ.keepR [(1, _), (2, _), (3, _), (4, _), (5, _), (6, _), (7, _), (8, _), (9, _), (10, _), (11, _), (12, _), (13, _), (14, _), (15, _), (16, _), (17, _), (18, _), (19, _)] ⟨rfl, rfl, rfl, rfl, rfl, rfl, rfl, rfl, rfl, rfl, rfl, rfl, rfl, rfl, rfl, rfl, rfl, rfl, rfl, trivial⟩ rfl ?_
        refine HQ.dRun 2 rfl rfl (by kernel_rfl) (by kernel_rfl) ?_
        refine HQ.on rfl rfl hg60 ?_
        obtain ⟨t66, h67, H⟩ := bnd H
        refine HQ.op [12, 19] [12, 19] (OT.call (us := [_, _]) (Pre := [OwnS kU8 a37 c38 t35, OwnS kU8 g61.1 g61.2 t62]) [.tmp 67, .tmp 70] Try.call23 rfl rfl fun w F hs hF hp => laws_same_c (hs.lend hF 0 rfl) (hs.lend hF 1 rfl) h67) ⟨rfl, rfl, rfl, trivial⟩ ⟨rfl, rfl, trivial⟩ rfl rfl rfl rfl (fun _ => rfl) fun _ => ?_
        refine HQ.on rfl rfl hg60 ?_
        refine HQ.pu Pu.not ⟨rfl, trivial⟩ rfl rfl rfl ?_
        refine HQ.done ?_
        obtain rfl := Option.some.inj H
        refine HQ.dRun 1 rfl rfl (by kernel_rfl) (by kernel_rfl) ?_
        refine HQ.pu (Pu.pickC0 hg60) ⟨rfl, rfl, trivial⟩ rfl rfl rfl ?_
        refine HQ.done ?_
        exact HQ.dUse hmid ⟨rfl, rfl, rfl, rfl, rfl, rfl, rfl, rfl, rfl, rfl, rfl, rfl, rfl, rfl, trivial⟩ ⟨rfl, rfl, rfl, rfl, rfl, rfl, rfl, rfl, rfl, rfl, rfl, rfl, rfl, rfl, rfl, rfl, rfl, rfl, trivial⟩ rfl
    refine HQ.dRun 1 rfl rfl (by kernel_rfl) (by kernel_rfl) ?_
    refine HQ.pu Pu.move ⟨rfl, trivial⟩ rfl rfl rfl ?_
    refine HQ.done ?_
    obtain ⟨c78, h79, H⟩ := bnd H
    refine HQ.dMid (m' := 21) [(80, .bool c78), (2, .bool false), (4, BP b7 0), (3, .int .i64 t3.1), (5, .slice a10 (List.length t8) c11), (6, BP b20 0), (7, .bool t16.2), (9, .bool t25.2), (11, BP b34 0), (12, .slice a37 (List.length t35) c38), (13, BP b47 0), (14, .int .i64 t43.2.1), (15, .bool t43.2.2)] [(1, OwnS kTEntry a5 c6 t3.2.N.L), (2, Box b7 [.int .i64 t3.2.Page, .bool t3.2.N.Leaf, .slice a5 (List.length t3.2.N.L) c6]), (3, OwnS kU8 a10 c11 t8), (4, OwnS kU8 a14 c15 t12), (5, OwnS kTEntry a18 c19 t16.1.N.L), (6, Box b20 [.int .i64 t16.1.Page, .bool t16.1.N.Leaf, .slice a18 (List.length t16.1.N.L) c19]), (7, OwnS kU8 a23 c24 t21), (8, OwnS kTEntry a27 c28 t25.1.N.L), (9, Box b29 [.int .i64 t25.1.Page, .bool t25.1.N.Leaf, .slice a27 (List.length t25.1.N.L) c28]), (10, OwnS kTChange a32 c33 t30.2.Puts), (11, Box b34 [.int .i64 t30.2.Seq, .int .i64 t30.2.Root, .int .i64 t30.2.Size, .slice a32 (List.length t30.2.Puts) c33]), (12, OwnS kU8 a37 c38 t35), (13, OwnS kU8 a41 c42 t39), (14, OwnS kTChange a45 c46 t43.1.Puts), (15, Box b47 [.int .i64 t43.1.Seq, .int .i64 t43.1.Root, .int .i64 t43.1.Size, .slice a45 (List.length t43.1.Puts) c46]), (16, OwnS kTChange a50 c51 t48.Puts), (17, Box b52 [.int .i64 t48.Seq, .int .i64 t48.Root, .int .i64 t48.Size, .slice a50 (List.length t48.Puts) c51]), (18, OwnS kU8 g53.1 g53.2 t54)] (fun hmid => ?_) ?_
    · clear H
      have H := h79
      rcases brk H with ⟨hg71, H⟩ | ⟨hg71, H⟩
      · obtain rfl := Option.some.inj H
        refine HQ.dPart [(2, .bool false), (4, BP b7 0), (3, .int .i64 t3.1), (5, .slice a10 (List.length t8) c11), (6, BP b20 0), (7, .bool t16.2), (9, .bool t25.2), (11, BP b34 0), (12, .slice a37 (List.length t35) c38), (13, BP b47 0), (14, .int .i64 t43.2.1), (15, .bool t43.2.2), (16, BP b52 0), (74, .bool c69)] 18 [⟨[], [], []⟩, ⟨[], [], []⟩, ⟨[], [], []⟩, ⟨[], [], []⟩, ⟨[], [], []⟩, ⟨[], [], []⟩, ⟨[], [], []⟩, ⟨[], [], []⟩, ⟨[], [], []⟩, ⟨[], [], []⟩, ⟨[], [], []⟩, ⟨[], [], []⟩, ⟨[], [], []⟩, ⟨[], [], []⟩, ⟨[], [], []⟩, ⟨[], [], []⟩, ⟨[], [], []⟩, ⟨[], [], []⟩] [] (fun (g77 : Unit) => [undef, undef, undef, undef, undef, undef, undef, undef, undef, undef, undef, undef, undef, undef, undef, undef, undef, undef]) (fun (g77 : Unit) => []) () [] [] [] ⟨rfl, rfl, rfl, rfl, rfl, rfl, rfl, rfl, rfl, rfl, rfl, rfl, rfl, rfl, trivial⟩ trivial rfl (by kernel_rfl) (by kernel_rfl) (fun _ => rfl) (by kernel_rfl) (fun _ => rfl) rfl ⟨?_, ?_, ?_, trivial⟩ fun g77 => ?_
        · exact OpOK2.off rfl rfl rfl hg71 rfl rfl (fun _ => ⟨rfl, trivial⟩)
        · exact OpOK2.off rfl rfl rfl hg71 rfl rfl (fun _ => ⟨rfl, trivial⟩)
        · exact OpOK2.off rfl rfl rfl hg71 rfl rfl (fun _ => ⟨rfl, trivial⟩)
        refine HQ.keep [(2, _), (4, _), (3, _), (5, _), (6, _), (7, _), (9, _), (11, _), (12, _), (13, _), (14, _), (15, _), (74, _), (76, _), (77, _)] ⟨rfl, rfl, rfl, rfl, rfl, rfl, rfl, rfl, rfl, rfl, rfl, rfl, rfl, rfl, rfl, trivial⟩ ?_
        refine HQ.keepR [(1, _), (2, _), (3, _), (4, _), (5, _), (6, _), (7, _), (8, _), (9, _), (10, _), (11, _), (12, _), (13, _), (14, _), (15, _), (16, _), (17, _), (18, _)] ⟨rfl, rfl, rfl, rfl, rfl, rfl, rfl, rfl, rfl, rfl, rfl, rfl, rfl, rfl, rfl, rfl, rfl, rfl, trivial⟩ rfl ?_
        refine HQ.dRun 2 rfl rfl (by kernel_rfl) (by kernel_rfl) ?_
        refine HQ.off rfl rfl hg71 rfl ?_
        refine HQ.off rfl rfl hg71 rfl ?_
        refine HQ.done ?_
        refine HQ.dRun 1 rfl rfl (by kernel_rfl) (by kernel_rfl) ?_
        refine HQ.pu (Pu.pickC1 hg71) ⟨rfl, rfl, trivial⟩ rfl rfl rfl ?_
        refine HQ.done ?_
        exact HQ.dUse hmid ⟨rfl, rfl, rfl, rfl, rfl, rfl, rfl, rfl, rfl, rfl, rfl, rfl, rfl, trivial⟩ ⟨rfl, rfl, rfl, rfl, rfl, rfl, rfl, rfl, rfl, rfl, rfl, rfl, rfl, rfl, rfl, rfl, rfl, rfl, trivial⟩ rfl
      · obtain ⟨t73, h74, H⟩ := bnd H
        refine HQ.dPart [(2, .bool false), (4, BP b7 0), (3, .int .i64 t3.1), (5, .slice a10 (List.length t8) c11), (6, BP b20 0), (7, .bool t16.2), (9, .bool t25.2), (11, BP b34 0), (12, .slice a37 (List.length t35) c38), (13, BP b47 0), (14, .int .i64 t43.2.1), (15, .bool t43.2.2), (16, BP b52 0), (74, .bool c69)] 18 [⟨[], [], []⟩, ⟨[], [], []⟩, ⟨[], [], []⟩, ⟨[], [], []⟩, ⟨[], [], []⟩, ⟨[], [], []⟩, ⟨[], [], []⟩, ⟨[], [], []⟩, ⟨[], [], []⟩, ⟨[], [], []⟩, ⟨[], [], []⟩, ⟨[], [], []⟩, ⟨[], [], []⟩, ⟨[], [], []⟩, ⟨[], [], []⟩, ⟨[0], [0], []⟩, ⟨[1], [1], [15]⟩, ⟨[0], [0], []⟩] [⟨none, none⟩, ⟨none, none⟩] (fun (g72 : Unit) => [undef, undef, undef, undef, undef, undef, undef, undef, undef, undef, undef, undef, undef, undef, undef, .agg #[.int .i64 t48.Seq, .int .i64 t48.Root, .int .i64 t48.Size, .slice a50 (List.length t48.Puts) c51], .bool t73, .agg #[.int .i64 t48.Seq, .int .i64 t48.Root, .int .i64 t48.Size, .slice a50 (List.length t48.Puts) c51]]) (fun (g72 : Unit) => [Box b52 [.int .i64 t48.Seq, .int .i64 t48.Root, .int .i64 t48.Size, .slice a50 (List.length t48.Puts) c51], OwnS kTChange a50 c51 t48.Puts]) () [17, 16] [17, 16] [] ⟨rfl, rfl, rfl, rfl, rfl, rfl, rfl, rfl, rfl, rfl, rfl, rfl, rfl, rfl, trivial⟩ ⟨rfl, rfl, trivial⟩ rfl (by kernel_rfl) (by kernel_rfl) (fun _ => rfl) (by kernel_rfl) (fun _ => rfl) rfl ⟨?_, ?_, ?_, trivial⟩ fun g72 => ?_
        · exact OpOK2.on (fun g72 => [(.tmp 16, BP b52 0)]) _ _ (fun g72 _ => g72) rfl rfl rfl hg71 (fun _ => ⟨rfl, trivial⟩) (fun g72 => OT.loadBA (vs := [.int .i64 t48.Seq, .int .i64 t48.Root, .int .i64 t48.Size, .slice a50 (List.length t48.Puts) c51]) ag57 sz57 rfl rfl) (fun _ _ => ⟨rfl, rfl, ⟨rfl, rfl, trivial⟩⟩)
        · exact OpOK2.on (fun g72 => [(.func 35, .func (.func 35) #[] #[]), (.tmp 75, .agg #[.int .i64 t48.Seq, .int .i64 t48.Root, .int .i64 t48.Size, .slice a50 (List.length t48.Puts) c51])]) _ _ (fun g72 _ => g72) rfl rfl rfl hg71 (fun _ => ⟨rfl, rfl, trivial⟩) (fun g72 => OT.call (us := [_]) (Pre := [OwnS kTChange a50 c51 t48.Puts]) [.tmp 75] Try.call35 rfl rfl fun w F hs hF hp => impl_TxOk_c (hs.lend hF 0 rfl) h74) (fun _ _ => ⟨rfl, rfl, ⟨rfl, rfl, trivial⟩⟩)
        · exact OpOK2.on (fun g72 => [(.tmp 16, BP b52 0)]) _ _ (fun g72 _ => g72) rfl rfl rfl hg71 (fun _ => ⟨rfl, trivial⟩) (fun g72 => OT.loadBA (vs := [.int .i64 t48.Seq, .int .i64 t48.Root, .int .i64 t48.Size, .slice a50 (List.length t48.Puts) c51]) ag57 sz57 rfl rfl) (fun _ _ => ⟨rfl, rfl, ⟨rfl, rfl, trivial⟩⟩)
        refine HQ.keep [(2, _), (4, _), (3, _), (5, _), (6, _), (7, _), (9, _), (11, _), (12, _), (13, _), (14, _), (15, _), (74, _), (76, _), (77, _)] ⟨rfl, rfl, rfl, rfl, rfl, rfl, rfl, rfl, rfl, rfl, rfl, rfl, rfl, rfl, rfl, trivial⟩ ?_
        refine HQ.keepR [(1, _), (2, _), (3, _), (4, _), (5, _), (6, _), (7, _), (8, _), (9, _), (10, _), (11, _), (12, _), (13, _), (14, _), (15, _), (16, _), (17, _), (18, _)] ⟨rfl, rfl, rfl, rfl, rfl, rfl, rfl, rfl, rfl, rfl, rfl, rfl, rfl, rfl, rfl, rfl, rfl, rfl, trivial⟩ rfl ?_
        refine HQ.dRun 2 rfl rfl (by kernel_rfl) (by kernel_rfl) ?_
        refine HQ.on rfl rfl hg71 ?_
        obtain ⟨t75, h76, H⟩ := bnd H
        refine HQ.op [16] [16] (OT.call (us := [_]) (Pre := [OwnS kTChange a50 c51 t48.Puts]) [.tmp 77] Try.call36 rfl rfl fun w F hs hF hp => spec_TxOk_c (hs.lend hF 0 rfl) h76) ⟨rfl, rfl, trivial⟩ ⟨rfl, trivial⟩ rfl rfl rfl rfl (fun _ => rfl) fun _ => ?_
        refine HQ.on rfl rfl hg71 ?_
        refine HQ.pu (Pu.neqB ul4) ⟨rfl, rfl, trivial⟩ rfl rfl rfl ?_
        refine HQ.done ?_
        obtain rfl := Option.some.inj H
        refine HQ.dRun 1 rfl rfl (by kernel_rfl) (by kernel_rfl) ?_
        refine HQ.pu (Pu.pickC0 hg71) ⟨rfl, rfl, trivial⟩ rfl rfl rfl ?_
        refine HQ.done ?_
        exact HQ.dUse hmid ⟨rfl, rfl, rfl, rfl, rfl, rfl, rfl, rfl, rfl, rfl, rfl, rfl, rfl, trivial⟩ ⟨rfl, rfl, rfl, rfl, rfl, rfl, rfl, rfl, rfl, rfl, rfl, rfl, rfl, rfl, rfl, rfl, rfl, rfl, trivial⟩ rfl
    refine HQ.dRun 8 rfl rfl (by kernel_rfl) (by kernel_rfl) ?_
    refine HQ.pu Pu.move ⟨rfl, trivial⟩ rfl rfl rfl ?_
    refine HQ.cutAt 7 [(88, .bool (c78 || ((decide (((List.length t8 : Nat) : Int) > 0)) && t25.2))), (2, .bool false), (4, BP b7 0), (3, .int .i64 t3.1), (5, .slice a10 (List.length t8) c11), (6, BP b20 0), (7, .bool t16.2), (11, BP b34 0), (12, .slice a37 (List.length t35) c38), (13, BP b47 0), (14, .int .i64 t43.2.1), (15, .bool t43.2.2)] [(1, OwnS kTEntry a5 c6 t3.2.N.L), (2, Box b7 [.int .i64 t3.2.Page, .bool t3.2.N.Leaf, .slice a5 (List.length t3.2.N.L) c6]), (3, OwnS kU8 a10 c11 t8), (4, OwnS kU8 a14 c15 t12), (5, OwnS kTEntry a18 c19 t16.1.N.L), (6, Box b20 [.int .i64 t16.1.Page, .bool t16.1.N.Leaf, .slice a18 (List.length t16.1.N.L) c19]), (7, OwnS kU8 a23 c24 t21), (8, OwnS kTEntry a27 c28 t25.1.N.L), (9, Box b29 [.int .i64 t25.1.Page, .bool t25.1.N.Leaf, .slice a27 (List.length t25.1.N.L) c28]), (10, OwnS kTChange a32 c33 t30.2.Puts), (11, Box b34 [.int .i64 t30.2.Seq, .int .i64 t30.2.Root, .int .i64 t30.2.Size, .slice a32 (List.length t30.2.Puts) c33]), (12, OwnS kU8 a37 c38 t35), (13, OwnS kU8 a41 c42 t39), (14, OwnS kTChange a45 c46 t43.1.Puts), (15, Box b47 [.int .i64 t43.1.Seq, .int .i64 t43.1.Root, .int .i64 t43.1.Size, .slice a45 (List.length t43.1.Puts) c46]), (16, OwnS kTChange a50 c51 t48.Puts), (17, Box b52 [.int .i64 t48.Seq, .int .i64 t48.Root, .int .i64 t48.Size, .slice a50 (List.length t48.Puts) c51]), (18, OwnS kU8 g53.1 g53.2 t54)] ?_ ?_
    · rcases Bool.eq_false_or_eq_true c78 with hg80 | hg80
      · refine HQ.off rfl rfl hg80 rfl ?_
        refine HQ.off rfl rfl hg80 rfl ?_
        refine HQ.off rfl rfl hg80 rfl ?_
        refine HQ.off rfl rfl hg80 rfl ?_
        refine HQ.offU rfl rfl rfl ?_
        refine HQ.off rfl rfl hg80 rfl ?_
        refine HQ.pu (Pu.pickOT (u := ((decide (((List.length t8 : Nat) : Int) > 0)) && t25.2)) hg80) ⟨rfl, rfl, trivial⟩ rfl rfl rfl ?_
        exact HQ.mid ⟨rfl, rfl, rfl, rfl, rfl, rfl, rfl, rfl, rfl, rfl, rfl, rfl, trivial⟩ ⟨rfl, rfl, rfl, rfl, rfl, rfl, rfl, rfl, rfl, rfl, rfl, rfl, rfl, rfl, rfl, rfl, rfl, rfl, trivial⟩ rfl
      · refine HQ.on rfl rfl hg80 ?_
        refine HQ.pu Pu.move ⟨rfl, trivial⟩ rfl rfl rfl ?_
        refine HQ.on rfl rfl hg80 ?_
        refine HQ.pu (Pu.len ul22) ⟨rfl, trivial⟩ rfl rfl rfl ?_
        refine HQ.on rfl rfl hg80 ?_
        refine HQ.pu Pu.gtr ⟨rfl, rfl, trivial⟩ rfl rfl rfl ?_
        refine HQ.on rfl rfl hg80 ?_
        refine HQ.pu Pu.move ⟨rfl, trivial⟩ rfl rfl rfl ?_
        refine HQ.cutAt 2 [(87, .bool ((decide (((List.length t8 : Nat) : Int) > 0)) && t25.2)), (2, .bool false), (4, BP b7 0), (3, .int .i64 t3.1), (5, .slice a10 (List.length t8) c11), (6, BP b20 0), (7, .bool t16.2), (11, BP b34 0), (12, .slice a37 (List.length t35) c38), (13, BP b47 0), (14, .int .i64 t43.2.1), (15, .bool t43.2.2), (81, .bool c78)] [(1, OwnS kTEntry a5 c6 t3.2.N.L), (2, Box b7 [.int .i64 t3.2.Page, .bool t3.2.N.Leaf, .slice a5 (List.length t3.2.N.L) c6]), (3, OwnS kU8 a10 c11 t8), (4, OwnS kU8 a14 c15 t12), (5, OwnS kTEntry a18 c19 t16.1.N.L), (6, Box b20 [.int .i64 t16.1.Page, .bool t16.1.N.Leaf, .slice a18 (List.length t16.1.N.L) c19]), (7, OwnS kU8 a23 c24 t21), (8, OwnS kTEntry a27 c28 t25.1.N.L), (9, Box b29 [.int .i64 t25.1.Page, .bool t25.1.N.Leaf, .slice a27 (List.length t25.1.N.L) c28]), (10, OwnS kTChange a32 c33 t30.2.Puts), (11, Box b34 [.int .i64 t30.2.Seq, .int .i64 t30.2.Root, .int .i64 t30.2.Size, .slice a32 (List.length t30.2.Puts) c33]), (12, OwnS kU8 a37 c38 t35), (13, OwnS kU8 a41 c42 t39), (14, OwnS kTChange a45 c46 t43.1.Puts), (15, Box b47 [.int .i64 t43.1.Seq, .int .i64 t43.1.Root, .int .i64 t43.1.Size, .slice a45 (List.length t43.1.Puts) c46]), (16, OwnS kTChange a50 c51 t48.Puts), (17, Box b52 [.int .i64 t48.Seq, .int .i64 t48.Root, .int .i64 t48.Size, .slice a50 (List.length t48.Puts) c51]), (18, OwnS kU8 g53.1 g53.2 t54)] ?_ ?_
        · rcases Bool.eq_false_or_eq_true (decide (((List.length t8 : Nat) : Int) > 0)) with hg81 | hg81
          · refine HQ.on rfl rfl hg81 ?_
            refine HQ.pu Pu.move ⟨rfl, trivial⟩ rfl rfl rfl ?_
            refine HQ.on rfl rfl hg80 ?_
            refine HQ.pu (Pu.pickAT hg81) ⟨rfl, rfl, trivial⟩ rfl rfl rfl ?_
            exact HQ.mid ⟨rfl, rfl, rfl, rfl, rfl, rfl, rfl, rfl, rfl, rfl, rfl, rfl, rfl, trivial⟩ ⟨rfl, rfl, rfl, rfl, rfl, rfl, rfl, rfl, rfl, rfl, rfl, rfl, rfl, rfl, rfl, rfl, rfl, rfl, trivial⟩ rfl
          · refine HQ.off rfl rfl hg81 rfl ?_
            refine HQ.on rfl rfl hg80 ?_
            refine HQ.pu (Pu.pickAF (u := t25.2) hg81) ⟨rfl, rfl, trivial⟩ rfl rfl rfl ?_
            exact HQ.mid ⟨rfl, rfl, rfl, rfl, rfl, rfl, rfl, rfl, rfl, rfl, rfl, rfl, rfl, trivial⟩ ⟨rfl, rfl, rfl, rfl, rfl, rfl, rfl, rfl, rfl, rfl, rfl, rfl, rfl, rfl, rfl, rfl, rfl, rfl, trivial⟩ rfl
        refine HQ.pu (Pu.pickOF hg80) ⟨rfl, rfl, trivial⟩ rfl rfl rfl ?_
        exact HQ.mid ⟨rfl, rfl, rfl, rfl, rfl, rfl, rfl, rfl, rfl, rfl, rfl, rfl, trivial⟩ ⟨rfl, rfl, rfl, rfl, rfl, rfl, rfl, rfl, rfl, rfl, rfl, rfl, rfl, rfl, rfl, rfl, rfl, rfl, trivial⟩ rfl
    refine HQ.done ?_
    refine HQ.dEnd rfl ?_
    refine HQ.thenN ?_
    refine HQ.keep [(88, _), (2, _), (4, _), (3, _), (5, _), (6, _), (7, _), (11, _), (12, _), (13, _), (14, _), (15, _)] ⟨rfl, rfl, rfl, rfl, rfl, rfl, rfl, rfl, rfl, rfl, rfl, rfl, trivial⟩ ?_
    rcases brk H with ⟨hc, H⟩ | ⟨hc, H⟩
    · refine HQ.condT rfl hc ?_
      clear hc
      refine HQ.rseq ?_
      refine HQ.pu Pu.assign ⟨rfl, trivial⟩ rfl rfl rfl ?_
      refine HQ.done ?_
      refine HQ.keep [(2, _), (4, _), (3, _), (5, _), (6, _), (7, _), (11, _), (12, _), (13, _), (14, _), (15, _)] ⟨rfl, rfl, rfl, rfl, rfl, rfl, rfl, rfl, rfl, rfl, rfl, trivial⟩ ?_
      refine HQ.ret ?_
      refine HQ.thenR ?_
      obtain rfl := Option.some.inj H
      exact HQ.fin (vs := [_]) Try.results4 () ⟨rfl, trivial⟩ rfl [] trivial rfl
    · refine HQ.condF rfl hc ?_
      clear hc
      refine HQ.skipThen ?_
      refine HQ.seq ?_
      refine HQ.rseq ?_
      refine HQ.pu Pu.move ⟨rfl, trivial⟩ rfl rfl rfl ?_
      refine HQ.pu (Pu.len ul22) ⟨rfl, trivial⟩ rfl rfl rfl ?_
      refine HQ.pu Pu.gtr ⟨rfl, rfl, trivial⟩ rfl rfl rfl ?_
      refine HQ.pu Pu.move ⟨rfl, trivial⟩ rfl rfl rfl ?_
      obtain ⟨c89, h90, H⟩ := bnd H
      refine HQ.cutAt 18 [(110, .bool c89), (2, .bool false), (4, BP b7 0), (3, .int .i64 t3.1), (5, .slice a10 (List.length t8) c11), (11, BP b34 0), (12, .slice a37 (List.length t35) c38), (13, BP b47 0), (14, .int .i64 t43.2.1), (15, .bool t43.2.2)] [(1, OwnS kTEntry a5 c6 t3.2.N.L), (2, Box b7 [.int .i64 t3.2.Page, .bool t3.2.N.Leaf, .slice a5 (List.length t3.2.N.L) c6]), (3, OwnS kU8 a10 c11 t8), (4, OwnS kU8 a14 c15 t12), (5, OwnS kTEntry a18 c19 t16.1.N.L), (6, Box b20 [.int .i64 t16.1.Page, .bool t16.1.N.Leaf, .slice a18 (List.length t16.1.N.L) c19]), (7, OwnS kU8 a23 c24 t21), (8, OwnS kTEntry a27 c28 t25.1.N.L), (9, Box b29 [.int .i64 t25.1.Page, .bool t25.1.N.Leaf, .slice a27 (List.length t25.1.N.L) c28]), (10, OwnS kTChange a32 c33 t30.2.Puts), (11, Box b34 [.int .i64 t30.2.Seq, .int .i64 t30.2.Root, .int .i64 t30.2.Size, .slice a32 (List.length t30.2.Puts) c33]), (12, OwnS kU8 a37 c38 t35), (13, OwnS kU8 a41 c42 t39), (14, OwnS kTChange a45 c46 t43.1.Puts), (15, Box b47 [.int .i64 t43.1.Seq, .int .i64 t43.1.Root, .int .i64 t43.1.Size, .slice a45 (List.length t43.1.Puts) c46]), (16, OwnS kTChange a50 c51 t48.Puts), (17, Box b52 [.int .i64 t48.Seq, .int .i64 t48.Root, .int .i64 t48.Size, .slice a50 (List.length t48.Puts) c51]), (18, OwnS kU8 g53.1 g53.2 t54)] ?_ ?_
      · clear H
        have H := h90
        rcases brk H with ⟨hg82, H⟩ | ⟨hg82, H⟩
        · refine HQ.on rfl rfl hg82 ?_
          refine HQ.pu Pu.move ⟨rfl, trivial⟩ rfl rfl rfl ?_
          refine HQ.on rfl rfl hg82 ?_
          refine HQ.pu Pu.not ⟨rfl, trivial⟩ rfl rfl rfl ?_
          refine HQ.on rfl rfl hg82 ?_
          refine HQ.pu Pu.move ⟨rfl, trivial⟩ rfl rfl rfl ?_
          refine HQ.cutAt 6 [(101, .bool ((!t16.2) || (!decide (t16.1.Page = t3.2.Page)))), (2, .bool false), (4, BP b7 0), (3, .int .i64 t3.1), (5, .slice a10 (List.length t8) c11), (6, BP b20 0), (11, BP b34 0), (12, .slice a37 (List.length t35) c38), (13, BP b47 0), (14, .int .i64 t43.2.1), (15, .bool t43.2.2), (92, .bool (decide (((List.length t8 : Nat) : Int) > 0)))] [(1, OwnS kTEntry a5 c6 t3.2.N.L), (2, Box b7 [.int .i64 t3.2.Page, .bool t3.2.N.Leaf, .slice a5 (List.length t3.2.N.L) c6]), (3, OwnS kU8 a10 c11 t8), (4, OwnS kU8 a14 c15 t12), (5, OwnS kTEntry a18 c19 t16.1.N.L), (6, Box b20 [.int .i64 t16.1.Page, .bool t16.1.N.Leaf, .slice a18 (List.length t16.1.N.L) c19]), (7, OwnS kU8 a23 c24 t21), (8, OwnS kTEntry a27 c28 t25.1.N.L), (9, Box b29 [.int .i64 t25.1.Page, .bool t25.1.N.Leaf, .slice a27 (List.length t25.1.N.L) c28]), (10, OwnS kTChange a32 c33 t30.2.Puts), (11, Box b34 [.int .i64 t30.2.Seq, .int .i64 t30.2.Root, .int .i64 t30.2.Size, .slice a32 (List.length t30.2.Puts) c33]), (12, OwnS kU8 a37 c38 t35), (13, OwnS kU8 a41 c42 t39), (14, OwnS kTChange a45 c46 t43.1.Puts), (15, Box b47 [.int .i64 t43.1.Seq, .int .i64 t43.1.Root, .int .i64 t43.1.Size, .slice a45 (List.length t43.1.Puts) c46]), (16, OwnS kTChange a50 c51 t48.Puts), (17, Box b52 [.int .i64 t48.Seq, .int .i64 t48.Root, .int .i64 t48.Size, .slice a50 (List.length t48.Puts) c51]), (18, OwnS kU8 g53.1 g53.2 t54)] ?_ ?_
          · rcases Bool.eq_false_or_eq_true (!t16.2) with hg83 | hg83
            · refine HQ.off rfl rfl hg83 rfl ?_
              refine HQ.off rfl rfl hg83 rfl ?_
              refine HQ.off rfl rfl hg83 rfl ?_
              refine HQ.off rfl rfl hg83 rfl ?_
              refine HQ.off rfl rfl hg83 rfl ?_
              refine HQ.on rfl rfl hg82 ?_
              refine HQ.pu (Pu.pickOT (u := (!decide (t16.1.Page = t3.2.Page))) hg83) ⟨rfl, rfl, trivial⟩ rfl rfl rfl ?_
              exact HQ.mid ⟨rfl, rfl, rfl, rfl, rfl, rfl, rfl, rfl, rfl, rfl, rfl, rfl, trivial⟩ ⟨rfl, rfl, rfl, rfl, rfl, rfl, rfl, rfl, rfl, rfl, rfl, rfl, rfl, rfl, rfl, rfl, rfl, rfl, trivial⟩ rfl
            · refine HQ.on rfl rfl hg83 ?_
              refine HQ.pu (Pu.fieldB fo49_0 rfl) ⟨rfl, trivial⟩ rfl rfl rfl ?_
              refine HQ.on rfl rfl hg83 ?_
              refine HQ.op [6] [6] (OT.loadB sc3 rfl) ⟨rfl, trivial⟩ ⟨rfl, trivial⟩ rfl rfl rfl rfl (fun _ => rfl) fun _ => ?_
              refine HQ.on rfl rfl hg83 ?_
              refine HQ.pu (Pu.fieldB fo49_0 rfl) ⟨rfl, trivial⟩ rfl rfl rfl ?_
              refine HQ.on rfl rfl hg83 ?_
              refine HQ.op [2] [2] (OT.loadB sc3 rfl) ⟨rfl, trivial⟩ ⟨rfl, trivial⟩ rfl rfl rfl rfl (fun _ => rfl) fun _ => ?_
              refine HQ.on rfl rfl hg83 ?_
              refine HQ.pu Pu.neq ⟨rfl, rfl, trivial⟩ rfl rfl rfl ?_
              refine HQ.on rfl rfl hg82 ?_
              refine HQ.pu (Pu.pickOF hg83) ⟨rfl, rfl, trivial⟩ rfl rfl rfl ?_
              exact HQ.mid ⟨rfl, rfl, rfl, rfl, rfl, rfl, rfl, rfl, rfl, rfl, rfl, rfl, trivial⟩ ⟨rfl, rfl, rfl, rfl, rfl, rfl, rfl, rfl, rfl, rfl, rfl, rfl, rfl, rfl, rfl, rfl, rfl, rfl, trivial⟩ rfl
          refine HQ.on rfl rfl hg82 ?_
          refine HQ.pu Pu.move ⟨rfl, trivial⟩ rfl rfl rfl ?_
          obtain ⟨c87, h88, H⟩ := bnd H
          refine HQ.cutAt 7 [(109, .bool c87), (2, .bool false), (4, BP b7 0), (3, .int .i64 t3.1), (5, .slice a10 (List.length t8) c11), (11, BP b34 0), (12, .slice a37 (List.length t35) c38), (13, BP b47 0), (14, .int .i64 t43.2.1), (15, .bool t43.2.2), (92, .bool (decide (((List.length t8 : Nat) : Int) > 0)))] [(1, OwnS kTEntry a5 c6 t3.2.N.L), (2, Box b7 [.int .i64 t3.2.Page, .bool t3.2.N.Leaf, .slice a5 (List.length t3.2.N.L) c6]), (3, OwnS kU8 a10 c11 t8), (4, OwnS kU8 a14 c15 t12), (5, OwnS kTEntry a18 c19 t16.1.N.L), (6, Box b20 [.int .i64 t16.1.Page, .bool t16.1.N.Leaf, .slice a18 (List.length t16.1.N.L) c19]), (7, OwnS kU8 a23 c24 t21), (8, OwnS kTEntry a27 c28 t25.1.N.L), (9, Box b29 [.int .i64 t25.1.Page, .bool t25.1.N.Leaf, .slice a27 (List.length t25.1.N.L) c28]), (10, OwnS kTChange a32 c33 t30.2.Puts), (11, Box b34 [.int .i64 t30.2.Seq, .int .i64 t30.2.Root, .int .i64 t30.2.Size, .slice a32 (List.length t30.2.Puts) c33]), (12, OwnS kU8 a37 c38 t35), (13, OwnS kU8 a41 c42 t39), (14, OwnS kTChange a45 c46 t43.1.Puts), (15, Box b47 [.int .i64 t43.1.Seq, .int .i64 t43.1.Root, .int .i64 t43.1.Size, .slice a45 (List.length t43.1.Puts) c46]), (16, OwnS kTChange a50 c51 t48.Puts), (17, Box b52 [.int .i64 t48.Seq, .int .i64 t48.Root, .int .i64 t48.Size, .slice a50 (List.length t48.Puts) c51]), (18, OwnS kU8 g53.1 g53.2 t54)] ?_ ?_
          · clear H
            have H := h88
            rcases brk H with ⟨hg84, H⟩ | ⟨hg84, H⟩
            · obtain rfl := Option.some.inj H
              refine HQ.off rfl rfl hg84 rfl ?_
              refine HQ.off rfl rfl hg84 rfl ?_
              refine HQ.off rfl rfl hg84 rfl ?_
              refine HQ.off rfl rfl hg84 rfl ?_
              refine HQ.off rfl rfl hg84 rfl ?_
              refine HQ.off rfl rfl hg84 rfl ?_
              refine HQ.on rfl rfl hg82 ?_
              refine HQ.pu (Pu.pickC1 hg84) ⟨rfl, rfl, trivial⟩ rfl rfl rfl ?_
              exact HQ.mid ⟨rfl, rfl, rfl, rfl, rfl, rfl, rfl, rfl, rfl, rfl, rfl, trivial⟩ ⟨rfl, rfl, rfl, rfl, rfl, rfl, rfl, rfl, rfl, rfl, rfl, rfl, rfl, rfl, rfl, rfl, rfl, rfl, trivial⟩ rfl
            · refine HQ.on rfl rfl hg84 ?_
              refine HQ.pu (Pu.fieldB fo49_1 rfl) ⟨rfl, trivial⟩ rfl rfl rfl ?_
              refine HQ.on rfl rfl hg84 ?_
              refine HQ.op [6] [6] (OT.loadBA (vs := [.bool t16.1.N.Leaf, .slice a18 (List.length t16.1.N.L) c19]) ag47 sz47 rfl rfl) ⟨rfl, trivial⟩ ⟨rfl, trivial⟩ rfl rfl rfl rfl (fun _ => rfl) fun _ => ?_
              refine HQ.on rfl rfl hg84 ?_
              refine HQ.pu (Pu.fieldB fo49_1 rfl) ⟨rfl, trivial⟩ rfl rfl rfl ?_
              refine HQ.on rfl rfl hg84 ?_
              refine HQ.op [2] [2] (OT.loadBA (vs := [.bool t3.2.N.Leaf, .slice a5 (List.length t3.2.N.L) c6]) ag47 sz47 rfl rfl) ⟨rfl, trivial⟩ ⟨rfl, trivial⟩ rfl rfl rfl rfl (fun _ => rfl) fun _ => ?_
              refine HQ.on rfl rfl hg84 ?_
              obtain ⟨t85, h86, H⟩ := bnd H
              refine HQ.op [5, 1] [5, 1] (OT.call (us := [_, _]) (Pre := [OwnS kTEntry a18 c19 t16.1.N.L, OwnS kTEntry a5 c6 t3.2.N.L]) [.tmp 104, .tmp 106] Try.call37 rfl rfl fun w F hs hF hp => impl_SameNode_c (p0 := t16.1.N) (p1 := t3.2.N) (hs.lend hF 0 rfl) (hs.lend hF 1 rfl) h86) ⟨rfl, rfl, rfl, trivial⟩ ⟨rfl, rfl, trivial⟩ rfl rfl rfl rfl (fun _ => rfl) fun _ => ?_
              refine HQ.on rfl rfl hg84 ?_
              refine HQ.pu Pu.not ⟨rfl, trivial⟩ rfl rfl rfl ?_
              obtain rfl := Option.some.inj H
              refine HQ.on rfl rfl hg82 ?_
              refine HQ.pu (Pu.pickC0 hg84) ⟨rfl, rfl, trivial⟩ rfl rfl rfl ?_
              exact HQ.mid ⟨rfl, rfl, rfl, rfl, rfl, rfl, rfl, rfl, rfl, rfl, rfl, trivial⟩ ⟨rfl, rfl, rfl, rfl, rfl, rfl, rfl, rfl, rfl, rfl, rfl, rfl, rfl, rfl, rfl, rfl, rfl, rfl, trivial⟩ rfl
          obtain rfl := Option.some.inj H
          refine HQ.pu (Pu.pickC1 hg82) ⟨rfl, rfl, trivial⟩ rfl rfl rfl ?_
          exact HQ.mid ⟨rfl, rfl, rfl, rfl, rfl, rfl, rfl, rfl, rfl, rfl, trivial⟩ ⟨rfl, rfl, rfl, rfl, rfl, rfl, rfl, rfl, rfl, rfl, rfl, rfl, rfl, rfl, rfl, rfl, rfl, rfl, trivial⟩ rfl
        · obtain rfl := Option.some.inj H
          refine HQ.off rfl rfl hg82 rfl ?_
          refine HQ.off rfl rfl hg82 rfl ?_
          refine HQ.off rfl rfl hg82 rfl ?_
          refine HQ.offU rfl rfl rfl ?_
          refine HQ.offU rfl rfl rfl ?_
          refine HQ.offU rfl rfl rfl ?_
          refine HQ.offU rfl rfl rfl ?_
          refine HQ.offU rfl rfl rfl ?_
          refine HQ.off rfl rfl hg82 rfl ?_
          refine HQ.off rfl rfl hg82 rfl ?_
          refine HQ.offU rfl rfl rfl ?_
          refine HQ.offU rfl rfl rfl ?_
          refine HQ.offU rfl rfl rfl ?_
          refine HQ.offU rfl rfl rfl ?_
          refine HQ.offU rfl rfl rfl ?_
          refine HQ.offU rfl rfl rfl ?_
          refine HQ.off rfl rfl hg82 rfl ?_
          refine HQ.pu (Pu.pickC0 hg82) ⟨rfl, rfl, trivial⟩ rfl rfl rfl ?_
          exact HQ.mid ⟨rfl, rfl, rfl, rfl, rfl, rfl, rfl, rfl, rfl, rfl, trivial⟩ ⟨rfl, rfl, rfl, rfl, rfl, rfl, rfl, rfl, rfl, rfl, rfl, rfl, rfl, rfl, rfl, rfl, rfl, rfl, trivial⟩ rfl
      refine HQ.done ?_
      refine HQ.keep [(110, _), (2, _), (4, _), (3, _), (5, _), (11, _), (12, _), (13, _), (14, _), (15, _)] ⟨rfl, rfl, rfl, rfl, rfl, rfl, rfl, rfl, rfl, rfl, trivial⟩ ?_
      rcases brk H with ⟨hc, H⟩ | ⟨hc, H⟩
      · refine HQ.condT rfl hc ?_
        clear hc
        refine HQ.rseq ?_
        refine HQ.pu Pu.assign ⟨rfl, trivial⟩ rfl rfl rfl ?_
        refine HQ.done ?_
        refine HQ.keep [(2, _), (4, _), (3, _), (5, _), (11, _), (12, _), (13, _), (14, _), (15, _)] ⟨rfl, rfl, rfl, rfl, rfl, rfl, rfl, rfl, rfl, trivial⟩ ?_
        refine HQ.ret ?_
        refine HQ.thenR ?_
        obtain rfl := Option.some.inj H
        exact HQ.fin (vs := [_]) Try.results4 () ⟨rfl, trivial⟩ rfl [] trivial rfl
      · refine HQ.condF rfl hc ?_
        clear hc
        refine HQ.skipThen ?_
        refine HQ.rseq ?_
        refine HQ.pu Pu.move ⟨rfl, trivial⟩ rfl rfl rfl ?_
        refine HQ.pu (Pu.len ul22) ⟨rfl, trivial⟩ rfl rfl rfl ?_
        refine HQ.pu Pu.gtr ⟨rfl, rfl, trivial⟩ rfl rfl rfl ?_
        refine HQ.pu Pu.move ⟨rfl, trivial⟩ rfl rfl rfl ?_
        refine HQ.pu Pu.geq ⟨rfl, rfl, trivial⟩ rfl rfl rfl ?_
        refine HQ.pu Pu.move ⟨rfl, trivial⟩ rfl rfl rfl ?_
        refine HQ.cutAt 3 [(119, .bool ((decide (t3.1 ≥ 0)) && (decide (t3.1 ≤ 65535)))), (2, .bool false), (4, BP b7 0), (11, BP b34 0), (12, .slice a37 (List.length t35) c38), (13, BP b47 0), (14, .int .i64 t43.2.1), (15, .bool t43.2.2), (113, .bool (decide (((List.length t8 : Nat) : Int) > 0)))] [(1, OwnS kTEntry a5 c6 t3.2.N.L), (2, Box b7 [.int .i64 t3.2.Page, .bool t3.2.N.Leaf, .slice a5 (List.length t3.2.N.L) c6]), (3, OwnS kU8 a10 c11 t8), (4, OwnS kU8 a14 c15 t12), (5, OwnS kTEntry a18 c19 t16.1.N.L), (6, Box b20 [.int .i64 t16.1.Page, .bool t16.1.N.Leaf, .slice a18 (List.length t16.1.N.L) c19]), (7, OwnS kU8 a23 c24 t21), (8, OwnS kTEntry a27 c28 t25.1.N.L), (9, Box b29 [.int .i64 t25.1.Page, .bool t25.1.N.Leaf, .slice a27 (List.length t25.1.N.L) c28]), (10, OwnS kTChange a32 c33 t30.2.Puts), (11, Box b34 [.int .i64 t30.2.Seq, .int .i64 t30.2.Root, .int .i64 t30.2.Size, .slice a32 (List.length t30.2.Puts) c33]), (12, OwnS kU8 a37 c38 t35), (13, OwnS kU8 a41 c42 t39), (14, OwnS kTChange a45 c46 t43.1.Puts), (15, Box b47 [.int .i64 t43.1.Seq, .int .i64 t43.1.Root, .int .i64 t43.1.Size, .slice a45 (List.length t43.1.Puts) c46]), (16, OwnS kTChange a50 c51 t48.Puts), (17, Box b52 [.int .i64 t48.Seq, .int .i64 t48.Root, .int .i64 t48.Size, .slice a50 (List.length t48.Puts) c51]), (18, OwnS kU8 g53.1 g53.2 t54)] ?_ ?_
        · rcases Bool.eq_false_or_eq_true (decide (t3.1 ≥ 0)) with hg91 | hg91
          · refine HQ.on rfl rfl hg91 ?_
            refine HQ.pu Pu.move ⟨rfl, trivial⟩ rfl rfl rfl ?_
            refine HQ.on rfl rfl hg91 ?_
            refine HQ.pu Pu.leq ⟨rfl, rfl, trivial⟩ rfl rfl rfl ?_
            refine HQ.pu (Pu.pickAT hg91) ⟨rfl, rfl, trivial⟩ rfl rfl rfl ?_
            exact HQ.mid ⟨rfl, rfl, rfl, rfl, rfl, rfl, rfl, rfl, rfl, trivial⟩ ⟨rfl, rfl, rfl, rfl, rfl, rfl, rfl, rfl, rfl, rfl, rfl, rfl, rfl, rfl, rfl, rfl, rfl, rfl, trivial⟩ rfl
          · refine HQ.off rfl rfl hg91 rfl ?_
            refine HQ.off rfl rfl hg91 rfl ?_
            refine HQ.pu (Pu.pickAF (u := (decide (t3.1 ≤ 65535))) hg91) ⟨rfl, rfl, trivial⟩ rfl rfl rfl ?_
            exact HQ.mid ⟨rfl, rfl, rfl, rfl, rfl, rfl, rfl, rfl, rfl, trivial⟩ ⟨rfl, rfl, rfl, rfl, rfl, rfl, rfl, rfl, rfl, rfl, rfl, rfl, rfl, rfl, rfl, rfl, rfl, rfl, trivial⟩ rfl
        refine HQ.pu Pu.move ⟨rfl, trivial⟩ rfl rfl rfl ?_
        refine HQ.cutAt 4 [(124, .bool (((decide (t3.1 ≥ 0)) && (decide (t3.1 ≤ 65535))) && (decide (t3.2.Page ≥ 0)))), (2, .bool false), (4, BP b7 0), (11, BP b34 0), (12, .slice a37 (List.length t35) c38), (13, BP b47 0), (14, .int .i64 t43.2.1), (15, .bool t43.2.2), (113, .bool (decide (((List.length t8 : Nat) : Int) > 0)))] [(1, OwnS kTEntry a5 c6 t3.2.N.L), (2, Box b7 [.int .i64 t3.2.Page, .bool t3.2.N.Leaf, .slice a5 (List.length t3.2.N.L) c6]), (3, OwnS kU8 a10 c11 t8), (4, OwnS kU8 a14 c15 t12), (5, OwnS kTEntry a18 c19 t16.1.N.L), (6, Box b20 [.int .i64 t16.1.Page, .bool t16.1.N.Leaf, .slice a18 (List.length t16.1.N.L) c19]), (7, OwnS kU8 a23 c24 t21), (8, OwnS kTEntry a27 c28 t25.1.N.L), (9, Box b29 [.int .i64 t25.1.Page, .bool t25.1.N.Leaf, .slice a27 (List.length t25.1.N.L) c28]), (10, OwnS kTChange a32 c33 t30.2.Puts), (11, Box b34 [.int .i64 t30.2.Seq, .int .i64 t30.2.Root, .int .i64 t30.2.Size, .slice a32 (List.length t30.2.Puts) c33]), (12, OwnS kU8 a37 c38 t35), (13, OwnS kU8 a41 c42 t39), (14, OwnS kTChange a45 c46 t43.1.Puts), (15, Box b47 [.int .i64 t43.1.Seq, .int .i64 t43.1.Root, .int .i64 t43.1.Size, .slice a45 (List.length t43.1.Puts) c46]), (16, OwnS kTChange a50 c51 t48.Puts), (17, Box b52 [.int .i64 t48.Seq, .int .i64 t48.Root, .int .i64 t48.Size, .slice a50 (List.length t48.Puts) c51]), (18, OwnS kU8 g53.1 g53.2 t54)] ?_ ?_
        · rcases Bool.eq_false_or_eq_true ((decide (t3.1 ≥ 0)) && (decide (t3.1 ≤ 65535))) with hg92 | hg92
          · refine HQ.on rfl rfl hg92 ?_
            refine HQ.pu (Pu.fieldB fo49_0 rfl) ⟨rfl, trivial⟩ rfl rfl rfl ?_
            refine HQ.on rfl rfl hg92 ?_
            refine HQ.op [2] [2] (OT.loadB sc3 rfl) ⟨rfl, trivial⟩ ⟨rfl, trivial⟩ rfl rfl rfl rfl (fun _ => rfl) fun _ => ?_
            refine HQ.on rfl rfl hg92 ?_
            refine HQ.pu Pu.geq ⟨rfl, rfl, trivial⟩ rfl rfl rfl ?_
            refine HQ.pu (Pu.pickAT hg92) ⟨rfl, rfl, trivial⟩ rfl rfl rfl ?_
            exact HQ.mid ⟨rfl, rfl, rfl, rfl, rfl, rfl, rfl, rfl, rfl, trivial⟩ ⟨rfl, rfl, rfl, rfl, rfl, rfl, rfl, rfl, rfl, rfl, rfl, rfl, rfl, rfl, rfl, rfl, rfl, rfl, trivial⟩ rfl
          · refine HQ.off rfl rfl hg92 rfl ?_
            refine HQ.off rfl rfl hg92 rfl ?_
            refine HQ.off rfl rfl hg92 rfl ?_
            refine HQ.pu (Pu.pickAF (u := (decide (t3.2.Page ≥ 0))) hg92) ⟨rfl, rfl, trivial⟩ rfl rfl rfl ?_
            exact HQ.mid ⟨rfl, rfl, rfl, rfl, rfl, rfl, rfl, rfl, rfl, trivial⟩ ⟨rfl, rfl, rfl, rfl, rfl, rfl, rfl, rfl, rfl, rfl, rfl, rfl, rfl, rfl, rfl, rfl, rfl, rfl, trivial⟩ rfl
        refine HQ.pu Pu.move ⟨rfl, trivial⟩ rfl rfl rfl ?_
        refine HQ.cutAt 4 [(129, .bool ((((decide (t3.1 ≥ 0)) && (decide (t3.1 ≤ 65535))) && (decide (t3.2.Page ≥ 0))) && (decide (t3.2.Page < 48)))), (2, .bool false), (4, BP b7 0), (11, BP b34 0), (12, .slice a37 (List.length t35) c38), (13, BP b47 0), (14, .int .i64 t43.2.1), (15, .bool t43.2.2), (113, .bool (decide (((List.length t8 : Nat) : Int) > 0)))] [(1, OwnS kTEntry a5 c6 t3.2.N.L), (2, Box b7 [.int .i64 t3.2.Page, .bool t3.2.N.Leaf, .slice a5 (List.length t3.2.N.L) c6]), (3, OwnS kU8 a10 c11 t8), (4, OwnS kU8 a14 c15 t12), (5, OwnS kTEntry a18 c19 t16.1.N.L), (6, Box b20 [.int .i64 t16.1.Page, .bool t16.1.N.Leaf, .slice a18 (List.length t16.1.N.L) c19]), (7, OwnS kU8 a23 c24 t21), (8, OwnS kTEntry a27 c28 t25.1.N.L), (9, Box b29 [.int .i64 t25.1.Page, .bool t25.1.N.Leaf, .slice a27 (List.length t25.1.N.L) c28]), (10, OwnS kTChange a32 c33 t30.2.Puts), (11, Box b34 [.int .i64 t30.2.Seq, .int .i64 t30.2.Root, .int .i64 t30.2.Size, .slice a32 (List.length t30.2.Puts) c33]), (12, OwnS kU8 a37 c38 t35), (13, OwnS kU8 a41 c42 t39), (14, OwnS kTChange a45 c46 t43.1.Puts), (15, Box b47 [.int .i64 t43.1.Seq, .int .i64 t43.1.Root, .int .i64 t43.1.Size, .slice a45 (List.length t43.1.Puts) c46]), (16, OwnS kTChange a50 c51 t48.Puts), (17, Box b52 [.int .i64 t48.Seq, .int .i64 t48.Root, .int .i64 t48.Size, .slice a50 (List.length t48.Puts) c51]), (18, OwnS kU8 g53.1 g53.2 t54)] ?_ ?_
        · rcases Bool.eq_false_or_eq_true (((decide (t3.1 ≥ 0)) && (decide (t3.1 ≤ 65535))) && (decide (t3.2.Page ≥ 0))) with hg93 | hg93
          · refine HQ.on rfl rfl hg93 ?_
            refine HQ.pu (Pu.fieldB fo49_0 rfl) ⟨rfl, trivial⟩ rfl rfl rfl ?_
            refine HQ.on rfl rfl hg93 ?_
            refine HQ.op [2] [2] (OT.loadB sc3 rfl) ⟨rfl, trivial⟩ ⟨rfl, trivial⟩ rfl rfl rfl rfl (fun _ => rfl) fun _ => ?_
            refine HQ.on rfl rfl hg93 ?_
            refine HQ.pu Pu.lss ⟨rfl, rfl, trivial⟩ rfl rfl rfl ?_
            refine HQ.pu (Pu.pickAT hg93) ⟨rfl, rfl, trivial⟩ rfl rfl rfl ?_
            exact HQ.mid ⟨rfl, rfl, rfl, rfl, rfl, rfl, rfl, rfl, rfl, trivial⟩ ⟨rfl, rfl, rfl, rfl, rfl, rfl, rfl, rfl, rfl, rfl, rfl, rfl, rfl, rfl, rfl, rfl, rfl, rfl, trivial⟩ rfl
          · refine HQ.off rfl rfl hg93 rfl ?_
            refine HQ.off rfl rfl hg93 rfl ?_
            refine HQ.off rfl rfl hg93 rfl ?_
            refine HQ.pu (Pu.pickAF (u := (decide (t3.2.Page < 48))) hg93) ⟨rfl, rfl, trivial⟩ rfl rfl rfl ?_
            exact HQ.mid ⟨rfl, rfl, rfl, rfl, rfl, rfl, rfl, rfl, rfl, trivial⟩ ⟨rfl, rfl, rfl, rfl, rfl, rfl, rfl, rfl, rfl, rfl, rfl, rfl, rfl, rfl, rfl, rfl, rfl, rfl, trivial⟩ rfl
        refine HQ.pu Pu.move ⟨rfl, trivial⟩ rfl rfl rfl ?_
        obtain ⟨c97, h98, H⟩ := bnd H
        refine HQ.cutAt 4 [(134, .bool c97), (2, .bool false), (4, BP b7 0), (11, BP b34 0), (12, .slice a37 (List.length t35) c38), (13, BP b47 0), (14, .int .i64 t43.2.1), (15, .bool t43.2.2), (113, .bool (decide (((List.length t8 : Nat) : Int) > 0)))] [(1, OwnS kTEntry a5 c6 t3.2.N.L), (2, Box b7 [.int .i64 t3.2.Page, .bool t3.2.N.Leaf, .slice a5 (List.length t3.2.N.L) c6]), (3, OwnS kU8 a10 c11 t8), (4, OwnS kU8 a14 c15 t12), (5, OwnS kTEntry a18 c19 t16.1.N.L), (6, Box b20 [.int .i64 t16.1.Page, .bool t16.1.N.Leaf, .slice a18 (List.length t16.1.N.L) c19]), (7, OwnS kU8 a23 c24 t21), (8, OwnS kTEntry a27 c28 t25.1.N.L), (9, Box b29 [.int .i64 t25.1.Page, .bool t25.1.N.Leaf, .slice a27 (List.length t25.1.N.L) c28]), (10, OwnS kTChange a32 c33 t30.2.Puts), (11, Box b34 [.int .i64 t30.2.Seq, .int .i64 t30.2.Root, .int .i64 t30.2.Size, .slice a32 (List.length t30.2.Puts) c33]), (12, OwnS kU8 a37 c38 t35), (13, OwnS kU8 a41 c42 t39), (14, OwnS kTChange a45 c46 t43.1.Puts), (15, Box b47 [.int .i64 t43.1.Seq, .int .i64 t43.1.Root, .int .i64 t43.1.Size, .slice a45 (List.length t43.1.Puts) c46]), (16, OwnS kTChange a50 c51 t48.Puts), (17, Box b52 [.int .i64 t48.Seq, .int .i64 t48.Root, .int .i64 t48.Size, .slice a50 (List.length t48.Puts) c51]), (18, OwnS kU8 g53.1 g53.2 t54)] ?_ ?_
        · clear H
          have H := h98
          rcases brk H with ⟨hg94, H⟩ | ⟨hg94, H⟩
          · refine HQ.on rfl rfl hg94 ?_
            refine HQ.pu (Pu.fieldB fo49_1 rfl) ⟨rfl, trivial⟩ rfl rfl rfl ?_
            refine HQ.on rfl rfl hg94 ?_
            refine HQ.op [2] [2] (OT.loadBA (vs := [.bool t3.2.N.Leaf, .slice a5 (List.length t3.2.N.L) c6]) ag47 sz47 rfl rfl) ⟨rfl, trivial⟩ ⟨rfl, trivial⟩ rfl rfl rfl rfl (fun _ => rfl) fun _ => ?_
            refine HQ.on rfl rfl hg94 ?_
            obtain ⟨t95, h96, H⟩ := bnd H
            refine HQ.op [1] [1] (OT.call (us := [_]) (Pre := [OwnS kTEntry a5 c6 t3.2.N.L]) [.tmp 132] Try.call38 rfl rfl fun w F hs hF hp => impl_NodeOk_c (hs.lend hF 0 rfl) h96) ⟨rfl, rfl, trivial⟩ ⟨rfl, trivial⟩ rfl rfl rfl rfl (fun _ => rfl) fun _ => ?_
            obtain rfl := Option.some.inj H
            refine HQ.pu (Pu.pickC1 hg94) ⟨rfl, rfl, trivial⟩ rfl rfl rfl ?_
            exact HQ.mid ⟨rfl, rfl, rfl, rfl, rfl, rfl, rfl, rfl, rfl, trivial⟩ ⟨rfl, rfl, rfl, rfl, rfl, rfl, rfl, rfl, rfl, rfl, rfl, rfl, rfl, rfl, rfl, rfl, rfl, rfl, trivial⟩ rfl
          · obtain rfl := Option.some.inj H
            refine HQ.off rfl rfl hg94 rfl ?_
            refine HQ.off rfl rfl hg94 rfl ?_
            refine HQ.off rfl rfl hg94 rfl ?_
            refine HQ.pu (Pu.pickC0 hg94) ⟨rfl, rfl, trivial⟩ rfl rfl rfl ?_
            exact HQ.mid ⟨rfl, rfl, rfl, rfl, rfl, rfl, rfl, rfl, rfl, trivial⟩ ⟨rfl, rfl, rfl, rfl, rfl, rfl, rfl, rfl, rfl, rfl, rfl, rfl, rfl, rfl, rfl, rfl, rfl, rfl, trivial⟩ rfl
        refine HQ.pu (Pu.eqlB ul4) ⟨rfl, rfl, trivial⟩ rfl rfl rfl ?_
        refine HQ.pu Pu.move ⟨rfl, trivial⟩ rfl rfl rfl ?_
        refine HQ.cutAt 35 [(171, .bool (((decide (((List.length t8 : Nat) : Int) > 0)) == c97) && ((decide (((List.length t35 : Nat) : Int) = 0)) || ((((t43.2.2 && (decide (t43.2.1 = ((List.length t30.2.Puts : Nat) : Int)))) && (decide (t43.1.Seq = t30.2.Seq))) && (decide (t43.1.Root = t30.2.Root))) && (decide (t43.1.Size = t30.2.Size)))))), (2, .bool false), (4, BP b7 0)] [(1, OwnS kTEntry a5 c6 t3.2.N.L), (2, Box b7 [.int .i64 t3.2.Page, .bool t3.2.N.Leaf, .slice a5 (List.length t3.2.N.L) c6]), (3, OwnS kU8 a10 c11 t8), (4, OwnS kU8 a14 c15 t12), (5, OwnS kTEntry a18 c19 t16.1.N.L), (6, Box b20 [.int .i64 t16.1.Page, .bool t16.1.N.Leaf, .slice a18 (List.length t16.1.N.L) c19]), (7, OwnS kU8 a23 c24 t21), (8, OwnS kTEntry a27 c28 t25.1.N.L), (9, Box b29 [.int .i64 t25.1.Page, .bool t25.1.N.Leaf, .slice a27 (List.length t25.1.N.L) c28]), (10, OwnS kTChange a32 c33 t30.2.Puts), (11, Box b34 [.int .i64 t30.2.Seq, .int .i64 t30.2.Root, .int .i64 t30.2.Size, .slice a32 (List.length t30.2.Puts) c33]), (12, OwnS kU8 a37 c38 t35), (13, OwnS kU8 a41 c42 t39), (14, OwnS kTChange a45 c46 t43.1.Puts), (15, Box b47 [.int .i64 t43.1.Seq, .int .i64 t43.1.Root, .int .i64 t43.1.Size, .slice a45 (List.length t43.1.Puts) c46]), (16, OwnS kTChange a50 c51 t48.Puts), (17, Box b52 [.int .i64 t48.Seq, .int .i64 t48.Root, .int .i64 t48.Size, .slice a50 (List.length t48.Puts) c51]), (18, OwnS kU8 g53.1 g53.2 t54)] ?_ ?_
        · rcases Bool.eq_false_or_eq_true ((decide (((List.length t8 : Nat) : Int) > 0)) == c97) with hg99 | hg99
          · refine HQ.on rfl rfl hg99 ?_
            refine HQ.pu Pu.move ⟨rfl, trivial⟩ rfl rfl rfl ?_
            refine HQ.on rfl rfl hg99 ?_
            refine HQ.pu (Pu.len ul22) ⟨rfl, trivial⟩ rfl rfl rfl ?_
            refine HQ.on rfl rfl hg99 ?_
            refine HQ.pu Pu.eql ⟨rfl, rfl, trivial⟩ rfl rfl rfl ?_
            refine HQ.on rfl rfl hg99 ?_
            refine HQ.pu Pu.move ⟨rfl, trivial⟩ rfl rfl rfl ?_
            refine HQ.cutAt 30 [(170, .bool ((decide (((List.length t35 : Nat) : Int) = 0)) || ((((t43.2.2 && (decide (t43.2.1 = ((List.length t30.2.Puts : Nat) : Int)))) && (decide (t43.1.Seq = t30.2.Seq))) && (decide (t43.1.Root = t30.2.Root))) && (decide (t43.1.Size = t30.2.Size))))), (2, .bool false), (4, BP b7 0), (136, .bool ((decide (((List.length t8 : Nat) : Int) > 0)) == c97))] [(1, OwnS kTEntry a5 c6 t3.2.N.L), (2, Box b7 [.int .i64 t3.2.Page, .bool t3.2.N.Leaf, .slice a5 (List.length t3.2.N.L) c6]), (3, OwnS kU8 a10 c11 t8), (4, OwnS kU8 a14 c15 t12), (5, OwnS kTEntry a18 c19 t16.1.N.L), (6, Box b20 [.int .i64 t16.1.Page, .bool t16.1.N.Leaf, .slice a18 (List.length t16.1.N.L) c19]), (7, OwnS kU8 a23 c24 t21), (8, OwnS kTEntry a27 c28 t25.1.N.L), (9, Box b29 [.int .i64 t25.1.Page, .bool t25.1.N.Leaf, .slice a27 (List.length t25.1.N.L) c28]), (10, OwnS kTChange a32 c33 t30.2.Puts), (11, Box b34 [.int .i64 t30.2.Seq, .int .i64 t30.2.Root, .int .i64 t30.2.Size, .slice a32 (List.length t30.2.Puts) c33]), (12, OwnS kU8 a37 c38 t35), (13, OwnS kU8 a41 c42 t39), (14, OwnS kTChange a45 c46 t43.1.Puts), (15, Box b47 [.int .i64 t43.1.Seq, .int .i64 t43.1.Root, .int .i64 t43.1.Size, .slice a45 (List.length t43.1.Puts) c46]), (16, OwnS kTChange a50 c51 t48.Puts), (17, Box b52 [.int .i64 t48.Seq, .int .i64 t48.Root, .int .i64 t48.Size, .slice a50 (List.length t48.Puts) c51]), (18, OwnS kU8 g53.1 g53.2 t54)] ?_ ?_
            · rcases Bool.eq_false_or_eq_true (decide (((List.length t35 : Nat) : Int) = 0)) with hg100 | hg100
              · refine HQ.off rfl rfl hg100 rfl ?_
                refine HQ.off rfl rfl hg100 rfl ?_
                refine HQ.offU rfl rfl rfl ?_
                refine HQ.offU rfl rfl rfl ?_
                refine HQ.offU rfl rfl rfl ?_
                refine HQ.offU rfl rfl rfl ?_
                refine HQ.offU rfl rfl rfl ?_
                refine HQ.off rfl rfl hg100 rfl ?_
                refine HQ.off rfl rfl hg100 rfl ?_
                refine HQ.offU rfl rfl rfl ?_
                refine HQ.offU rfl rfl rfl ?_
                refine HQ.offU rfl rfl rfl ?_
                refine HQ.offU rfl rfl rfl ?_
                refine HQ.offU rfl rfl rfl ?_
                refine HQ.off rfl rfl hg100 rfl ?_
                refine HQ.off rfl rfl hg100 rfl ?_
                refine HQ.offU rfl rfl rfl ?_
                refine HQ.offU rfl rfl rfl ?_
                refine HQ.offU rfl rfl rfl ?_
                refine HQ.offU rfl rfl rfl ?_
                refine HQ.offU rfl rfl rfl ?_
                refine HQ.off rfl rfl hg100 rfl ?_
                refine HQ.off rfl rfl hg100 rfl ?_
                refine HQ.offU rfl rfl rfl ?_
                refine HQ.offU rfl rfl rfl ?_
                refine HQ.offU rfl rfl rfl ?_
                refine HQ.offU rfl rfl rfl ?_
                refine HQ.offU rfl rfl rfl ?_
                refine HQ.off rfl rfl hg100 rfl ?_
                refine HQ.on rfl rfl hg99 ?_
                refine HQ.pu (Pu.pickOT (u := ((((t43.2.2 && (decide (t43.2.1 = ((List.length t30.2.Puts : Nat) : Int)))) && (decide (t43.1.Seq = t30.2.Seq))) && (decide (t43.1.Root = t30.2.Root))) && (decide (t43.1.Size = t30.2.Size)))) hg100) ⟨rfl, rfl, trivial⟩ rfl rfl rfl ?_
                exact HQ.mid ⟨rfl, rfl, rfl, rfl, trivial⟩ ⟨rfl, rfl, rfl, rfl, rfl, rfl, rfl, rfl, rfl, rfl, rfl, rfl, rfl, rfl, rfl, rfl, rfl, rfl, trivial⟩ rfl
              · refine HQ.on rfl rfl hg100 ?_
                refine HQ.pu Pu.move ⟨rfl, trivial⟩ rfl rfl rfl ?_
                refine HQ.on rfl rfl hg100 ?_
                refine HQ.pu Pu.move ⟨rfl, trivial⟩ rfl rfl rfl ?_
                refine HQ.cutAt 6 [(148, .bool (t43.2.2 && (decide (t43.2.1 = ((List.length t30.2.Puts : Nat) : Int))))), (2, .bool false), (4, BP b7 0), (11, BP b34 0), (13, BP b47 0), (136, .bool ((decide (((List.length t8 : Nat) : Int) > 0)) == c97)), (140, .bool (decide (((List.length t35 : Nat) : Int) = 0)))] [(1, OwnS kTEntry a5 c6 t3.2.N.L), (2, Box b7 [.int .i64 t3.2.Page, .bool t3.2.N.Leaf, .slice a5 (List.length t3.2.N.L) c6]), (3, OwnS kU8 a10 c11 t8), (4, OwnS kU8 a14 c15 t12), (5, OwnS kTEntry a18 c19 t16.1.N.L), (6, Box b20 [.int .i64 t16.1.Page, .bool t16.1.N.Leaf, .slice a18 (List.length t16.1.N.L) c19]), (7, OwnS kU8 a23 c24 t21), (8, OwnS kTEntry a27 c28 t25.1.N.L), (9, Box b29 [.int .i64 t25.1.Page, .bool t25.1.N.Leaf, .slice a27 (List.length t25.1.N.L) c28]), (10, OwnS kTChange a32 c33 t30.2.Puts), (11, Box b34 [.int .i64 t30.2.Seq, .int .i64 t30.2.Root, .int .i64 t30.2.Size, .slice a32 (List.length t30.2.Puts) c33]), (12, OwnS kU8 a37 c38 t35), (13, OwnS kU8 a41 c42 t39), (14, OwnS kTChange a45 c46 t43.1.Puts), (15, Box b47 [.int .i64 t43.1.Seq, .int .i64 t43.1.Root, .int .i64 t43.1.Size, .slice a45 (List.length t43.1.Puts) c46]), (16, OwnS kTChange a50 c51 t48.Puts), (17, Box b52 [.int .i64 t48.Seq, .int .i64 t48.Root, .int .i64 t48.Size, .slice a50 (List.length t48.Puts) c51]), (18, OwnS kU8 g53.1 g53.2 t54)] ?_ ?_
                · rcases Bool.eq_false_or_eq_true t43.2.2 with hg101 | hg101
                  · refine HQ.on rfl rfl hg101 ?_
                    refine HQ.pu Pu.move ⟨rfl, trivial⟩ rfl rfl rfl ?_
                    refine HQ.on rfl rfl hg101 ?_
                    refine HQ.pu (Pu.fieldB fo57_3 rfl) ⟨rfl, trivial⟩ rfl rfl rfl ?_
                    refine HQ.on rfl rfl hg101 ?_
                    refine HQ.op [11] [11] (OT.loadB sc55 rfl) ⟨rfl, trivial⟩ ⟨rfl, trivial⟩ rfl rfl rfl rfl (fun _ => rfl) fun _ => ?_
                    refine HQ.on rfl rfl hg101 ?_
                    refine HQ.pu (Pu.len ul55) ⟨rfl, trivial⟩ rfl rfl rfl ?_
                    refine HQ.on rfl rfl hg101 ?_
                    refine HQ.pu Pu.eql ⟨rfl, rfl, trivial⟩ rfl rfl rfl ?_
                    refine HQ.on rfl rfl hg100 ?_
                    refine HQ.pu (Pu.pickAT hg101) ⟨rfl, rfl, trivial⟩ rfl rfl rfl ?_
                    exact HQ.mid ⟨rfl, rfl, rfl, rfl, rfl, rfl, rfl, trivial⟩ ⟨rfl, rfl, rfl, rfl, rfl, rfl, rfl, rfl, rfl, rfl, rfl, rfl, rfl, rfl, rfl, rfl, rfl, rfl, trivial⟩ rfl
                  · refine HQ.off rfl rfl hg101 rfl ?_
                    refine HQ.off rfl rfl hg101 rfl ?_
                    refine HQ.off rfl rfl hg101 rfl ?_
                    refine HQ.off rfl rfl hg101 rfl ?_
                    refine HQ.off rfl rfl hg101 rfl ?_
                    refine HQ.on rfl rfl hg100 ?_
                    refine HQ.pu (Pu.pickAF (u := (decide (t43.2.1 = ((List.length t30.2.Puts : Nat) : Int)))) hg101) ⟨rfl, rfl, trivial⟩ rfl rfl rfl ?_
                    exact HQ.mid ⟨rfl, rfl, rfl, rfl, rfl, rfl, rfl, trivial⟩ ⟨rfl, rfl, rfl, rfl, rfl, rfl, rfl, rfl, rfl, rfl, rfl, rfl, rfl, rfl, rfl, rfl, rfl, rfl, trivial⟩ rfl
                refine HQ.on rfl rfl hg100 ?_
                refine HQ.pu Pu.move ⟨rfl, trivial⟩ rfl rfl rfl ?_
                refine HQ.cutAt 6 [(155, .bool ((t43.2.2 && (decide (t43.2.1 = ((List.length t30.2.Puts : Nat) : Int)))) && (decide (t43.1.Seq = t30.2.Seq)))), (2, .bool false), (4, BP b7 0), (11, BP b34 0), (13, BP b47 0), (136, .bool ((decide (((List.length t8 : Nat) : Int) > 0)) == c97)), (140, .bool (decide (((List.length t35 : Nat) : Int) = 0)))] [(1, OwnS kTEntry a5 c6 t3.2.N.L), (2, Box b7 [.int .i64 t3.2.Page, .bool t3.2.N.Leaf, .slice a5 (List.length t3.2.N.L) c6]), (3, OwnS kU8 a10 c11 t8), (4, OwnS kU8 a14 c15 t12), (5, OwnS kTEntry a18 c19 t16.1.N.L), (6, Box b20 [.int .i64 t16.1.Page, .bool t16.1.N.Leaf, .slice a18 (List.length t16.1.N.L) c19]), (7, OwnS kU8 a23 c24 t21), (8, OwnS kTEntry a27 c28 t25.1.N.L), (9, Box b29 [.int .i64 t25.1.Page, .bool t25.1.N.Leaf, .slice a27 (List.length t25.1.N.L) c28]), (10, OwnS kTChange a32 c33 t30.2.Puts), (11, Box b34 [.int .i64 t30.2.Seq, .int .i64 t30.2.Root, .int .i64 t30.2.Size, .slice a32 (List.length t30.2.Puts) c33]), (12, OwnS kU8 a37 c38 t35), (13, OwnS kU8 a41 c42 t39), (14, OwnS kTChange a45 c46 t43.1.Puts), (15, Box b47 [.int .i64 t43.1.Seq, .int .i64 t43.1.Root, .int .i64 t43.1.Size, .slice a45 (List.length t43.1.Puts) c46]), (16, OwnS kTChange a50 c51 t48.Puts), (17, Box b52 [.int .i64 t48.Seq, .int .i64 t48.Root, .int .i64 t48.Size, .slice a50 (List.length t48.Puts) c51]), (18, OwnS kU8 g53.1 g53.2 t54)] ?_ ?_
                · rcases Bool.eq_false_or_eq_true (t43.2.2 && (decide (t43.2.1 = ((List.length t30.2.Puts : Nat) : Int)))) with hg102 | hg102
                  · refine HQ.on rfl rfl hg102 ?_
                    refine HQ.pu (Pu.fieldB fo57_0 rfl) ⟨rfl, trivial⟩ rfl rfl rfl ?_
                    refine HQ.on rfl rfl hg102 ?_
                    refine HQ.op [15] [15] (OT.loadB sc3 rfl) ⟨rfl, trivial⟩ ⟨rfl, trivial⟩ rfl rfl rfl rfl (fun _ => rfl) fun _ => ?_
                    refine HQ.on rfl rfl hg102 ?_
                    refine HQ.pu (Pu.fieldB fo57_0 rfl) ⟨rfl, trivial⟩ rfl rfl rfl ?_
                    refine HQ.on rfl rfl hg102 ?_
                    refine HQ.op [11] [11] (OT.loadB sc3 rfl) ⟨rfl, trivial⟩ ⟨rfl, trivial⟩ rfl rfl rfl rfl (fun _ => rfl) fun _ => ?_
                    refine HQ.on rfl rfl hg102 ?_
                    refine HQ.pu Pu.eql ⟨rfl, rfl, trivial⟩ rfl rfl rfl ?_
                    refine HQ.on rfl rfl hg100 ?_
                    refine HQ.pu (Pu.pickAT hg102) ⟨rfl, rfl, trivial⟩ rfl rfl rfl ?_
                    exact HQ.mid ⟨rfl, rfl, rfl, rfl, rfl, rfl, rfl, trivial⟩ ⟨rfl, rfl, rfl, rfl, rfl, rfl, rfl, rfl, rfl, rfl, rfl, rfl, rfl, rfl, rfl, rfl, rfl, rfl, trivial⟩ rfl
                  · refine HQ.off rfl rfl hg102 rfl ?_
                    refine HQ.off rfl rfl hg102 rfl ?_
                    refine HQ.off rfl rfl hg102 rfl ?_
                    refine HQ.off rfl rfl hg102 rfl ?_
                    refine HQ.off rfl rfl hg102 rfl ?_
                    refine HQ.on rfl rfl hg100 ?_
                    refine HQ.pu (Pu.pickAF (u := (decide (t43.1.Seq = t30.2.Seq))) hg102) ⟨rfl, rfl, trivial⟩ rfl rfl rfl ?_
                    exact HQ.mid ⟨rfl, rfl, rfl, rfl, rfl, rfl, rfl, trivial⟩ ⟨rfl, rfl, rfl, rfl, rfl, rfl, rfl, rfl, rfl, rfl, rfl, rfl, rfl, rfl, rfl, rfl, rfl, rfl, trivial⟩ rfl
                refine HQ.on rfl rfl hg100 ?_
                refine HQ.pu Pu.move ⟨rfl, trivial⟩ rfl rfl rfl ?_
                refine HQ.cutAt 6 [(162, .bool (((t43.2.2 && (decide (t43.2.1 = ((List.length t30.2.Puts : Nat) : Int)))) && (decide (t43.1.Seq = t30.2.Seq))) && (decide (t43.1.Root = t30.2.Root)))), (2, .bool false), (4, BP b7 0), (11, BP b34 0), (13, BP b47 0), (136, .bool ((decide (((List.length t8 : Nat) : Int) > 0)) == c97)), (140, .bool (decide (((List.length t35 : Nat) : Int) = 0)))] [(1, OwnS kTEntry a5 c6 t3.2.N.L), (2, Box b7 [.int .i64 t3.2.Page, .bool t3.2.N.Leaf, .slice a5 (List.length t3.2.N.L) c6]), (3, OwnS kU8 a10 c11 t8), (4, OwnS kU8 a14 c15 t12), (5, OwnS kTEntry a18 c19 t16.1.N.L), (6, Box b20 [.int .i64 t16.1.Page, .bool t16.1.N.Leaf, .slice a18 (List.length t16.1.N.L) c19]), (7, OwnS kU8 a23 c24 t21), (8, OwnS kTEntry a27 c28 t25.1.N.L), (9, Box b29 [.int .i64 t25.1.Page, .bool t25.1.N.Leaf, .slice a27 (List.length t25.1.N.L) c28]), (10, OwnS kTChange a32 c33 t30.2.Puts), (11, Box b34 [.int .i64 t30.2.Seq, .int .i64 t30.2.Root, .int .i64 t30.2.Size, .slice a32 (List.length t30.2.Puts) c33]), (12, OwnS kU8 a37 c38 t35), (13, OwnS kU8 a41 c42 t39), (14, OwnS kTChange a45 c46 t43.1.Puts), (15, Box b47 [.int .i64 t43.1.Seq, .int .i64 t43.1.Root, .int .i64 t43.1.Size, .slice a45 (List.length t43.1.Puts) c46]), (16, OwnS kTChange a50 c51 t48.Puts), (17, Box b52 [.int .i64 t48.Seq, .int .i64 t48.Root, .int .i64 t48.Size, .slice a50 (List.length t48.Puts) c51]), (18, OwnS kU8 g53.1 g53.2 t54)] ?_ ?_
                · rcases Bool.eq_false_or_eq_true ((t43.2.2 && (decide (t43.2.1 = ((List.length t30.2.Puts : Nat) : Int)))) && (decide (t43.1.Seq = t30.2.Seq))) with hg103 | hg103
                  · refine HQ.on rfl rfl hg103 ?_
                    refine HQ.pu (Pu.fieldB fo57_1 rfl) ⟨rfl, trivial⟩ rfl rfl rfl ?_
                    refine HQ.on rfl rfl hg103 ?_
                    refine HQ.op [15] [15] (OT.loadB sc3 rfl) ⟨rfl, trivial⟩ ⟨rfl, trivial⟩ rfl rfl rfl rfl (fun _ => rfl) fun _ => ?_
                    refine HQ.on rfl rfl hg103 ?_
                    refine HQ.pu (Pu.fieldB fo57_1 rfl) ⟨rfl, trivial⟩ rfl rfl rfl ?_
                    refine HQ.on rfl rfl hg103 ?_
                    refine HQ.op [11] [11] (OT.loadB sc3 rfl) ⟨rfl, trivial⟩ ⟨rfl, trivial⟩ rfl rfl rfl rfl (fun _ => rfl) fun _ => ?_
                    refine HQ.on rfl rfl hg103 ?_
                    refine HQ.pu Pu.eql ⟨rfl, rfl, trivial⟩ rfl rfl rfl ?_
                    refine HQ.on rfl rfl hg100 ?_
                    refine HQ.pu (Pu.pickAT hg103) ⟨rfl, rfl, trivial⟩ rfl rfl rfl ?_
                    exact HQ.mid ⟨rfl, rfl, rfl, rfl, rfl, rfl, rfl, trivial⟩ ⟨rfl, rfl, rfl, rfl, rfl, rfl, rfl, rfl, rfl, rfl, rfl, rfl, rfl, rfl, rfl, rfl, rfl, rfl, trivial⟩ rfl
                  · refine HQ.off rfl rfl hg103 rfl ?_
                    refine HQ.off rfl rfl hg103 rfl ?_
                    refine HQ.off rfl rfl hg103 rfl ?_
                    refine HQ.off rfl rfl hg103 rfl ?_
                    refine HQ.off rfl rfl hg103 rfl ?_
                    refine HQ.on rfl rfl hg100 ?_
                    refine HQ.pu (Pu.pickAF (u := (decide (t43.1.Root = t30.2.Root))) hg103) ⟨rfl, rfl, trivial⟩ rfl rfl rfl ?_
                    exact HQ.mid ⟨rfl, rfl, rfl, rfl, rfl, rfl, rfl, trivial⟩ ⟨rfl, rfl, rfl, rfl, rfl, rfl, rfl, rfl, rfl, rfl, rfl, rfl, rfl, rfl, rfl, rfl, rfl, rfl, trivial⟩ rfl
                refine HQ.on rfl rfl hg100 ?_
                refine HQ.pu Pu.move ⟨rfl, trivial⟩ rfl rfl rfl ?_
                refine HQ.cutAt 6 [(169, .bool ((((t43.2.2 && (decide (t43.2.1 = ((List.length t30.2.Puts : Nat) : Int)))) && (decide (t43.1.Seq = t30.2.Seq))) && (decide (t43.1.Root = t30.2.Root))) && (decide (t43.1.Size = t30.2.Size)))), (2, .bool false), (4, BP b7 0), (136, .bool ((decide (((List.length t8 : Nat) : Int) > 0)) == c97)), (140, .bool (decide (((List.length t35 : Nat) : Int) = 0)))] [(1, OwnS kTEntry a5 c6 t3.2.N.L), (2, Box b7 [.int .i64 t3.2.Page, .bool t3.2.N.Leaf, .slice a5 (List.length t3.2.N.L) c6]), (3, OwnS kU8 a10 c11 t8), (4, OwnS kU8 a14 c15 t12), (5, OwnS kTEntry a18 c19 t16.1.N.L), (6, Box b20 [.int .i64 t16.1.Page, .bool t16.1.N.Leaf, .slice a18 (List.length t16.1.N.L) c19]), (7, OwnS kU8 a23 c24 t21), (8, OwnS kTEntry a27 c28 t25.1.N.L), (9, Box b29 [.int .i64 t25.1.Page, .bool t25.1.N.Leaf, .slice a27 (List.length t25.1.N.L) c28]), (10, OwnS kTChange a32 c33 t30.2.Puts), (11, Box b34 [.int .i64 t30.2.Seq, .int .i64 t30.2.Root, .int .i64 t30.2.Size, .slice a32 (List.length t30.2.Puts) c33]), (12, OwnS kU8 a37 c38 t35), (13, OwnS kU8 a41 c42 t39), (14, OwnS kTChange a45 c46 t43.1.Puts), (15, Box b47 [.int .i64 t43.1.Seq, .int .i64 t43.1.Root, .int .i64 t43.1.Size, .slice a45 (List.length t43.1.Puts) c46]), (16, OwnS kTChange a50 c51 t48.Puts), (17, Box b52 [.int .i64 t48.Seq, .int .i64 t48.Root, .int .i64 t48.Size, .slice a50 (List.length t48.Puts) c51]), (18, OwnS kU8 g53.1 g53.2 t54)] ?_ ?_
                · rcases Bool.eq_false_or_eq_true (((t43.2.2 && (decide (t43.2.1 = ((List.length t30.2.Puts : Nat) : Int)))) && (decide (t43.1.Seq = t30.2.Seq))) && (decide (t43.1.Root = t30.2.Root))) with hg104 | hg104
                  · refine HQ.on rfl rfl hg104 ?_
                    refine HQ.pu (Pu.fieldB fo57_2 rfl) ⟨rfl, trivial⟩ rfl rfl rfl ?_
                    refine HQ.on rfl rfl hg104 ?_
                    refine HQ.op [15] [15] (OT.loadB sc3 rfl) ⟨rfl, trivial⟩ ⟨rfl, trivial⟩ rfl rfl rfl rfl (fun _ => rfl) fun _ => ?_
                    refine HQ.on rfl rfl hg104 ?_
                    refine HQ.pu (Pu.fieldB fo57_2 rfl) ⟨rfl, trivial⟩ rfl rfl rfl ?_
                    refine HQ.on rfl rfl hg104 ?_
                    refine HQ.op [11] [11] (OT.loadB sc3 rfl) ⟨rfl, trivial⟩ ⟨rfl, trivial⟩ rfl rfl rfl rfl (fun _ => rfl) fun _ => ?_
                    refine HQ.on rfl rfl hg104 ?_
                    refine HQ.pu Pu.eql ⟨rfl, rfl, trivial⟩ rfl rfl rfl ?_
                    refine HQ.on rfl rfl hg100 ?_
                    refine HQ.pu (Pu.pickAT hg104) ⟨rfl, rfl, trivial⟩ rfl rfl rfl ?_
                    exact HQ.mid ⟨rfl, rfl, rfl, rfl, rfl, trivial⟩ ⟨rfl, rfl, rfl, rfl, rfl, rfl, rfl, rfl, rfl, rfl, rfl, rfl, rfl, rfl, rfl, rfl, rfl, rfl, trivial⟩ rfl
                  · refine HQ.off rfl rfl hg104 rfl ?_
                    refine HQ.off rfl rfl hg104 rfl ?_
                    refine HQ.off rfl rfl hg104 rfl ?_
                    refine HQ.off rfl rfl hg104 rfl ?_
                    refine HQ.off rfl rfl hg104 rfl ?_
                    refine HQ.on rfl rfl hg100 ?_
                    refine HQ.pu (Pu.pickAF (u := (decide (t43.1.Size = t30.2.Size))) hg104) ⟨rfl, rfl, trivial⟩ rfl rfl rfl ?_
                    exact HQ.mid ⟨rfl, rfl, rfl, rfl, rfl, trivial⟩ ⟨rfl, rfl, rfl, rfl, rfl, rfl, rfl, rfl, rfl, rfl, rfl, rfl, rfl, rfl, rfl, rfl, rfl, rfl, trivial⟩ rfl
                refine HQ.on rfl rfl hg99 ?_
                refine HQ.pu (Pu.pickOF hg100) ⟨rfl, rfl, trivial⟩ rfl rfl rfl ?_
                exact HQ.mid ⟨rfl, rfl, rfl, rfl, trivial⟩ ⟨rfl, rfl, rfl, rfl, rfl, rfl, rfl, rfl, rfl, rfl, rfl, rfl, rfl, rfl, rfl, rfl, rfl, rfl, trivial⟩ rfl
            refine HQ.pu (Pu.pickAT hg99) ⟨rfl, rfl, trivial⟩ rfl rfl rfl ?_
            exact HQ.mid ⟨rfl, rfl, rfl, trivial⟩ ⟨rfl, rfl, rfl, rfl, rfl, rfl, rfl, rfl, rfl, rfl, rfl, rfl, rfl, rfl, rfl, rfl, rfl, rfl, trivial⟩ rfl
          · refine HQ.off rfl rfl hg99 rfl ?_
            refine HQ.off rfl rfl hg99 rfl ?_
            refine HQ.off rfl rfl hg99 rfl ?_
            refine HQ.off rfl rfl hg99 rfl ?_
            refine HQ.offU rfl rfl rfl ?_
            refine HQ.offU rfl rfl rfl ?_
            refine HQ.offU rfl rfl rfl ?_
            refine HQ.offU rfl rfl rfl ?_
            refine HQ.offU rfl rfl rfl ?_
            refine HQ.offU rfl rfl rfl ?_
            refine HQ.offU rfl rfl rfl ?_
            refine HQ.offU rfl rfl rfl ?_
            refine HQ.offU rfl rfl rfl ?_
            refine HQ.offU rfl rfl rfl ?_
            refine HQ.offU rfl rfl rfl ?_
            refine HQ.offU rfl rfl rfl ?_
            refine HQ.offU rfl rfl rfl ?_
            refine HQ.offU rfl rfl rfl ?_
            refine HQ.offU rfl rfl rfl ?_
            refine HQ.offU rfl rfl rfl ?_
            refine HQ.offU rfl rfl rfl ?_
            refine HQ.offU rfl rfl rfl ?_
            refine HQ.offU rfl rfl rfl ?_
            refine HQ.offU rfl rfl rfl ?_
            refine HQ.offU rfl rfl rfl ?_
            refine HQ.offU rfl rfl rfl ?_
            refine HQ.offU rfl rfl rfl ?_
            refine HQ.offU rfl rfl rfl ?_
            refine HQ.offU rfl rfl rfl ?_
            refine HQ.offU rfl rfl rfl ?_
            refine HQ.offU rfl rfl rfl ?_
            refine HQ.offU rfl rfl rfl ?_
            refine HQ.offU rfl rfl rfl ?_
            refine HQ.off rfl rfl hg99 rfl ?_
            refine HQ.pu (Pu.pickAF (u := ((decide (((List.length t35 : Nat) : Int) = 0)) || ((((t43.2.2 && (decide (t43.2.1 = ((List.length t30.2.Puts : Nat) : Int)))) && (decide (t43.1.Seq = t30.2.Seq))) && (decide (t43.1.Root = t30.2.Root))) && (decide (t43.1.Size = t30.2.Size))))) hg99) ⟨rfl, rfl, trivial⟩ rfl rfl rfl ?_
            exact HQ.mid ⟨rfl, rfl, rfl, trivial⟩ ⟨rfl, rfl, rfl, rfl, rfl, rfl, rfl, rfl, rfl, rfl, rfl, rfl, rfl, rfl, rfl, rfl, rfl, rfl, trivial⟩ rfl
        refine HQ.pu Pu.move ⟨rfl, trivial⟩ rfl rfl rfl ?_
        obtain ⟨c108, h109, H⟩ := bnd H
        refine HQ.cutAt 6 [(178, .bool c108), (2, .bool false)] [(1, OwnS kTEntry a5 c6 t3.2.N.L), (2, Box b7 [.int .i64 t3.2.Page, .bool t3.2.N.Leaf, .slice a5 (List.length t3.2.N.L) c6]), (3, OwnS kU8 a10 c11 t8), (4, OwnS kU8 a14 c15 t12), (5, OwnS kTEntry a18 c19 t16.1.N.L), (6, Box b20 [.int .i64 t16.1.Page, .bool t16.1.N.Leaf, .slice a18 (List.length t16.1.N.L) c19]), (7, OwnS kU8 a23 c24 t21), (8, OwnS kTEntry a27 c28 t25.1.N.L), (9, Box b29 [.int .i64 t25.1.Page, .bool t25.1.N.Leaf, .slice a27 (List.length t25.1.N.L) c28]), (10, OwnS kTChange a32 c33 t30.2.Puts), (11, Box b34 [.int .i64 t30.2.Seq, .int .i64 t30.2.Root, .int .i64 t30.2.Size, .slice a32 (List.length t30.2.Puts) c33]), (12, OwnS kU8 a37 c38 t35), (13, OwnS kU8 a41 c42 t39), (14, OwnS kTChange a45 c46 t43.1.Puts), (15, Box b47 [.int .i64 t43.1.Seq, .int .i64 t43.1.Root, .int .i64 t43.1.Size, .slice a45 (List.length t43.1.Puts) c46]), (16, OwnS kTChange a50 c51 t48.Puts), (17, Box b52 [.int .i64 t48.Seq, .int .i64 t48.Root, .int .i64 t48.Size, .slice a50 (List.length t48.Puts) c51]), (18, OwnS kU8 g53.1 g53.2 t54)] ?_ ?_
        · clear H
          have H := h109
          rcases brk H with ⟨hg105, H⟩ | ⟨hg105, H⟩
          · refine HQ.on rfl rfl hg105 ?_
            refine HQ.pu (Pu.fieldB fo49_1 rfl) ⟨rfl, trivial⟩ rfl rfl rfl ?_
            refine HQ.on rfl rfl hg105 ?_
            refine HQ.op [2] [2] (OT.loadBA (vs := [.bool t3.2.N.Leaf, .slice a5 (List.length t3.2.N.L) c6]) ag47 sz47 rfl rfl) ⟨rfl, trivial⟩ ⟨rfl, trivial⟩ rfl rfl rfl rfl (fun _ => rfl) fun _ => ?_
            refine HQ.on rfl rfl hg105 ?_
            refine HQ.pu (Pu.fieldB fo49_1 rfl) ⟨rfl, trivial⟩ rfl rfl rfl ?_
            refine HQ.on rfl rfl hg105 ?_
            refine HQ.op [2] [2] (OT.loadBA (vs := [.bool t3.2.N.Leaf, .slice a5 (List.length t3.2.N.L) c6]) ag47 sz47 rfl rfl) ⟨rfl, trivial⟩ ⟨rfl, trivial⟩ rfl rfl rfl rfl (fun _ => rfl) fun _ => ?_
            refine HQ.on rfl rfl hg105 ?_
            obtain ⟨t106, h107, H⟩ := bnd H
            refine HQ.op [1] [1] (OT.call (us := [_, _]) (Pre := [OwnS kTEntry a5 c6 t3.2.N.L]) [.tmp 174, .tmp 176] Try.call37 rfl rfl fun w F hs hF hp => impl_SameNode_c (p0 := t3.2.N) (p1 := t3.2.N) (hs.lend hF 0 rfl) (hs.lend hF 0 rfl) h107) ⟨rfl, rfl, rfl, trivial⟩ ⟨rfl, trivial⟩ rfl rfl rfl rfl (fun _ => rfl) fun _ => ?_
            obtain rfl := Option.some.inj H
            refine HQ.pu (Pu.pickC1 hg105) ⟨rfl, rfl, trivial⟩ rfl rfl rfl ?_
            exact HQ.mid ⟨rfl, rfl, trivial⟩ ⟨rfl, rfl, rfl, rfl, rfl, rfl, rfl, rfl, rfl, rfl, rfl, rfl, rfl, rfl, rfl, rfl, rfl, rfl, trivial⟩ rfl
          · obtain rfl := Option.some.inj H
            refine HQ.off rfl rfl hg105 rfl ?_
            refine HQ.off rfl rfl hg105 rfl ?_
            refine HQ.off rfl rfl hg105 rfl ?_
            refine HQ.off rfl rfl hg105 rfl ?_
            refine HQ.off rfl rfl hg105 rfl ?_
            refine HQ.pu (Pu.pickC0 hg105) ⟨rfl, rfl, trivial⟩ rfl rfl rfl ?_
            exact HQ.mid ⟨rfl, rfl, trivial⟩ ⟨rfl, rfl, rfl, rfl, rfl, rfl, rfl, rfl, rfl, rfl, rfl, rfl, rfl, rfl, rfl, rfl, rfl, rfl, trivial⟩ rfl
        refine HQ.pu Pu.assign ⟨rfl, trivial⟩ rfl rfl rfl ?_
        refine HQ.done ?_
        refine HQ.keep [(2, _)] ⟨rfl, trivial⟩ ?_
        refine HQ.ret ?_
        obtain rfl := Option.some.inj H
        exact HQ.fin (vs := [_]) Try.results4 () ⟨rfl, trivial⟩ rfl [] trivial rfl

end Go.Proofs.Sx
