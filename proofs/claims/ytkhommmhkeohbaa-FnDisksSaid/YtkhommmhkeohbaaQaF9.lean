import Derived.Test.YtkhommmhkeohbaaQaF8
import Derived.KernelRfl
namespace Go.Proofs.Sx
open Go.RowKit
set_option linter.unusedVariables false
set_option linter.unusedSimpArgs false
set_option maxRecDepth 20000
set_option maxHeartbeats 1000000
/-! laws.FnDisks -/
theorem laws_FnDisks_c {w : World} {k : Nat} {p0 : (List Int)} {a_0 : Option Addr} {c_0 : Nat} (hb_0 : BorS kU8 a_0 c_0 p0 w.heap (Lt w Nil)) {r : Bool} (H : laws_FnDisks k p0 = some r) :
    Calls Try.prog 3 #[.slice a_0 (List.length p0) c_0] w (Rt w Nil (fun _ : Unit => .bool r) (fun _ => [])) := by
  rw [laws_FnDisks] at H
  refine Calls.enter0 (N := 201) (us := [_]) Try.func3 rfl rfl rfl ?_
  refine HQ.rseq ?_
  refine HQ.pu Pu.assign ⟨rfl, trivial⟩ rfl rfl rfl ?_
  refine HQ.done ?_
  refine HQ.keep [(0, _), (2, _)] ⟨rfl, rfl, trivial⟩ ?_
  refine HQ.seq ?_
  refine HQ.rseq ?_
  refine HQ.pu Pu.move ⟨rfl, trivial⟩ rfl rfl rfl ?_
  obtain ⟨t1, h2, H⟩ := bnd H
  refine HQ.op [] [] (OT.call (us := [_]) (Pre := []) [.tmp 28] Try.call9 rfl rfl fun w F hs hF hp => laws_big_c h2) ⟨rfl, rfl, trivial⟩ trivial rfl rfl rfl rfl (fun _ => rfl) fun _ => ?_
  refine HQ.done ?_
  refine HQ.keep [(0, _), (2, _), (29, _)] ⟨rfl, rfl, rfl, trivial⟩ ?_
  rcases brk H with ⟨hc, H⟩ | ⟨hc, H⟩
  · refine HQ.condT rfl hc ?_
    clear hc
    refine HQ.rseq ?_
    refine HQ.pu Pu.assign ⟨rfl, trivial⟩ rfl rfl rfl ?_
    refine HQ.done ?_
    refine HQ.keep [(0, _), (2, _)] ⟨rfl, rfl, trivial⟩ ?_
    refine HQ.ret ?_
    refine HQ.thenR ?_
    obtain rfl := Option.some.inj H
    exact HQ.fin (vs := [_]) Try.results3 () ⟨rfl, trivial⟩ rfl [] trivial rfl
  · refine HQ.condF rfl hc ?_
    clear hc
    refine HQ.skipThen ?_
    refine HQ.rseq ?_
    refine HQ.pu Pu.move ⟨rfl, trivial⟩ rfl rfl rfl ?_
    obtain ⟨t3, h4, H⟩ := bnd H
    refine HQ.op [] [1, 2, 3] (OT.call (us := [_]) (Pre := []) [.tmp 31] Try.call10 rfl rfl fun w F hs hF hp => spec_DrawWrite_c (hb_0.pass hp) h4) ⟨rfl, rfl, trivial⟩ trivial rfl rfl rfl rfl (fun _ => rfl) fun ⟨⟨a5, c6⟩, ⟨a7, c8⟩, ⟨a9, c10⟩⟩ => ?_
    refine HQ.pu Pu.move ⟨rfl, trivial⟩ rfl rfl rfl ?_
    refine HQ.pu (Pu.extract rfl) ⟨rfl, trivial⟩ rfl rfl rfl ?_
    refine HQ.pu (Pu.extract rfl) ⟨rfl, trivial⟩ rfl rfl rfl ?_
    refine HQ.pu (Pu.extract rfl) ⟨rfl, trivial⟩ rfl rfl rfl ?_
    refine HQ.op [] [4] (OT.alloc zc27) trivial trivial rfl rfl rfl rfl (fun _ => rfl) fun b11 => ?_
    refine HQ.opN [4] [4] [] (OT.storeC (cs' := [.slice a5 (List.length t3.1.Cells) c6, .slice a7 (List.length t3.1.Wet) c8, .int .i64 t3.1.Fuse, .bool t3.1.Dead]) sz27 rfl rfl rfl rfl rfl) ⟨rfl, rfl, trivial⟩ ⟨rfl, trivial⟩ rfl rfl rfl (fun _ => rfl) fun _ => ?_
    refine HQ.pu Pu.assign ⟨rfl, trivial⟩ rfl rfl rfl ?_
    refine HQ.pu Pu.assign ⟨rfl, trivial⟩ rfl rfl rfl ?_
    refine HQ.done ?_
    refine HQ.keep [(0, _), (2, _), (3, _), (4, _), (5, _)] ⟨rfl, rfl, rfl, rfl, rfl, trivial⟩ ?_
    refine HQ.rseq ?_
    refine HQ.op [4] [4] (OT.loadBA (vs := [.slice a5 (List.length t3.1.Cells) c6, .slice a7 (List.length t3.1.Wet) c8, .int .i64 t3.1.Fuse, .bool t3.1.Dead]) ag27 sz27 rfl rfl) ⟨rfl, trivial⟩ ⟨rfl, trivial⟩ rfl rfl rfl rfl (fun _ => rfl) fun _ => ?_
    refine HQ.pu Pu.move ⟨rfl, trivial⟩ rfl rfl rfl ?_
    refine HQ.pu Pu.move ⟨rfl, trivial⟩ rfl rfl rfl ?_
    obtain ⟨t12, h13, H⟩ := bnd H
    refine HQ.op [1, 2, 3] [5, 6, 1, 2, 3] (OT.call (us := [_, _, _]) (Pre := [OwnS kTCell a5 c6 t3.1.Cells, OwnS kTWet a7 c8 t3.1.Wet, OwnS kU8 a9 c10 t3.2.2]) [.tmp 36, .tmp 37, .tmp 38] Try.call11 rfl rfl fun w F hs hF hp => impl_Write_c (hs.lend hF 0 rfl) (hs.lend hF 1 rfl) (hs.lend hF 2 rfl) h13) ⟨rfl, rfl, rfl, rfl, trivial⟩ ⟨rfl, rfl, rfl, trivial⟩ rfl rfl rfl rfl (fun _ => rfl) fun ⟨⟨a14, c15⟩, ⟨a16, c17⟩⟩ => ?_
    refine HQ.op [] [7] (OT.alloc zc27) trivial trivial rfl rfl rfl rfl (fun _ => rfl) fun b18 => ?_
    refine HQ.opN [7] [7] [] (OT.storeC (cs' := [.slice a14 (List.length t12.Cells) c15, .slice a16 (List.length t12.Wet) c17, .int .i64 t12.Fuse, .bool t12.Dead]) sz27 rfl rfl rfl rfl rfl) ⟨rfl, rfl, trivial⟩ ⟨rfl, trivial⟩ rfl rfl rfl (fun _ => rfl) fun _ => ?_
    refine HQ.done ?_
    refine HQ.keep [(0, _), (2, _), (3, _), (4, _), (5, _), (6, _)] ⟨rfl, rfl, rfl, rfl, rfl, rfl, trivial⟩ ?_
    refine HQ.rseq ?_
    refine HQ.pu Pu.move ⟨rfl, trivial⟩ rfl rfl rfl ?_
    obtain ⟨t19, h20, H⟩ := bnd H
    refine HQ.op [] [8, 9] (OT.call (us := [_]) (Pre := []) [.tmp 40] Try.call12 rfl rfl fun w F hs hF hp => spec_DrawFlush_c (hb_0.pass hp) h20) ⟨rfl, rfl, trivial⟩ trivial rfl rfl rfl rfl (fun _ => rfl) fun ⟨⟨a21, c22⟩, ⟨a23, c24⟩⟩ => ?_
    refine HQ.op [] [10] (OT.alloc zc27) trivial trivial rfl rfl rfl rfl (fun _ => rfl) fun b25 => ?_
    refine HQ.opN [10] [10] [] (OT.storeC (cs' := [.slice a21 (List.length t19.Cells) c22, .slice a23 (List.length t19.Wet) c24, .int .i64 t19.Fuse, .bool t19.Dead]) sz27 rfl rfl rfl rfl rfl) ⟨rfl, rfl, trivial⟩ ⟨rfl, trivial⟩ rfl rfl rfl (fun _ => rfl) fun _ => ?_
    refine HQ.done ?_
    refine HQ.keep [(0, _), (2, _), (3, _), (4, _), (5, _), (6, _), (7, _)] ⟨rfl, rfl, rfl, rfl, rfl, rfl, rfl, trivial⟩ ?_
    refine HQ.rseq ?_
    refine HQ.op [10] [10] (OT.loadBA (vs := [.slice a21 (List.length t19.Cells) c22, .slice a23 (List.length t19.Wet) c24, .int .i64 t19.Fuse, .bool t19.Dead]) ag27 sz27 rfl rfl) ⟨rfl, trivial⟩ ⟨rfl, trivial⟩ rfl rfl rfl rfl (fun _ => rfl) fun _ => ?_
    obtain ⟨t26, h27, H⟩ := bnd H
    refine HQ.op [8, 9] [11, 12, 8, 9] (OT.call (us := [_]) (Pre := [OwnS kTCell a21 c22 t19.Cells, OwnS kTWet a23 c24 t19.Wet]) [.tmp 42] Try.call13 rfl rfl fun w F hs hF hp => impl_Flush_c (hs.lend hF 0 rfl) (hs.lend hF 1 rfl) h27) ⟨rfl, rfl, trivial⟩ ⟨rfl, rfl, trivial⟩ rfl rfl rfl rfl (fun _ => rfl) fun ⟨⟨a28, c29⟩, ⟨a30, c31⟩⟩ => ?_
    refine HQ.op [] [13] (OT.alloc zc27) trivial trivial rfl rfl rfl rfl (fun _ => rfl) fun b32 => ?_
    refine HQ.opN [13] [13] [] (OT.storeC (cs' := [.slice a28 (List.length t26.Cells) c29, .slice a30 (List.length t26.Wet) c31, .int .i64 t26.Fuse, .bool t26.Dead]) sz27 rfl rfl rfl rfl rfl) ⟨rfl, rfl, trivial⟩ ⟨rfl, trivial⟩ rfl rfl rfl (fun _ => rfl) fun _ => ?_
    refine HQ.done ?_
    refine HQ.keep [(0, _), (2, _), (3, _), (4, _), (5, _), (6, _), (7, _), (8, _)] ⟨rfl, rfl, rfl, rfl, rfl, rfl, rfl, rfl, trivial⟩ ?_
    refine HQ.rseq ?_
    refine HQ.pu Pu.move ⟨rfl, trivial⟩ rfl rfl rfl ?_
    obtain ⟨t33, h34, H⟩ := bnd H
    refine HQ.op [] [14, 15, 16] (OT.call (us := [_]) (Pre := []) [.tmp 45] Try.call14 rfl rfl fun w F hs hF hp => spec_DrawCrash_c (hb_0.pass hp) h34) ⟨rfl, rfl, trivial⟩ trivial rfl rfl rfl rfl (fun _ => rfl) fun ⟨⟨a35, c36⟩, ⟨a37, c38⟩, ⟨a39, c40⟩⟩ => ?_
    refine HQ.pu Pu.move ⟨rfl, trivial⟩ rfl rfl rfl ?_
    refine HQ.pu (Pu.extract rfl) ⟨rfl, trivial⟩ rfl rfl rfl ?_
    refine HQ.pu (Pu.extract rfl) ⟨rfl, trivial⟩ rfl rfl rfl ?_
    refine HQ.pu (Pu.extract rfl) ⟨rfl, trivial⟩ rfl rfl rfl ?_
    refine HQ.op [] [17] (OT.alloc zc27) trivial trivial rfl rfl rfl rfl (fun _ => rfl) fun b41 => ?_
    refine HQ.opN [17] [17] [] (OT.storeC (cs' := [.slice a35 (List.length t33.1.Cells) c36, .slice a37 (List.length t33.1.Wet) c38, .int .i64 t33.1.Fuse, .bool t33.1.Dead]) sz27 rfl rfl rfl rfl rfl) ⟨rfl, rfl, trivial⟩ ⟨rfl, trivial⟩ rfl rfl rfl (fun _ => rfl) fun _ => ?_
    refine HQ.pu Pu.assign ⟨rfl, trivial⟩ rfl rfl rfl ?_
    refine HQ.pu Pu.assign ⟨rfl, trivial⟩ rfl rfl rfl ?_
    refine HQ.done ?_
    refine HQ.keep [(0, _), (2, _), (3, _), (4, _), (5, _), (6, _), (7, _), (8, _), (9, _), (10, _), (11, _)] ⟨rfl, rfl, rfl, rfl, rfl, rfl, rfl, rfl, rfl, rfl, rfl, trivial⟩ ?_
    refine HQ.rseq ?_
    refine HQ.op [17] [17] (OT.loadBA (vs := [.slice a35 (List.length t33.1.Cells) c36, .slice a37 (List.length t33.1.Wet) c38, .int .i64 t33.1.Fuse, .bool t33.1.Dead]) ag27 sz27 rfl rfl) ⟨rfl, trivial⟩ ⟨rfl, trivial⟩ rfl rfl rfl rfl (fun _ => rfl) fun _ => ?_
    refine HQ.pu Pu.move ⟨rfl, trivial⟩ rfl rfl rfl ?_
    refine HQ.pu Pu.move ⟨rfl, trivial⟩ rfl rfl rfl ?_
    obtain ⟨t42, h43, H⟩ := bnd H
    refine HQ.op [14, 15, 16] [18, 19, 14, 15, 16] (OT.call (us := [_, _, _]) (Pre := [OwnS kTCell a35 c36 t33.1.Cells, OwnS kTWet a37 c38 t33.1.Wet, OwnS kI a39 c40 t33.2.1]) [.tmp 50, .tmp 51, .tmp 52] Try.call15 rfl rfl fun w F hs hF hp => impl_Crash_c (hs.lend hF 0 rfl) (hs.lend hF 1 rfl) (hs.lend hF 2 rfl) h43) ⟨rfl, rfl, rfl, rfl, trivial⟩ ⟨rfl, rfl, rfl, trivial⟩ rfl rfl rfl rfl (fun _ => rfl) fun ⟨⟨a44, c45⟩, ⟨a46, c47⟩⟩ => ?_
    refine HQ.op [] [20] (OT.alloc zc27) trivial trivial rfl rfl rfl rfl (fun _ => rfl) fun b48 => ?_
    refine HQ.opN [20] [20] [] (OT.storeC (cs' := [.slice a44 (List.length t42.Cells) c45, .slice a46 (List.length t42.Wet) c47, .int .i64 t42.Fuse, .bool t42.Dead]) sz27 rfl rfl rfl rfl rfl) ⟨rfl, rfl, trivial⟩ ⟨rfl, trivial⟩ rfl rfl rfl (fun _ => rfl) fun _ => ?_
    refine HQ.done ?_
    refine HQ.keep [(0, _), (2, _), (3, _), (4, _), (5, _), (6, _), (7, _), (8, _), (9, _), (10, _), (11, _), (12, _)] ⟨rfl, rfl, rfl, rfl, rfl, rfl, rfl, rfl, rfl, rfl, rfl, rfl, trivial⟩ ?_
    refine HQ.rseq ?_
    refine HQ.pu Pu.move ⟨rfl, trivial⟩ rfl rfl rfl ?_
    obtain ⟨t49, h50, H⟩ := bnd H
    refine HQ.op [] [21, 22] (OT.call (us := [_]) (Pre := []) [.tmp 55] Try.call16 rfl rfl fun w F hs hF hp => spec_DrawRead_c (hb_0.pass hp) h50) ⟨rfl, rfl, trivial⟩ trivial rfl rfl rfl rfl (fun _ => rfl) fun ⟨⟨a51, c52⟩, ⟨a53, c54⟩⟩ => ?_
    refine HQ.pu Pu.move ⟨rfl, trivial⟩ rfl rfl rfl ?_
    refine HQ.pu (Pu.extract rfl) ⟨rfl, trivial⟩ rfl rfl rfl ?_
    refine HQ.pu (Pu.extract rfl) ⟨rfl, trivial⟩ rfl rfl rfl ?_
    refine HQ.op [] [23] (OT.alloc zc27) trivial trivial rfl rfl rfl rfl (fun _ => rfl) fun b55 => ?_
    refine HQ.opN [23] [23] [] (OT.storeC (cs' := [.slice a51 (List.length t49.1.Cells) c52, .slice a53 (List.length t49.1.Wet) c54, .int .i64 t49.1.Fuse, .bool t49.1.Dead]) sz27 rfl rfl rfl rfl rfl) ⟨rfl, rfl, trivial⟩ ⟨rfl, trivial⟩ rfl rfl rfl (fun _ => rfl) fun _ => ?_
    refine HQ.pu Pu.assign ⟨rfl, trivial⟩ rfl rfl rfl ?_
    refine HQ.done ?_
    refine HQ.keep [(2, _), (3, _), (4, _), (5, _), (6, _), (7, _), (8, _), (9, _), (10, _), (11, _), (12, _), (13, _), (14, _)] ⟨rfl, rfl, rfl, rfl, rfl, rfl, rfl, rfl, rfl, rfl, rfl, rfl, rfl, trivial⟩ ?_
    refine HQ.rseq ?_
    refine HQ.op [23] [23] (OT.loadBA (vs := [.slice a51 (List.length t49.1.Cells) c52, .slice a53 (List.length t49.1.Wet) c54, .int .i64 t49.1.Fuse, .bool t49.1.Dead]) ag27 sz27 rfl rfl) ⟨rfl, trivial⟩ ⟨rfl, trivial⟩ rfl rfl rfl rfl (fun _ => rfl) fun _ => ?_
    refine HQ.pu Pu.move ⟨rfl, trivial⟩ rfl rfl rfl ?_
    obtain ⟨t56, h57, H⟩ := bnd H
    refine HQ.op [21, 22] [24, 21, 22] (OT.call (us := [_, _]) (Pre := [OwnS kTCell a51 c52 t49.1.Cells, OwnS kTWet a53 c54 t49.1.Wet]) [.tmp 60, .tmp 61] Try.call17 rfl rfl fun w F hs hF hp => impl_Read_c (hs.lend hF 0 rfl) (hs.lend hF 1 rfl) h57) ⟨rfl, rfl, rfl, trivial⟩ ⟨rfl, rfl, trivial⟩ rfl rfl rfl rfl (fun _ => rfl) fun ⟨a58, c59⟩ => ?_
    refine HQ.pu Pu.move ⟨rfl, trivial⟩ rfl rfl rfl ?_
    refine HQ.pu (Pu.extract rfl) ⟨rfl, trivial⟩ rfl rfl rfl ?_
    refine HQ.pu (Pu.extract rfl) ⟨rfl, trivial⟩ rfl rfl rfl ?_
    refine HQ.pu Pu.assign ⟨rfl, trivial⟩ rfl rfl rfl ?_
    refine HQ.pu Pu.assign ⟨rfl, trivial⟩ rfl rfl rfl ?_
    refine HQ.done ?_
    refine HQ.keep [(2, _), (3, _), (4, _), (5, _), (6, _), (7, _), (8, _), (9, _), (10, _), (11, _), (12, _), (13, _), (14, _), (15, _), (16, _)] ⟨rfl, rfl, rfl, rfl, rfl, rfl, rfl, rfl, rfl, rfl, rfl, rfl, rfl, rfl, rfl, trivial⟩ ?_
    refine HQ.rseq ?_
    refine HQ.op [23] [23] (OT.loadBA (vs := [.slice a51 (List.length t49.1.Cells) c52, .slice a53 (List.length t49.1.Wet) c54, .int .i64 t49.1.Fuse, .bool t49.1.Dead]) ag27 sz27 rfl rfl) ⟨rfl, trivial⟩ ⟨rfl, trivial⟩ rfl rfl rfl rfl (fun _ => rfl) fun _ => ?_
    refine HQ.pu Pu.move ⟨rfl, trivial⟩ rfl rfl rfl ?_
    obtain ⟨t60, h61, H⟩ := bnd H
    refine HQ.op [21, 22] [25, 21, 22] (OT.call (us := [_, _]) (Pre := [OwnS kTCell a51 c52 t49.1.Cells, OwnS kTWet a53 c54 t49.1.Wet]) [.tmp 66, .tmp 67] Try.call18 rfl rfl fun w F hs hF hp => spec_Read_c (hs.lend hF 0 rfl) (hs.lend hF 1 rfl) h61) ⟨rfl, rfl, rfl, trivial⟩ ⟨rfl, rfl, trivial⟩ rfl rfl rfl rfl (fun _ => rfl) fun ⟨a62, c63⟩ => ?_
    refine HQ.pu Pu.move ⟨rfl, trivial⟩ rfl rfl rfl ?_
    refine HQ.pu (Pu.extract rfl) ⟨rfl, trivial⟩ rfl rfl rfl ?_
    refine HQ.pu (Pu.extract rfl) ⟨rfl, trivial⟩ rfl rfl rfl ?_
    refine HQ.pu Pu.assign ⟨rfl, trivial⟩ rfl rfl rfl ?_
    refine HQ.pu Pu.assign ⟨rfl, trivial⟩ rfl rfl rfl ?_
    refine HQ.done ?_
    refine HQ.keep [(2, _), (3, _), (4, _), (5, _), (6, _), (7, _), (8, _), (9, _), (10, _), (11, _), (12, _), (15, _), (16, _), (17, _), (18, _)] ⟨rfl, rfl, rfl, rfl, rfl, rfl, rfl, rfl, rfl, rfl, rfl, rfl, rfl, rfl, rfl, trivial⟩ ?_
    refine HQ.seq ?_
    refine HQ.seq ?_
    refine HQ.dStart mixd ?_
    obtain ⟨t65, h66, H⟩ := bnd H
    refine HQ.dPart [(2, .bool false), (3, BP b11 0), (4, .int .i64 t3.2.1), (5, .slice a9 (List.length t3.2.2) c10), (6, BP b18 0), (7, BP b25 0), (8, BP b32 0), (9, BP b41 0), (10, .slice a39 (List.length t33.2.1) c40), (11, .int .i64 t33.2.2), (12, BP b48 0), (15, .slice a58 (List.length t56.1) c59), (16, .bool t56.2), (17, .slice a62 (List.length t60.1) c63), (18, .bool t60.2)] 5 [⟨[0], [0], []⟩, ⟨[1], [1], []⟩, ⟨[], [], []⟩, ⟨[], [], []⟩, ⟨[2, 3, 4], [5, 6, 2, 3, 4], [1, 2, 3]⟩] [⟨none, none⟩, ⟨none, none⟩, ⟨none, none⟩, ⟨none, none⟩, ⟨none, none⟩, ⟨some 4, none⟩, ⟨some 4, none⟩] (fun (g64 : ((Option Addr × Nat) × (Option Addr × Nat))) => [.agg #[.slice a14 (List.length t12.Cells) c15, .slice a16 (List.length t12.Wet) c17, .int .i64 t12.Fuse, .bool t12.Dead], .agg #[.slice a5 (List.length t3.1.Cells) c6, .slice a7 (List.length t3.1.Wet) c8, .int .i64 t3.1.Fuse, .bool t3.1.Dead], .int .i64 t3.2.1, .slice a9 (List.length t3.2.2) c10, .agg #[.slice g64.1.1 (List.length t65.Cells) g64.1.2, .slice g64.2.1 (List.length t65.Wet) g64.2.2, .int .i64 t65.Fuse, .bool t65.Dead]]) (fun (g64 : ((Option Addr × Nat) × (Option Addr × Nat))) => [Box b18 [.slice a14 (List.length t12.Cells) c15, .slice a16 (List.length t12.Wet) c17, .int .i64 t12.Fuse, .bool t12.Dead], Box b11 [.slice a5 (List.length t3.1.Cells) c6, .slice a7 (List.length t3.1.Wet) c8, .int .i64 t3.1.Fuse, .bool t3.1.Dead], OwnS kTCell a5 c6 t3.1.Cells, OwnS kTWet a7 c8 t3.1.Wet, OwnS kU8 a9 c10 t3.2.2, OwnS kTCell g64.1.1 g64.1.2 t65.Cells, OwnS kTWet g64.2.1 g64.2.2 t65.Wet]) ((none, 0), (none, 0)) [7, 4, 1, 2, 3] [7, 4, 1, 2, 3, 26, 27] [] ⟨rfl, rfl, rfl, rfl, rfl, rfl, rfl, rfl, rfl, rfl, rfl, rfl, rfl, rfl, rfl, trivial⟩ ⟨rfl, rfl, rfl, rfl, rfl, trivial⟩ rfl (by kernel_rfl) (by kernel_rfl) (fun _ => rfl) (by kernel_rfl) (fun _ => rfl) rfl ⟨?_, ?_, ?_, ?_, ?_, trivial⟩ fun g64 => ?_
    · exact OpOK2.of (fun g64 => [(.tmp 6, BP b18 0)]) _ _ (fun g64 _ => g64) rfl rfl (fun _ => ⟨rfl, trivial⟩) (fun g64 => OT.loadBA (vs := [.slice a14 (List.length t12.Cells) c15, .slice a16 (List.length t12.Wet) c17, .int .i64 t12.Fuse, .bool t12.Dead]) ag27 sz27 rfl rfl) (fun _ _ => ⟨rfl, rfl, ⟨rfl, rfl, rfl, rfl, rfl, rfl, rfl, trivial⟩⟩)
    · exact OpOK2.of (fun g64 => [(.tmp 3, BP b11 0)]) _ _ (fun g64 _ => g64) rfl rfl (fun _ => ⟨rfl, trivial⟩) (fun g64 => OT.loadBA (vs := [.slice a5 (List.length t3.1.Cells) c6, .slice a7 (List.length t3.1.Wet) c8, .int .i64 t3.1.Fuse, .bool t3.1.Dead]) ag27 sz27 rfl rfl) (fun _ _ => ⟨rfl, rfl, ⟨rfl, rfl, rfl, rfl, rfl, rfl, rfl, trivial⟩⟩)
    · exact OpOK2.of (fun g64 => [(.tmp 4, .int .i64 t3.2.1)]) _ _ (fun g64 _ => g64) rfl rfl (fun _ => ⟨rfl, trivial⟩) (fun g64 => Pu.toOT Pu.move) (fun _ _ => ⟨rfl, rfl, ⟨rfl, rfl, rfl, rfl, rfl, rfl, rfl, trivial⟩⟩)
    · exact OpOK2.of (fun g64 => [(.tmp 5, .slice a9 (List.length t3.2.2) c10)]) _ _ (fun g64 _ => g64) rfl rfl (fun _ => ⟨rfl, trivial⟩) (fun g64 => Pu.toOT Pu.move) (fun _ _ => ⟨rfl, rfl, ⟨rfl, rfl, rfl, rfl, rfl, rfl, rfl, trivial⟩⟩)
    · exact OpOK2.of (fun g64 => [(.func 20, .func (.func 20) #[] #[]), (.tmp 72, .agg #[.slice a5 (List.length t3.1.Cells) c6, .slice a7 (List.length t3.1.Wet) c8, .int .i64 t3.1.Fuse, .bool t3.1.Dead]), (.tmp 73, .int .i64 t3.2.1), (.tmp 74, .slice a9 (List.length t3.2.2) c10)]) _ _ (fun g64 x => x) rfl rfl (fun _ => ⟨rfl, rfl, rfl, rfl, trivial⟩) (fun g64 => OT.call (us := [_, _, _]) (Pre := [OwnS kTCell a5 c6 t3.1.Cells, OwnS kTWet a7 c8 t3.1.Wet, OwnS kU8 a9 c10 t3.2.2]) [.tmp 72, .tmp 73, .tmp 74] Try.call20 rfl rfl fun w F hs hF hp => spec_Write_c (hs.lend hF 0 rfl) (hs.lend hF 1 rfl) (hs.lend hF 2 rfl) h66) (fun _ _ => ⟨rfl, rfl, ⟨rfl, rfl, rfl, rfl, rfl, rfl, rfl, trivial⟩⟩)
    refine HQ.keep [(2, _), (3, _), (4, _), (5, _), (6, _), (7, _), (8, _), (9, _), (10, _), (11, _), (12, _), (15, _), (16, _), (17, _), (18, _), (71, _), (75, _)] ⟨rfl, rfl, rfl, rfl, rfl, rfl, rfl, rfl, rfl, rfl, rfl, rfl, rfl, rfl, rfl, rfl, rfl, trivial⟩ ?_
    refine HQ.keepR [(1, _), (2, _), (3, _), (4, _), (5, _), (6, _), (7, _), (8, _), (9, _), (10, _), (11, _), (12, _), (13, _), (14, _), (15, _), (16, _), (17, _), (18, _), (19, _), (20, _), (21, _), (22, _), (23, _), (24, _), (25, _), (26, _), (27, _)] ⟨rfl, rfl, rfl, rfl, rfl, rfl, rfl, rfl, rfl, rfl, rfl, rfl, rfl, rfl, rfl, rfl, rfl, rfl, rfl, rfl, rfl, rfl, rfl, rfl, rfl, rfl, rfl, trivial⟩ rfl ?_
    refine HQ.dRun 3 rfl rfl (by kernel_rfl) (by kernel_rfl) ?_
    obtain ⟨t71, h72, H⟩ := bnd H
    refine HQ.op [5, 6, 26, 27] [5, 6, 26, 27] (OT.call (us := [_, _]) (Pre := [OwnS kTCell a14 c15 t12.Cells, OwnS kTWet a16 c17 t12.Wet, OwnS kTCell g64.1.1 g64.1.2 t65.Cells, OwnS kTWet g64.2.1 g64.2.2 t65.Wet]) [.tmp 71, .tmp 75] Try.call19 rfl rfl fun w F hs hF hp => laws_sameDisk_c (hs.lend hF 0 rfl) (hs.lend hF 1 rfl) (hs.lend hF 2 rfl) (hs.lend hF 3 rfl) h72) ⟨rfl, rfl, rfl, trivial⟩ ⟨rfl, rfl, rfl, rfl, trivial⟩ rfl rfl rfl rfl (fun _ => rfl) fun _ => ?_
    refine HQ.pu Pu.not ⟨rfl, trivial⟩ rfl rfl rfl ?_
    refine HQ.pu Pu.move ⟨rfl, trivial⟩ rfl rfl rfl ?_
    refine HQ.done ?_
    obtain ⟨c84, h85, H⟩ := bnd H
    refine HQ.dMid (m' := 14) [(84, .bool c84), (2, .bool false), (3, BP b11 0), (4, .int .i64 t3.2.1), (5, .slice a9 (List.length t3.2.2) c10), (6, BP b18 0), (7, BP b25 0), (8, BP b32 0), (9, BP b41 0), (10, .slice a39 (List.length t33.2.1) c40), (11, .int .i64 t33.2.2), (12, BP b48 0), (15, .slice a58 (List.length t56.1) c59), (16, .bool t56.2), (17, .slice a62 (List.length t60.1) c63), (18, .bool t60.2)] [(1, OwnS kTCell a5 c6 t3.1.Cells), (2, OwnS kTWet a7 c8 t3.1.Wet), (3, OwnS kU8 a9 c10 t3.2.2), (4, Box b11 [.slice a5 (List.length t3.1.Cells) c6, .slice a7 (List.length t3.1.Wet) c8, .int .i64 t3.1.Fuse, .bool t3.1.Dead]), (5, OwnS kTCell a14 c15 t12.Cells), (6, OwnS kTWet a16 c17 t12.Wet), (7, Box b18 [.slice a14 (List.length t12.Cells) c15, .slice a16 (List.length t12.Wet) c17, .int .i64 t12.Fuse, .bool t12.Dead]), (8, OwnS kTCell a21 c22 t19.Cells), (9, OwnS kTWet a23 c24 t19.Wet), (10, Box b25 [.slice a21 (List.length t19.Cells) c22, .slice a23 (List.length t19.Wet) c24, .int .i64 t19.Fuse, .bool t19.Dead]), (11, OwnS kTCell a28 c29 t26.Cells), (12, OwnS kTWet a30 c31 t26.Wet), (13, Box b32 [.slice a28 (List.length t26.Cells) c29, .slice a30 (List.length t26.Wet) c31, .int .i64 t26.Fuse, .bool t26.Dead]), (14, OwnS kTCell a35 c36 t33.1.Cells), (15, OwnS kTWet a37 c38 t33.1.Wet), (16, OwnS kI a39 c40 t33.2.1), (17, Box b41 [.slice a35 (List.length t33.1.Cells) c36, .slice a37 (List.length t33.1.Wet) c38, .int .i64 t33.1.Fuse, .bool t33.1.Dead]), (18, OwnS kTCell a44 c45 t42.Cells), (19, OwnS kTWet a46 c47 t42.Wet), (20, Box b48 [.slice a44 (List.length t42.Cells) c45, .slice a46 (List.length t42.Wet) c47, .int .i64 t42.Fuse, .bool t42.Dead]), (21, OwnS kTCell a51 c52 t49.1.Cells), (22, OwnS kTWet a53 c54 t49.1.Wet), (23, Box b55 [.slice a51 (List.length t49.1.Cells) c52, .slice a53 (List.length t49.1.Wet) c54, .int .i64 t49.1.Fuse, .bool t49.1.Dead]), (24, OwnS kU8 a58 c59 t56.1), (25, OwnS kU8 a62 c63 t60.1), (26, OwnS kTCell g64.1.1 g64.1.2 t65.Cells), (27, OwnS kTWet g64.2.1 g64.2.2 t65.Wet)] (fun hmid => ?_) ?_
    · clear H
      have H := h85
      rcases brk H with ⟨hg73, H⟩ | ⟨hg73, H⟩
      · obtain rfl := Option.some.inj H
        refine HQ.dPart [(2, .bool false), (3, BP b11 0), (4, .int .i64 t3.2.1), (5, .slice a9 (List.length t3.2.2) c10), (6, BP b18 0), (7, BP b25 0), (8, BP b32 0), (9, BP b41 0), (10, .slice a39 (List.length t33.2.1) c40), (11, .int .i64 t33.2.2), (12, BP b48 0), (15, .slice a58 (List.length t56.1) c59), (16, .bool t56.2), (17, .slice a62 (List.length t60.1) c63), (18, .bool t60.2), (78, .bool (!t71))] 11 [⟨[], [], []⟩, ⟨[], [], []⟩, ⟨[], [], []⟩, ⟨[], [], []⟩, ⟨[], [], []⟩, ⟨[], [], []⟩, ⟨[], [], []⟩, ⟨[], [], []⟩, ⟨[], [], []⟩, ⟨[], [], []⟩, ⟨[], [], []⟩] [] (fun (g83 : Unit) => [undef, undef, undef, undef, undef, undef, undef, undef, undef, undef, undef]) (fun (g83 : Unit) => []) () [] [] [] ⟨rfl, rfl, rfl, rfl, rfl, rfl, rfl, rfl, rfl, rfl, rfl, rfl, rfl, rfl, rfl, rfl, trivial⟩ trivial rfl (by kernel_rfl) (by kernel_rfl) (fun _ => rfl) (by kernel_rfl) (fun _ => rfl) rfl ⟨?_, ?_, ?_, trivial⟩ fun g83 => ?_
        · exact OpOK2.off rfl rfl rfl hg73 rfl rfl (fun _ => ⟨rfl, trivial⟩)
        · exact OpOK2.off rfl rfl rfl hg73 rfl rfl (fun _ => ⟨rfl, trivial⟩)
        · exact OpOK2.off rfl rfl rfl hg73 rfl rfl (fun _ => ⟨rfl, trivial⟩)
        refine HQ.keep [(2, _), (3, _), (4, _), (5, _), (6, _), (7, _), (8, _), (9, _), (10, _), (11, _), (12, _), (15, _), (16, _), (17, _), (18, _), (78, _), (79, _), (81, _)] ⟨rfl, rfl, rfl, rfl, rfl, rfl, rfl, rfl, rfl, rfl, rfl, rfl, rfl, rfl, rfl, rfl, rfl, rfl, trivial⟩ ?_
        refine HQ.keepR [(1, _), (2, _), (3, _), (4, _), (5, _), (6, _), (7, _), (8, _), (9, _), (10, _), (11, _), (12, _), (13, _), (14, _), (15, _), (16, _), (17, _), (18, _), (19, _), (20, _), (21, _), (22, _), (23, _), (24, _), (25, _), (26, _), (27, _)] ⟨rfl, rfl, rfl, rfl, rfl, rfl, rfl, rfl, rfl, rfl, rfl, rfl, rfl, rfl, rfl, rfl, rfl, rfl, rfl, rfl, rfl, rfl, rfl, rfl, rfl, rfl, rfl, trivial⟩ rfl ?_
        refine HQ.dRun 2 rfl rfl (by kernel_rfl) (by kernel_rfl) ?_
        refine HQ.off rfl rfl hg73 rfl ?_
        refine HQ.off rfl rfl hg73 rfl ?_
        refine HQ.done ?_
        refine HQ.dRun 1 rfl rfl (by kernel_rfl) (by kernel_rfl) ?_
        refine HQ.pu (Pu.pickC1 hg73) ⟨rfl, rfl, trivial⟩ rfl rfl rfl ?_
        refine HQ.done ?_
        exact HQ.dUse hmid ⟨rfl, rfl, rfl, rfl, rfl, rfl, rfl, rfl, rfl, rfl, rfl, rfl, rfl, rfl, rfl, rfl, trivial⟩ ⟨rfl, rfl, rfl, rfl, rfl, rfl, rfl, rfl, rfl, rfl, rfl, rfl, rfl, rfl, rfl, rfl, rfl, rfl, rfl, rfl, rfl, rfl, rfl, rfl, rfl, rfl, rfl, trivial⟩ rfl
      · obtain ⟨t75, h76, H⟩ := bnd H
        refine HQ.dPart [(2, .bool false), (3, BP b11 0), (4, .int .i64 t3.2.1), (5, .slice a9 (List.length t3.2.2) c10), (6, BP b18 0), (7, BP b25 0), (8, BP b32 0), (9, BP b41 0), (10, .slice a39 (List.length t33.2.1) c40), (11, .int .i64 t33.2.2), (12, BP b48 0), (15, .slice a58 (List.length t56.1) c59), (16, .bool t56.2), (17, .slice a62 (List.length t60.1) c63), (18, .bool t60.2), (78, .bool (!t71))] 11 [⟨[], [], []⟩, ⟨[], [], []⟩, ⟨[], [], []⟩, ⟨[], [], []⟩, ⟨[], [], []⟩, ⟨[], [], []⟩, ⟨[], [], []⟩, ⟨[], [], []⟩, ⟨[0], [0], []⟩, ⟨[1], [1], []⟩, ⟨[2, 3], [4, 5, 2, 3], [9]⟩] [⟨none, none⟩, ⟨none, none⟩, ⟨none, none⟩, ⟨none, none⟩, ⟨some 10, none⟩, ⟨some 10, none⟩] (fun (g74 : ((Option Addr × Nat) × (Option Addr × Nat))) => [undef, undef, undef, undef, undef, undef, undef, undef, .agg #[.slice a28 (List.length t26.Cells) c29, .slice a30 (List.length t26.Wet) c31, .int .i64 t26.Fuse, .bool t26.Dead], .agg #[.slice a21 (List.length t19.Cells) c22, .slice a23 (List.length t19.Wet) c24, .int .i64 t19.Fuse, .bool t19.Dead], .agg #[.slice g74.1.1 (List.length t75.Cells) g74.1.2, .slice g74.2.1 (List.length t75.Wet) g74.2.2, .int .i64 t75.Fuse, .bool t75.Dead]]) (fun (g74 : ((Option Addr × Nat) × (Option Addr × Nat))) => [Box b32 [.slice a28 (List.length t26.Cells) c29, .slice a30 (List.length t26.Wet) c31, .int .i64 t26.Fuse, .bool t26.Dead], Box b25 [.slice a21 (List.length t19.Cells) c22, .slice a23 (List.length t19.Wet) c24, .int .i64 t19.Fuse, .bool t19.Dead], OwnS kTCell a21 c22 t19.Cells, OwnS kTWet a23 c24 t19.Wet, OwnS kTCell g74.1.1 g74.1.2 t75.Cells, OwnS kTWet g74.2.1 g74.2.2 t75.Wet]) ((none, 0), (none, 0)) [13, 10, 8, 9] [13, 10, 8, 9, 28, 29] [] ⟨rfl, rfl, rfl, rfl, rfl, rfl, rfl, rfl, rfl, rfl, rfl, rfl, rfl, rfl, rfl, rfl, trivial⟩ ⟨rfl, rfl, rfl, rfl, trivial⟩ rfl (by kernel_rfl) (by kernel_rfl) (fun _ => rfl) (by kernel_rfl) (fun _ => rfl) rfl ⟨?_, ?_, ?_, trivial⟩ fun g74 => ?_
        · exact OpOK2.on (fun g74 => [(.tmp 8, BP b32 0)]) _ _ (fun g74 _ => g74) rfl rfl rfl hg73 (fun _ => ⟨rfl, trivial⟩) (fun g74 => OT.loadBA (vs := [.slice a28 (List.length t26.Cells) c29, .slice a30 (List.length t26.Wet) c31, .int .i64 t26.Fuse, .bool t26.Dead]) ag27 sz27 rfl rfl) (fun _ _ => ⟨rfl, rfl, ⟨rfl, rfl, rfl, rfl, rfl, rfl, trivial⟩⟩)
        · exact OpOK2.on (fun g74 => [(.tmp 7, BP b25 0)]) _ _ (fun g74 _ => g74) rfl rfl rfl hg73 (fun _ => ⟨rfl, trivial⟩) (fun g74 => OT.loadBA (vs := [.slice a21 (List.length t19.Cells) c22, .slice a23 (List.length t19.Wet) c24, .int .i64 t19.Fuse, .bool t19.Dead]) ag27 sz27 rfl rfl) (fun _ _ => ⟨rfl, rfl, ⟨rfl, rfl, rfl, rfl, rfl, rfl, trivial⟩⟩)
        · exact OpOK2.on (fun g74 => [(.func 21, .func (.func 21) #[] #[]), (.tmp 80, .agg #[.slice a21 (List.length t19.Cells) c22, .slice a23 (List.length t19.Wet) c24, .int .i64 t19.Fuse, .bool t19.Dead])]) _ _ (fun g74 x => x) rfl rfl rfl hg73 (fun _ => ⟨rfl, rfl, trivial⟩) (fun g74 => OT.call (us := [_]) (Pre := [OwnS kTCell a21 c22 t19.Cells, OwnS kTWet a23 c24 t19.Wet]) [.tmp 80] Try.call21 rfl rfl fun w F hs hF hp => spec_Flush_c (hs.lend hF 0 rfl) (hs.lend hF 1 rfl) h76) (fun _ _ => ⟨rfl, rfl, ⟨rfl, rfl, rfl, rfl, rfl, rfl, trivial⟩⟩)
        refine HQ.keep [(2, _), (3, _), (4, _), (5, _), (6, _), (7, _), (8, _), (9, _), (10, _), (11, _), (12, _), (15, _), (16, _), (17, _), (18, _), (78, _), (79, _), (81, _)] ⟨rfl, rfl, rfl, rfl, rfl, rfl, rfl, rfl, rfl, rfl, rfl, rfl, rfl, rfl, rfl, rfl, rfl, rfl, trivial⟩ ?_
        refine HQ.keepR [(1, _), (2, _), (3, _), (4, _), (5, _), (6, _), (7, _), (8, _), (9, _), (10, _), (11, _), (12, _), (13, _), (14, _), (15, _), (16, _), (17, _), (18, _), (19, _), (20, _), (21, _), (22, _), (23, _), (24, _), (25, _), (26, _), (27, _), (28, _), (29, _)] ⟨rfl, rfl, rfl, rfl, rfl, rfl, rfl, rfl, rfl, rfl, rfl, rfl, rfl, rfl, rfl, rfl, rfl, rfl, rfl, rfl, rfl, rfl, rfl, rfl, rfl, rfl, rfl, rfl, rfl, trivial⟩ rfl ?_
        refine HQ.dRun 2 rfl rfl (by kernel_rfl) (by kernel_rfl) ?_
        refine HQ.on rfl rfl hg73 ?_
        obtain ⟨t81, h82, H⟩ := bnd H
        refine HQ.op [11, 12, 28, 29] [11, 12, 28, 29] (OT.call (us := [_, _]) (Pre := [OwnS kTCell a28 c29 t26.Cells, OwnS kTWet a30 c31 t26.Wet, OwnS kTCell g74.1.1 g74.1.2 t75.Cells, OwnS kTWet g74.2.1 g74.2.2 t75.Wet]) [.tmp 79, .tmp 81] Try.call19 rfl rfl fun w F hs hF hp => laws_sameDisk_c (hs.lend hF 0 rfl) (hs.lend hF 1 rfl) (hs.lend hF 2 rfl) (hs.lend hF 3 rfl) h82) ⟨rfl, rfl, rfl, trivial⟩ ⟨rfl, rfl, rfl, rfl, trivial⟩ rfl rfl rfl rfl (fun _ => rfl) fun _ => ?_
        refine HQ.on rfl rfl hg73 ?_
        refine HQ.pu Pu.not ⟨rfl, trivial⟩ rfl rfl rfl ?_
        refine HQ.done ?_
        obtain rfl := Option.some.inj H
        refine HQ.dRun 1 rfl rfl (by kernel_rfl) (by kernel_rfl) ?_
        refine HQ.pu (Pu.pickC0 hg73) ⟨rfl, rfl, trivial⟩ rfl rfl rfl ?_
        refine HQ.done ?_
        exact HQ.dUse hmid ⟨rfl, rfl, rfl, rfl, rfl, rfl, rfl, rfl, rfl, rfl, rfl, rfl, rfl, rfl, rfl, rfl, trivial⟩ ⟨rfl, rfl, rfl, rfl, rfl, rfl, rfl, rfl, rfl, rfl, rfl, rfl, rfl, rfl, rfl, rfl, rfl, rfl, rfl, rfl, rfl, rfl, rfl, rfl, rfl, rfl, rfl, trivial⟩ rfl
    refine HQ.dRun 1 rfl rfl (by kernel_rfl) (by kernel_rfl) ?_
    refine HQ.pu Pu.move ⟨rfl, trivial⟩ rfl rfl rfl ?_
    refine HQ.done ?_
    obtain ⟨c97, h98, H⟩ := bnd H
    refine HQ.dMid (m' := 23) [(93, .bool c97), (2, .bool false), (3, BP b11 0), (4, .int .i64 t3.2.1), (5, .slice a9 (List.length t3.2.2) c10), (6, BP b18 0), (7, BP b25 0), (8, BP b32 0), (10, .slice a39 (List.length t33.2.1) c40), (12, BP b48 0), (15, .slice a58 (List.length t56.1) c59), (16, .bool t56.2), (17, .slice a62 (List.length t60.1) c63), (18, .bool t60.2)] [(1, OwnS kTCell a5 c6 t3.1.Cells), (2, OwnS kTWet a7 c8 t3.1.Wet), (3, OwnS kU8 a9 c10 t3.2.2), (4, Box b11 [.slice a5 (List.length t3.1.Cells) c6, .slice a7 (List.length t3.1.Wet) c8, .int .i64 t3.1.Fuse, .bool t3.1.Dead]), (5, OwnS kTCell a14 c15 t12.Cells), (6, OwnS kTWet a16 c17 t12.Wet), (7, Box b18 [.slice a14 (List.length t12.Cells) c15, .slice a16 (List.length t12.Wet) c17, .int .i64 t12.Fuse, .bool t12.Dead]), (8, OwnS kTCell a21 c22 t19.Cells), (9, OwnS kTWet a23 c24 t19.Wet), (10, Box b25 [.slice a21 (List.length t19.Cells) c22, .slice a23 (List.length t19.Wet) c24, .int .i64 t19.Fuse, .bool t19.Dead]), (11, OwnS kTCell a28 c29 t26.Cells), (12, OwnS kTWet a30 c31 t26.Wet), (13, Box b32 [.slice a28 (List.length t26.Cells) c29, .slice a30 (List.length t26.Wet) c31, .int .i64 t26.Fuse, .bool t26.Dead]), (14, OwnS kTCell a35 c36 t33.1.Cells), (15, OwnS kTWet a37 c38 t33.1.Wet), (16, OwnS kI a39 c40 t33.2.1), (17, Box b41 [.slice a35 (List.length t33.1.Cells) c36, .slice a37 (List.length t33.1.Wet) c38, .int .i64 t33.1.Fuse, .bool t33.1.Dead]), (18, OwnS kTCell a44 c45 t42.Cells), (19, OwnS kTWet a46 c47 t42.Wet), (20, Box b48 [.slice a44 (List.length t42.Cells) c45, .slice a46 (List.length t42.Wet) c47, .int .i64 t42.Fuse, .bool t42.Dead]), (21, OwnS kTCell a51 c52 t49.1.Cells), (22, OwnS kTWet a53 c54 t49.1.Wet), (23, Box b55 [.slice a51 (List.length t49.1.Cells) c52, .slice a53 (List.length t49.1.Wet) c54, .int .i64 t49.1.Fuse, .bool t49.1.Dead]), (24, OwnS kU8 a58 c59 t56.1), (25, OwnS kU8 a62 c63 t60.1), (26, OwnS kTCell g64.1.1 g64.1.2 t65.Cells), (27, OwnS kTWet g64.2.1 g64.2.2 t65.Wet)] (fun hmid => ?_) ?_
    · clear H
      have H := h98
      rcases brk H with ⟨hg86, H⟩ | ⟨hg86, H⟩
      · obtain rfl := Option.some.inj H
        refine HQ.dPart [(2, .bool false), (3, BP b11 0), (4, .int .i64 t3.2.1), (5, .slice a9 (List.length t3.2.2) c10), (6, BP b18 0), (7, BP b25 0), (8, BP b32 0), (9, BP b41 0), (10, .slice a39 (List.length t33.2.1) c40), (11, .int .i64 t33.2.2), (12, BP b48 0), (15, .slice a58 (List.length t56.1) c59), (16, .bool t56.2), (17, .slice a62 (List.length t60.1) c63), (18, .bool t60.2), (85, .bool c84)] 20 [⟨[], [], []⟩, ⟨[], [], []⟩, ⟨[], [], []⟩, ⟨[], [], []⟩, ⟨[], [], []⟩, ⟨[], [], []⟩, ⟨[], [], []⟩, ⟨[], [], []⟩, ⟨[], [], []⟩, ⟨[], [], []⟩, ⟨[], [], []⟩, ⟨[], [], []⟩, ⟨[], [], []⟩, ⟨[], [], []⟩, ⟨[], [], []⟩, ⟨[], [], []⟩, ⟨[], [], []⟩, ⟨[], [], []⟩, ⟨[], [], []⟩, ⟨[], [], []⟩] [] (fun (g96 : Unit) => [undef, undef, undef, undef, undef, undef, undef, undef, undef, undef, undef, undef, undef, undef, undef, undef, undef, undef, undef, undef]) (fun (g96 : Unit) => []) () [] [] [] ⟨rfl, rfl, rfl, rfl, rfl, rfl, rfl, rfl, rfl, rfl, rfl, rfl, rfl, rfl, rfl, rfl, trivial⟩ trivial rfl (by kernel_rfl) (by kernel_rfl) (fun _ => rfl) (by kernel_rfl) (fun _ => rfl) rfl ⟨?_, ?_, ?_, ?_, ?_, trivial⟩ fun g96 => ?_
        · exact OpOK2.off rfl rfl rfl hg86 rfl rfl (fun _ => ⟨rfl, trivial⟩)
        · exact OpOK2.off rfl rfl rfl hg86 rfl rfl (fun _ => ⟨rfl, trivial⟩)
        · exact OpOK2.off rfl rfl rfl hg86 rfl rfl (fun _ => ⟨rfl, trivial⟩)
        · exact OpOK2.off rfl rfl rfl hg86 rfl rfl (fun _ => ⟨rfl, trivial⟩)
        · exact OpOK2.off rfl rfl rfl hg86 rfl rfl (fun _ => ⟨rfl, trivial⟩)
        refine HQ.keep [(2, _), (3, _), (4, _), (5, _), (6, _), (7, _), (8, _), (10, _), (12, _), (15, _), (16, _), (17, _), (18, _), (85, _), (86, _), (90, _)] ⟨rfl, rfl, rfl, rfl, rfl, rfl, rfl, rfl, rfl, rfl, rfl, rfl, rfl, rfl, rfl, rfl, trivial⟩ ?_
        refine HQ.keepR [(1, _), (2, _), (3, _), (4, _), (5, _), (6, _), (7, _), (8, _), (9, _), (10, _), (11, _), (12, _), (13, _), (14, _), (15, _), (16, _), (17, _), (18, _), (19, _), (20, _), (21, _), (22, _), (23, _), (24, _), (25, _), (26, _), (27, _)] ⟨rfl, rfl, rfl, rfl, rfl, rfl, rfl, rfl, rfl, rfl, rfl, rfl, rfl, rfl, rfl, rfl, rfl, rfl, rfl, rfl, rfl, rfl, rfl, rfl, rfl, rfl, rfl, trivial⟩ rfl ?_
        refine HQ.dRun 2 rfl rfl (by kernel_rfl) (by kernel_rfl) ?_
        refine HQ.off rfl rfl hg86 rfl ?_
        refine HQ.off rfl rfl hg86 rfl ?_
        refine HQ.done ?_
        refine HQ.dRun 1 rfl rfl (by kernel_rfl) (by kernel_rfl) ?_
        refine HQ.pu (Pu.pickC1 hg86) ⟨rfl, rfl, trivial⟩ rfl rfl rfl ?_
        refine HQ.done ?_
        exact HQ.dUse hmid ⟨rfl, rfl, rfl, rfl, rfl, rfl, rfl, rfl, rfl, rfl, rfl, rfl, rfl, rfl, trivial⟩ ⟨rfl, rfl, rfl, rfl, rfl, rfl, rfl, rfl, rfl, rfl, rfl, rfl, rfl, rfl, rfl, rfl, rfl, rfl, rfl, rfl, rfl, rfl, rfl, rfl, rfl, rfl, rfl, trivial⟩ rfl
      · obtain ⟨t88, h89, H⟩ := bnd H
        refine HQ.dPart [(2, .bool false), (3, BP b11 0), (4, .int .i64 t3.2.1), (5, .slice a9 (List.length t3.2.2) c10), (6, BP b18 0), (7, BP b25 0), (8, BP b32 0), (9, BP b41 0), (10, .slice a39 (List.length t33.2.1) c40), (11, .int .i64 t33.2.2), (12, BP b48 0), (15, .slice a58 (List.length t56.1) c59), (16, .bool t56.2), (17, .slice a62 (List.length t60.1) c63), (18, .bool t60.2), (85, .bool c84)] 20 [⟨[], [], []⟩, ⟨[], [], []⟩, ⟨[], [], []⟩, ⟨[], [], []⟩, ⟨[], [], []⟩, ⟨[], [], []⟩, ⟨[], [], []⟩, ⟨[], [], []⟩, ⟨[], [], []⟩, ⟨[], [], []⟩, ⟨[], [], []⟩, ⟨[], [], []⟩, ⟨[], [], []⟩, ⟨[], [], []⟩, ⟨[], [], []⟩, ⟨[0], [0], []⟩, ⟨[1], [1], []⟩, ⟨[], [], []⟩, ⟨[], [], []⟩, ⟨[2, 3, 4], [5, 6, 2, 3, 4], [16, 17, 18]⟩] [⟨none, none⟩, ⟨none, none⟩, ⟨none, none⟩, ⟨none, none⟩, ⟨none, none⟩, ⟨some 19, none⟩, ⟨some 19, none⟩] (fun (g87 : ((Option Addr × Nat) × (Option Addr × Nat))) => [undef, undef, undef, undef, undef, undef, undef, undef, undef, undef, undef, undef, undef, undef, undef, .agg #[.slice a44 (List.length t42.Cells) c45, .slice a46 (List.length t42.Wet) c47, .int .i64 t42.Fuse, .bool t42.Dead], .agg #[.slice a35 (List.length t33.1.Cells) c36, .slice a37 (List.length t33.1.Wet) c38, .int .i64 t33.1.Fuse, .bool t33.1.Dead], .slice a39 (List.length t33.2.1) c40, .int .i64 t33.2.2, .agg #[.slice g87.1.1 (List.length t88.Cells) g87.1.2, .slice g87.2.1 (List.length t88.Wet) g87.2.2, .int .i64 t88.Fuse, .bool t88.Dead]]) (fun (g87 : ((Option Addr × Nat) × (Option Addr × Nat))) => [Box b48 [.slice a44 (List.length t42.Cells) c45, .slice a46 (List.length t42.Wet) c47, .int .i64 t42.Fuse, .bool t42.Dead], Box b41 [.slice a35 (List.length t33.1.Cells) c36, .slice a37 (List.length t33.1.Wet) c38, .int .i64 t33.1.Fuse, .bool t33.1.Dead], OwnS kTCell a35 c36 t33.1.Cells, OwnS kTWet a37 c38 t33.1.Wet, OwnS kI a39 c40 t33.2.1, OwnS kTCell g87.1.1 g87.1.2 t88.Cells, OwnS kTWet g87.2.1 g87.2.2 t88.Wet]) ((none, 0), (none, 0)) [20, 17, 14, 15, 16] [20, 17, 14, 15, 16, 30, 31] [] ⟨rfl, rfl, rfl, rfl, rfl, rfl, rfl, rfl, rfl, rfl, rfl, rfl, rfl, rfl, rfl, rfl, trivial⟩ ⟨rfl, rfl, rfl, rfl, rfl, trivial⟩ rfl (by kernel_rfl) (by kernel_rfl) (fun _ => rfl) (by kernel_rfl) (fun _ => rfl) rfl ⟨?_, ?_, ?_, ?_, ?_, trivial⟩ fun g87 => ?_
        · exact OpOK2.on (fun g87 => [(.tmp 12, BP b48 0)]) _ _ (fun g87 _ => g87) rfl rfl rfl hg86 (fun _ => ⟨rfl, trivial⟩) (fun g87 => OT.loadBA (vs := [.slice a44 (List.length t42.Cells) c45, .slice a46 (List.length t42.Wet) c47, .int .i64 t42.Fuse, .bool t42.Dead]) ag27 sz27 rfl rfl) (fun _ _ => ⟨rfl, rfl, ⟨rfl, rfl, rfl, rfl, rfl, rfl, rfl, trivial⟩⟩)
        · exact OpOK2.on (fun g87 => [(.tmp 9, BP b41 0)]) _ _ (fun g87 _ => g87) rfl rfl rfl hg86 (fun _ => ⟨rfl, trivial⟩) (fun g87 => OT.loadBA (vs := [.slice a35 (List.length t33.1.Cells) c36, .slice a37 (List.length t33.1.Wet) c38, .int .i64 t33.1.Fuse, .bool t33.1.Dead]) ag27 sz27 rfl rfl) (fun _ _ => ⟨rfl, rfl, ⟨rfl, rfl, rfl, rfl, rfl, rfl, rfl, trivial⟩⟩)
        · exact OpOK2.on (fun g87 => [(.tmp 10, .slice a39 (List.length t33.2.1) c40)]) _ _ (fun g87 _ => g87) rfl rfl rfl hg86 (fun _ => ⟨rfl, trivial⟩) (fun g87 => Pu.toOT Pu.move) (fun _ _ => ⟨rfl, rfl, ⟨rfl, rfl, rfl, rfl, rfl, rfl, rfl, trivial⟩⟩)
        · exact OpOK2.on (fun g87 => [(.tmp 11, .int .i64 t33.2.2)]) _ _ (fun g87 _ => g87) rfl rfl rfl hg86 (fun _ => ⟨rfl, trivial⟩) (fun g87 => Pu.toOT Pu.move) (fun _ _ => ⟨rfl, rfl, ⟨rfl, rfl, rfl, rfl, rfl, rfl, rfl, trivial⟩⟩)
        · exact OpOK2.on (fun g87 => [(.func 22, .func (.func 22) #[] #[]), (.tmp 87, .agg #[.slice a35 (List.length t33.1.Cells) c36, .slice a37 (List.length t33.1.Wet) c38, .int .i64 t33.1.Fuse, .bool t33.1.Dead]), (.tmp 88, .slice a39 (List.length t33.2.1) c40), (.tmp 89, .int .i64 t33.2.2)]) _ _ (fun g87 x => x) rfl rfl rfl hg86 (fun _ => ⟨rfl, rfl, rfl, rfl, trivial⟩) (fun g87 => OT.call (us := [_, _, _]) (Pre := [OwnS kTCell a35 c36 t33.1.Cells, OwnS kTWet a37 c38 t33.1.Wet, OwnS kI a39 c40 t33.2.1]) [.tmp 87, .tmp 88, .tmp 89] Try.call22 rfl rfl fun w F hs hF hp => spec_Crash_c (hs.lend hF 0 rfl) (hs.lend hF 1 rfl) (hs.lend hF 2 rfl) h89) (fun _ _ => ⟨rfl, rfl, ⟨rfl, rfl, rfl, rfl, rfl, rfl, rfl, trivial⟩⟩)
        refine HQ.keep [(2, _), (3, _), (4, _), (5, _), (6, _), (7, _), (8, _), (10, _), (12, _), (15, _), (16, _), (17, _), (18, _), (85, _), (86, _), (90, _)] ⟨rfl, rfl, rfl, rfl, rfl, rfl, rfl, rfl, rfl, rfl, rfl, rfl, rfl, rfl, rfl, rfl, trivial⟩ ?_
        refine HQ.keepR [(1, _), (2, _), (3, _), (4, _), (5, _), (6, _), (7, _), (8, _), (9, _), (10, _), (11, _), (12, _), (13, _), (14, _), (15, _), (16, _), (17, _), (18, _), (19, _), (20, _), (21, _), (22, _), (23, _), (24, _), (25, _), (26, _), (27, _), (30, _), (31, _)] ⟨rfl, rfl, rfl, rfl, rfl, rfl, rfl, rfl, rfl, rfl, rfl, rfl, rfl, rfl, rfl, rfl, rfl, rfl, rfl, rfl, rfl, rfl, rfl, rfl, rfl, rfl, rfl, rfl, rfl, trivial⟩ rfl ?_
        refine HQ.dRun 2 rfl rfl (by kernel_rfl) (by kernel_rfl) ?_
        refine HQ.on rfl rfl hg86 ?_
        obtain ⟨t94, h95, H⟩ := bnd H
        refine HQ.op [18, 19, 30, 31] [18, 19, 30, 31] (OT.call (us := [_, _]) (Pre := [OwnS kTCell a44 c45 t42.Cells, OwnS kTWet a46 c47 t42.Wet, OwnS kTCell g87.1.1 g87.1.2 t88.Cells, OwnS kTWet g87.2.1 g87.2.2 t88.Wet]) [.tmp 86, .tmp 90] Try.call19 rfl rfl fun w F hs hF hp => laws_sameDisk_c (hs.lend hF 0 rfl) (hs.lend hF 1 rfl) (hs.lend hF 2 rfl) (hs.lend hF 3 rfl) h95) ⟨rfl, rfl, rfl, trivial⟩ ⟨rfl, rfl, rfl, rfl, trivial⟩ rfl rfl rfl rfl (fun _ => rfl) fun _ => ?_
        refine HQ.on rfl rfl hg86 ?_
        refine HQ.pu Pu.not ⟨rfl, trivial⟩ rfl rfl rfl ?_
        refine HQ.done ?_
        obtain rfl := Option.some.inj H
        refine HQ.dRun 1 rfl rfl (by kernel_rfl) (by kernel_rfl) ?_
        refine HQ.pu (Pu.pickC0 hg86) ⟨rfl, rfl, trivial⟩ rfl rfl rfl ?_
        refine HQ.done ?_
        exact HQ.dUse hmid ⟨rfl, rfl, rfl, rfl, rfl, rfl, rfl, rfl, rfl, rfl, rfl, rfl, rfl, rfl, trivial⟩ ⟨rfl, rfl, rfl, rfl, rfl, rfl, rfl, rfl, rfl, rfl, rfl, rfl, rfl, rfl, rfl, rfl, rfl, rfl, rfl, rfl, rfl, rfl, rfl, rfl, rfl, rfl, rfl, trivial⟩ rfl
    refine HQ.dRun 1 rfl rfl (by kernel_rfl) (by kernel_rfl) ?_
    refine HQ.pu Pu.move ⟨rfl, trivial⟩ rfl rfl rfl ?_
    refine HQ.done ?_
    obtain ⟨c104, h105, H⟩ := bnd H
    refine HQ.dMid (m' := 29) [(99, .bool c104), (2, .bool false), (3, BP b11 0), (4, .int .i64 t3.2.1), (5, .slice a9 (List.length t3.2.2) c10), (6, BP b18 0), (7, BP b25 0), (8, BP b32 0), (10, .slice a39 (List.length t33.2.1) c40), (12, BP b48 0), (16, .bool t56.2), (18, .bool t60.2)] [(1, OwnS kTCell a5 c6 t3.1.Cells), (2, OwnS kTWet a7 c8 t3.1.Wet), (3, OwnS kU8 a9 c10 t3.2.2), (4, Box b11 [.slice a5 (List.length t3.1.Cells) c6, .slice a7 (List.length t3.1.Wet) c8, .int .i64 t3.1.Fuse, .bool t3.1.Dead]), (5, OwnS kTCell a14 c15 t12.Cells), (6, OwnS kTWet a16 c17 t12.Wet), (7, Box b18 [.slice a14 (List.length t12.Cells) c15, .slice a16 (List.length t12.Wet) c17, .int .i64 t12.Fuse, .bool t12.Dead]), (8, OwnS kTCell a21 c22 t19.Cells), (9, OwnS kTWet a23 c24 t19.Wet), (10, Box b25 [.slice a21 (List.length t19.Cells) c22, .slice a23 (List.length t19.Wet) c24, .int .i64 t19.Fuse, .bool t19.Dead]), (11, OwnS kTCell a28 c29 t26.Cells), (12, OwnS kTWet a30 c31 t26.Wet), (13, Box b32 [.slice a28 (List.length t26.Cells) c29, .slice a30 (List.length t26.Wet) c31, .int .i64 t26.Fuse, .bool t26.Dead]), (14, OwnS kTCell a35 c36 t33.1.Cells), (15, OwnS kTWet a37 c38 t33.1.Wet), (16, OwnS kI a39 c40 t33.2.1), (17, Box b41 [.slice a35 (List.length t33.1.Cells) c36, .slice a37 (List.length t33.1.Wet) c38, .int .i64 t33.1.Fuse, .bool t33.1.Dead]), (18, OwnS kTCell a44 c45 t42.Cells), (19, OwnS kTWet a46 c47 t42.Wet), (20, Box b48 [.slice a44 (List.length t42.Cells) c45, .slice a46 (List.length t42.Wet) c47, .int .i64 t42.Fuse, .bool t42.Dead]), (21, OwnS kTCell a51 c52 t49.1.Cells), (22, OwnS kTWet a53 c54 t49.1.Wet), (23, Box b55 [.slice a51 (List.length t49.1.Cells) c52, .slice a53 (List.length t49.1.Wet) c54, .int .i64 t49.1.Fuse, .bool t49.1.Dead]), (24, OwnS kU8 a58 c59 t56.1), (25, OwnS kU8 a62 c63 t60.1), (26, OwnS kTCell g64.1.1 g64.1.2 t65.Cells), (27, OwnS kTWet g64.2.1 g64.2.2 t65.Wet)] (fun hmid => ?_) ?_
    · clear H
      have H := h105
      rcases brk H with ⟨hg99, H⟩ | ⟨hg99, H⟩
      · obtain rfl := Option.some.inj H
        refine HQ.dPart [(2, .bool false), (3, BP b11 0), (4, .int .i64 t3.2.1), (5, .slice a9 (List.length t3.2.2) c10), (6, BP b18 0), (7, BP b25 0), (8, BP b32 0), (10, .slice a39 (List.length t33.2.1) c40), (12, BP b48 0), (15, .slice a58 (List.length t56.1) c59), (16, .bool t56.2), (17, .slice a62 (List.length t60.1) c63), (18, .bool t60.2), (94, .bool c97)] 26 [⟨[], [], []⟩, ⟨[], [], []⟩, ⟨[], [], []⟩, ⟨[], [], []⟩, ⟨[], [], []⟩, ⟨[], [], []⟩, ⟨[], [], []⟩, ⟨[], [], []⟩, ⟨[], [], []⟩, ⟨[], [], []⟩, ⟨[], [], []⟩, ⟨[], [], []⟩, ⟨[], [], []⟩, ⟨[], [], []⟩, ⟨[], [], []⟩, ⟨[], [], []⟩, ⟨[], [], []⟩, ⟨[], [], []⟩, ⟨[], [], []⟩, ⟨[], [], []⟩, ⟨[], [], []⟩, ⟨[], [], []⟩, ⟨[], [], []⟩, ⟨[], [], []⟩, ⟨[], [], []⟩, ⟨[], [], []⟩] [] (fun (g103 : Unit) => [undef, undef, undef, undef, undef, undef, undef, undef, undef, undef, undef, undef, undef, undef, undef, undef, undef, undef, undef, undef, undef, undef, undef, undef, undef, undef]) (fun (g103 : Unit) => []) () [] [] [] ⟨rfl, rfl, rfl, rfl, rfl, rfl, rfl, rfl, rfl, rfl, rfl, rfl, rfl, rfl, trivial⟩ trivial rfl (by kernel_rfl) (by kernel_rfl) (fun _ => rfl) (by kernel_rfl) (fun _ => rfl) rfl ⟨?_, ?_, trivial⟩ fun g103 => ?_
        · exact OpOK2.off rfl rfl rfl hg99 rfl rfl (fun _ => ⟨rfl, trivial⟩)
        · exact OpOK2.off rfl rfl rfl hg99 rfl rfl (fun _ => ⟨rfl, trivial⟩)
        refine HQ.keep [(2, _), (3, _), (4, _), (5, _), (6, _), (7, _), (8, _), (10, _), (12, _), (16, _), (18, _), (94, _), (95, _), (96, _)] ⟨rfl, rfl, rfl, rfl, rfl, rfl, rfl, rfl, rfl, rfl, rfl, rfl, rfl, rfl, trivial⟩ ?_
        refine HQ.keepR [(1, _), (2, _), (3, _), (4, _), (5, _), (6, _), (7, _), (8, _), (9, _), (10, _), (11, _), (12, _), (13, _), (14, _), (15, _), (16, _), (17, _), (18, _), (19, _), (20, _), (21, _), (22, _), (23, _), (24, _), (25, _), (26, _), (27, _)] ⟨rfl, rfl, rfl, rfl, rfl, rfl, rfl, rfl, rfl, rfl, rfl, rfl, rfl, rfl, rfl, rfl, rfl, rfl, rfl, rfl, rfl, rfl, rfl, rfl, rfl, rfl, rfl, trivial⟩ rfl ?_
        refine HQ.dRun 2 rfl rfl (by kernel_rfl) (by kernel_rfl) ?_
        refine HQ.off rfl rfl hg99 rfl ?_
        refine HQ.off rfl rfl hg99 rfl ?_
        refine HQ.done ?_
        refine HQ.dRun 1 rfl rfl (by kernel_rfl) (by kernel_rfl) ?_
        refine HQ.pu (Pu.pickC1 hg99) ⟨rfl, rfl, trivial⟩ rfl rfl rfl ?_
        refine HQ.done ?_
        exact HQ.dUse hmid ⟨rfl, rfl, rfl, rfl, rfl, rfl, rfl, rfl, rfl, rfl, rfl, rfl, trivial⟩ ⟨rfl, rfl, rfl, rfl, rfl, rfl, rfl, rfl, rfl, rfl, rfl, rfl, rfl, rfl, rfl, rfl, rfl, rfl, rfl, rfl, rfl, rfl, rfl, rfl, rfl, rfl, rfl, trivial⟩ rfl
      · refine HQ.dPart [(2, .bool false), (3, BP b11 0), (4, .int .i64 t3.2.1), (5, .slice a9 (List.length t3.2.2) c10), (6, BP b18 0), (7, BP b25 0), (8, BP b32 0), (10, .slice a39 (List.length t33.2.1) c40), (12, BP b48 0), (15, .slice a58 (List.length t56.1) c59), (16, .bool t56.2), (17, .slice a62 (List.length t60.1) c63), (18, .bool t60.2), (94, .bool c97)] 26 [⟨[], [], []⟩, ⟨[], [], []⟩, ⟨[], [], []⟩, ⟨[], [], []⟩, ⟨[], [], []⟩, ⟨[], [], []⟩, ⟨[], [], []⟩, ⟨[], [], []⟩, ⟨[], [], []⟩, ⟨[], [], []⟩, ⟨[], [], []⟩, ⟨[], [], []⟩, ⟨[], [], []⟩, ⟨[], [], []⟩, ⟨[], [], []⟩, ⟨[], [], []⟩, ⟨[], [], []⟩, ⟨[], [], []⟩, ⟨[], [], []⟩, ⟨[], [], []⟩, ⟨[], [], []⟩, ⟨[], [], []⟩, ⟨[], [], []⟩, ⟨[], [], []⟩, ⟨[], [], []⟩, ⟨[], [], []⟩] [] (fun (g100 : Unit) => [undef, undef, undef, undef, undef, undef, undef, undef, undef, undef, undef, undef, undef, undef, undef, undef, undef, undef, undef, undef, undef, undef, undef, undef, .slice a58 (List.length t56.1) c59, .slice a62 (List.length t60.1) c63]) (fun (g100 : Unit) => []) () [] [] [] ⟨rfl, rfl, rfl, rfl, rfl, rfl, rfl, rfl, rfl, rfl, rfl, rfl, rfl, rfl, trivial⟩ trivial rfl (by kernel_rfl) (by kernel_rfl) (fun _ => rfl) (by kernel_rfl) (fun _ => rfl) rfl ⟨?_, ?_, trivial⟩ fun g100 => ?_
        · exact OpOK2.on (fun g100 => [(.tmp 15, .slice a58 (List.length t56.1) c59)]) _ _ (fun g100 _ => g100) rfl rfl rfl hg99 (fun _ => ⟨rfl, trivial⟩) (fun g100 => Pu.toOT Pu.move) (fun _ _ => ⟨rfl, rfl, trivial⟩)
        · exact OpOK2.on (fun g100 => [(.tmp 17, .slice a62 (List.length t60.1) c63)]) _ _ (fun g100 _ => g100) rfl rfl rfl hg99 (fun _ => ⟨rfl, trivial⟩) (fun g100 => Pu.toOT Pu.move) (fun _ _ => ⟨rfl, rfl, trivial⟩)
        refine HQ.keep [(2, _), (3, _), (4, _), (5, _), (6, _), (7, _), (8, _), (10, _), (12, _), (16, _), (18, _), (94, _), (95, _), (96, _)] ⟨rfl, rfl, rfl, rfl, rfl, rfl, rfl, rfl, rfl, rfl, rfl, rfl, rfl, rfl, trivial⟩ ?_
        refine HQ.keepR [(1, _), (2, _), (3, _), (4, _), (5, _), (6, _), (7, _), (8, _), (9, _), (10, _), (11, _), (12, _), (13, _), (14, _), (15, _), (16, _), (17, _), (18, _), (19, _), (20, _), (21, _), (22, _), (23, _), (24, _), (25, _), (26, _), (27, _)] ⟨rfl, rfl, rfl, rfl, rfl, rfl, rfl, rfl, rfl, rfl, rfl, rfl, rfl, rfl, rfl, rfl, rfl, rfl, rfl, rfl, rfl, rfl, rfl, rfl, rfl, rfl, rfl, trivial⟩ rfl ?_
        refine HQ.dRun 2 rfl rfl (by kernel_rfl) (by kernel_rfl) ?_
        refine HQ.on rfl rfl hg99 ?_
        obtain ⟨t101, h102, H⟩ := bnd H
        refine HQ.op [24, 25] [24, 25] (OT.call (us := [_, _]) (Pre := [OwnS kU8 a58 c59 t56.1, OwnS kU8 a62 c63 t60.1]) [.tmp 95, .tmp 96] Try.call23 rfl rfl fun w F hs hF hp => laws_same_c (hs.lend hF 0 rfl) (hs.lend hF 1 rfl) h102) ⟨rfl, rfl, rfl, trivial⟩ ⟨rfl, rfl, trivial⟩ rfl rfl rfl rfl (fun _ => rfl) fun _ => ?_
        refine HQ.on rfl rfl hg99 ?_
        refine HQ.pu Pu.not ⟨rfl, trivial⟩ rfl rfl rfl ?_
        refine HQ.done ?_
        obtain rfl := Option.some.inj H
        refine HQ.dRun 1 rfl rfl (by kernel_rfl) (by kernel_rfl) ?_
        refine HQ.pu (Pu.pickC0 hg99) ⟨rfl, rfl, trivial⟩ rfl rfl rfl ?_
        refine HQ.done ?_
        exact HQ.dUse hmid ⟨rfl, rfl, rfl, rfl, rfl, rfl, rfl, rfl, rfl, rfl, rfl, rfl, trivial⟩ ⟨rfl, rfl, rfl, rfl, rfl, rfl, rfl, rfl, rfl, rfl, rfl, rfl, rfl, rfl, rfl, rfl, rfl, rfl, rfl, rfl, rfl, rfl, rfl, rfl, rfl, rfl, rfl, trivial⟩ rfl
    refine HQ.dRun 1 rfl rfl (by kernel_rfl) (by kernel_rfl) ?_
    refine HQ.pu Pu.move ⟨rfl, trivial⟩ rfl rfl rfl ?_
    refine HQ.done ?_
    refine HQ.dMid (m' := 34) [(104, .bool (c104 || (!(t56.2 == t60.2)))), (2, .bool false), (3, BP b11 0), (4, .int .i64 t3.2.1), (5, .slice a9 (List.length t3.2.2) c10), (6, BP b18 0), (7, BP b25 0), (8, BP b32 0), (10, .slice a39 (List.length t33.2.1) c40), (12, BP b48 0)] [(1, OwnS kTCell a5 c6 t3.1.Cells), (2, OwnS kTWet a7 c8 t3.1.Wet), (3, OwnS kU8 a9 c10 t3.2.2), (4, Box b11 [.slice a5 (List.length t3.1.Cells) c6, .slice a7 (List.length t3.1.Wet) c8, .int .i64 t3.1.Fuse, .bool t3.1.Dead]), (5, OwnS kTCell a14 c15 t12.Cells), (6, OwnS kTWet a16 c17 t12.Wet), (7, Box b18 [.slice a14 (List.length t12.Cells) c15, .slice a16 (List.length t12.Wet) c17, .int .i64 t12.Fuse, .bool t12.Dead]), (8, OwnS kTCell a21 c22 t19.Cells), (9, OwnS kTWet a23 c24 t19.Wet), (10, Box b25 [.slice a21 (List.length t19.Cells) c22, .slice a23 (List.length t19.Wet) c24, .int .i64 t19.Fuse, .bool t19.Dead]), (11, OwnS kTCell a28 c29 t26.Cells), (12, OwnS kTWet a30 c31 t26.Wet), (13, Box b32 [.slice a28 (List.length t26.Cells) c29, .slice a30 (List.length t26.Wet) c31, .int .i64 t26.Fuse, .bool t26.Dead]), (14, OwnS kTCell a35 c36 t33.1.Cells), (15, OwnS kTWet a37 c38 t33.1.Wet), (16, OwnS kI a39 c40 t33.2.1), (17, Box b41 [.slice a35 (List.length t33.1.Cells) c36, .slice a37 (List.length t33.1.Wet) c38, .int .i64 t33.1.Fuse, .bool t33.1.Dead]), (18, OwnS kTCell a44 c45 t42.Cells), (19, OwnS kTWet a46 c47 t42.Wet), (20, Box b48 [.slice a44 (List.length t42.Cells) c45, .slice a46 (List.length t42.Wet) c47, .int .i64 t42.Fuse, .bool t42.Dead]), (21, OwnS kTCell a51 c52 t49.1.Cells), (22, OwnS kTWet a53 c54 t49.1.Wet), (23, Box b55 [.slice a51 (List.length t49.1.Cells) c52, .slice a53 (List.length t49.1.Wet) c54, .int .i64 t49.1.Fuse, .bool t49.1.Dead]), (24, OwnS kU8 a58 c59 t56.1), (25, OwnS kU8 a62 c63 t60.1), (26, OwnS kTCell g64.1.1 g64.1.2 t65.Cells), (27, OwnS kTWet g64.2.1 g64.2.2 t65.Wet)] (fun hmid => ?_) ?_
    · rcases Bool.eq_false_or_eq_true c104 with hg106 | hg106
      · refine HQ.dPart [(2, .bool false), (3, BP b11 0), (4, .int .i64 t3.2.1), (5, .slice a9 (List.length t3.2.2) c10), (6, BP b18 0), (7, BP b25 0), (8, BP b32 0), (10, .slice a39 (List.length t33.2.1) c40), (12, BP b48 0), (16, .bool t56.2), (18, .bool t60.2), (100, .bool c104)] 32 [⟨[], [], []⟩, ⟨[], [], []⟩, ⟨[], [], []⟩, ⟨[], [], []⟩, ⟨[], [], []⟩, ⟨[], [], []⟩, ⟨[], [], []⟩, ⟨[], [], []⟩, ⟨[], [], []⟩, ⟨[], [], []⟩, ⟨[], [], []⟩, ⟨[], [], []⟩, ⟨[], [], []⟩, ⟨[], [], []⟩, ⟨[], [], []⟩, ⟨[], [], []⟩, ⟨[], [], []⟩, ⟨[], [], []⟩, ⟨[], [], []⟩, ⟨[], [], []⟩, ⟨[], [], []⟩, ⟨[], [], []⟩, ⟨[], [], []⟩, ⟨[], [], []⟩, ⟨[], [], []⟩, ⟨[], [], []⟩, ⟨[], [], []⟩, ⟨[], [], []⟩, ⟨[], [], []⟩, ⟨[], [], []⟩, ⟨[], [], []⟩, ⟨[], [], []⟩] [] (fun (g108 : Unit) => [undef, undef, undef, undef, undef, undef, undef, undef, undef, undef, undef, undef, undef, undef, undef, undef, undef, undef, undef, undef, undef, undef, undef, undef, undef, undef, undef, undef, undef, undef, undef, undef]) (fun (g108 : Unit) => []) () [] [] [] ⟨rfl, rfl, rfl, rfl, rfl, rfl, rfl, rfl, rfl, rfl, rfl, rfl, trivial⟩ trivial rfl (by kernel_rfl) (by kernel_rfl) (fun _ => rfl) (by kernel_rfl) (fun _ => rfl) rfl ⟨?_, ?_, trivial⟩ fun g108 => ?_
        · exact OpOK2.off rfl rfl rfl hg106 rfl rfl (fun _ => ⟨rfl, trivial⟩)
        · exact OpOK2.off rfl rfl rfl hg106 rfl rfl (fun _ => ⟨rfl, trivial⟩)
        refine HQ.keep [(2, _), (3, _), (4, _), (5, _), (6, _), (7, _), (8, _), (10, _), (12, _), (100, _), (101, _), (102, _)] ⟨rfl, rfl, rfl, rfl, rfl, rfl, rfl, rfl, rfl, rfl, rfl, rfl, trivial⟩ ?_
        refine HQ.keepR [(1, _), (2, _), (3, _), (4, _), (5, _), (6, _), (7, _), (8, _), (9, _), (10, _), (11, _), (12, _), (13, _), (14, _), (15, _), (16, _), (17, _), (18, _), (19, _), (20, _), (21, _), (22, _), (23, _), (24, _), (25, _), (26, _), (27, _)] ⟨rfl, rfl, rfl, rfl, rfl, rfl, rfl, rfl, rfl, rfl, rfl, rfl, rfl, rfl, rfl, rfl, rfl, rfl, rfl, rfl, rfl, rfl, rfl, rfl, rfl, rfl, rfl, trivial⟩ rfl ?_
        refine HQ.dRun 1 rfl rfl (by kernel_rfl) (by kernel_rfl) ?_
        refine HQ.off rfl rfl hg106 rfl ?_
        refine HQ.done ?_
        refine HQ.dRun 1 rfl rfl (by kernel_rfl) (by kernel_rfl) ?_
        refine HQ.pu (Pu.pickOT (u := (!(t56.2 == t60.2))) hg106) ⟨rfl, rfl, trivial⟩ rfl rfl rfl ?_
        refine HQ.done ?_
        exact HQ.dUse hmid ⟨rfl, rfl, rfl, rfl, rfl, rfl, rfl, rfl, rfl, rfl, trivial⟩ ⟨rfl, rfl, rfl, rfl, rfl, rfl, rfl, rfl, rfl, rfl, rfl, rfl, rfl, rfl, rfl, rfl, rfl, rfl, rfl, rfl, rfl, rfl, rfl, rfl, rfl, rfl, rfl, trivial⟩ rfl
      · refine HQ.dPart [(2, .bool false), (3, BP b11 0), (4, .int .i64 t3.2.1), (5, .slice a9 (List.length t3.2.2) c10), (6, BP b18 0), (7, BP b25 0), (8, BP b32 0), (10, .slice a39 (List.length t33.2.1) c40), (12, BP b48 0), (16, .bool t56.2), (18, .bool t60.2), (100, .bool c104)] 32 [⟨[], [], []⟩, ⟨[], [], []⟩, ⟨[], [], []⟩, ⟨[], [], []⟩, ⟨[], [], []⟩, ⟨[], [], []⟩, ⟨[], [], []⟩, ⟨[], [], []⟩, ⟨[], [], []⟩, ⟨[], [], []⟩, ⟨[], [], []⟩, ⟨[], [], []⟩, ⟨[], [], []⟩, ⟨[], [], []⟩, ⟨[], [], []⟩, ⟨[], [], []⟩, ⟨[], [], []⟩, ⟨[], [], []⟩, ⟨[], [], []⟩, ⟨[], [], []⟩, ⟨[], [], []⟩, ⟨[], [], []⟩, ⟨[], [], []⟩, ⟨[], [], []⟩, ⟨[], [], []⟩, ⟨[], [], []⟩, ⟨[], [], []⟩, ⟨[], [], []⟩, ⟨[], [], []⟩, ⟨[], [], []⟩, ⟨[], [], []⟩, ⟨[], [], []⟩] [] (fun (g107 : Unit) => [undef, undef, undef, undef, undef, undef, undef, undef, undef, undef, undef, undef, undef, undef, undef, undef, undef, undef, undef, undef, undef, undef, undef, undef, undef, undef, undef, undef, undef, undef, .bool t56.2, .bool t60.2]) (fun (g107 : Unit) => []) () [] [] [] ⟨rfl, rfl, rfl, rfl, rfl, rfl, rfl, rfl, rfl, rfl, rfl, rfl, trivial⟩ trivial rfl (by kernel_rfl) (by kernel_rfl) (fun _ => rfl) (by kernel_rfl) (fun _ => rfl) rfl ⟨?_, ?_, trivial⟩ fun g107 => ?_
        · exact OpOK2.on (fun g107 => [(.tmp 16, .bool t56.2)]) _ _ (fun g107 _ => g107) rfl rfl rfl hg106 (fun _ => ⟨rfl, trivial⟩) (fun g107 => Pu.toOT Pu.move) (fun _ _ => ⟨rfl, rfl, trivial⟩)
        · exact OpOK2.on (fun g107 => [(.tmp 18, .bool t60.2)]) _ _ (fun g107 _ => g107) rfl rfl rfl hg106 (fun _ => ⟨rfl, trivial⟩) (fun g107 => Pu.toOT Pu.move) (fun _ _ => ⟨rfl, rfl, trivial⟩)
        refine HQ.keep [(2, _), (3, _), (4, _), (5, _), (6, _), (7, _), (8, _), (10, _), (12, _), (100, _), (101, _), (102, _)] ⟨rfl, rfl, rfl, rfl, rfl, rfl, rfl, rfl, rfl, rfl, rfl, rfl, trivial⟩ ?_
        refine HQ.keepR [(1, _), (2, _), (3, _), (4, _), (5, _), (6, _), (7, _), (8, _), (9, _), (10, _), (11, _), (12, _), (13, _), (14, _), (15, _), (16, _), (17, _), (18, _), (19, _), (20, _), (21, _), (22, _), (23, _), (24, _), (25, _), (26, _), (27, _)] ⟨rfl, rfl, rfl, rfl, rfl, rfl, rfl, rfl, rfl, rfl, rfl, rfl, rfl, rfl, rfl, rfl, rfl, rfl, rfl, rfl, rfl, rfl, rfl, rfl, rfl, rfl, rfl, trivial⟩ rfl ?_
        refine HQ.dRun 1 rfl rfl (by kernel_rfl) (by kernel_rfl) ?_
        refine HQ.on rfl rfl hg106 ?_
        refine HQ.pu (Pu.neqB ul4) ⟨rfl, rfl, trivial⟩ rfl rfl rfl ?_
        refine HQ.done ?_
        refine HQ.dRun 1 rfl rfl (by kernel_rfl) (by kernel_rfl) ?_
        refine HQ.pu (Pu.pickOF hg106) ⟨rfl, rfl, trivial⟩ rfl rfl rfl ?_
        refine HQ.done ?_
        exact HQ.dUse hmid ⟨rfl, rfl, rfl, rfl, rfl, rfl, rfl, rfl, rfl, rfl, trivial⟩ ⟨rfl, rfl, rfl, rfl, rfl, rfl, rfl, rfl, rfl, rfl, rfl, rfl, rfl, rfl, rfl, rfl, rfl, rfl, rfl, rfl, rfl, rfl, rfl, rfl, rfl, rfl, rfl, trivial⟩ rfl
    refine HQ.dEnd rfl ?_
    refine HQ.thenN ?_
    refine HQ.keep [(104, _), (2, _), (3, _), (4, _), (5, _), (6, _), (7, _), (8, _), (10, _), (12, _)] ⟨rfl, rfl, rfl, rfl, rfl, rfl, rfl, rfl, rfl, rfl, trivial⟩ ?_
    rcases brk H with ⟨hc, H⟩ | ⟨hc, H⟩
    · refine HQ.condT rfl hc ?_
      clear hc
      refine HQ.rseq ?_
      refine HQ.pu Pu.assign ⟨rfl, trivial⟩ rfl rfl rfl ?_
      refine HQ.done ?_
      refine HQ.keep [(2, _), (3, _), (4, _), (5, _), (6, _), (7, _), (8, _), (10, _), (12, _)] ⟨rfl, rfl, rfl, rfl, rfl, rfl, rfl, rfl, rfl, trivial⟩ ?_
      refine HQ.ret ?_
      refine HQ.thenR ?_
      obtain rfl := Option.some.inj H
      exact HQ.fin (vs := [_]) Try.results3 () ⟨rfl, trivial⟩ rfl [] trivial rfl
    · refine HQ.condF rfl hc ?_
      clear hc
      refine HQ.skipThen ?_
      refine HQ.seq ?_
      refine HQ.rseq ?_
      refine HQ.pu (Pu.fieldB fo27_1 rfl) ⟨rfl, trivial⟩ rfl rfl rfl ?_
      refine HQ.op [7] [7] (OT.loadB sc25 rfl) ⟨rfl, trivial⟩ ⟨rfl, trivial⟩ rfl rfl rfl rfl (fun _ => rfl) fun _ => ?_
      refine HQ.pu (Pu.len ul25) ⟨rfl, trivial⟩ rfl rfl rfl ?_
      refine HQ.pu (Pu.fieldB fo27_1 rfl) ⟨rfl, trivial⟩ rfl rfl rfl ?_
      refine HQ.op [4] [4] (OT.loadB sc25 rfl) ⟨rfl, trivial⟩ ⟨rfl, trivial⟩ rfl rfl rfl rfl (fun _ => rfl) fun _ => ?_
      refine HQ.pu (Pu.len ul25) ⟨rfl, trivial⟩ rfl rfl rfl ?_
      refine HQ.pu Pu.gtr ⟨rfl, rfl, trivial⟩ rfl rfl rfl ?_
      refine HQ.done ?_
      refine HQ.keep [(2, _), (4, _), (5, _), (6, _), (7, _), (8, _), (10, _), (12, _), (111, _)] ⟨rfl, rfl, rfl, rfl, rfl, rfl, rfl, rfl, rfl, trivial⟩ ?_
      rcases brk H with ⟨hc, H⟩ | ⟨hc, H⟩
      · refine HQ.condT rfl hc ?_
        clear hc
        refine HQ.rseq ?_
        refine HQ.op [7] [7] (OT.loadBA (vs := [.slice a14 (List.length t12.Cells) c15, .slice a16 (List.length t12.Wet) c17, .int .i64 t12.Fuse, .bool t12.Dead]) ag27 sz27 rfl rfl) ⟨rfl, trivial⟩ ⟨rfl, trivial⟩ rfl rfl rfl rfl (fun _ => rfl) fun _ => ?_
        refine HQ.pu Pu.move ⟨rfl, trivial⟩ rfl rfl rfl ?_
        obtain ⟨t109, h110, H⟩ := bnd H
        refine HQ.op [5, 6] [32, 5, 6] (OT.call (us := [_, _]) (Pre := [OwnS kTCell a14 c15 t12.Cells, OwnS kTWet a16 c17 t12.Wet]) [.tmp 113, .tmp 114] Try.call17 rfl rfl fun w F hs hF hp => impl_Read_c (hs.lend hF 0 rfl) (hs.lend hF 1 rfl) h110) ⟨rfl, rfl, rfl, trivial⟩ ⟨rfl, rfl, trivial⟩ rfl rfl rfl rfl (fun _ => rfl) fun ⟨a111, c112⟩ => ?_
        refine HQ.pu Pu.move ⟨rfl, trivial⟩ rfl rfl rfl ?_
        refine HQ.pu (Pu.extract rfl) ⟨rfl, trivial⟩ rfl rfl rfl ?_
        refine HQ.pu (Pu.extract rfl) ⟨rfl, trivial⟩ rfl rfl rfl ?_
        refine HQ.pu Pu.assign ⟨rfl, trivial⟩ rfl rfl rfl ?_
        refine HQ.pu Pu.assign ⟨rfl, trivial⟩ rfl rfl rfl ?_
        refine HQ.done ?_
        refine HQ.keep [(2, _), (5, _), (7, _), (8, _), (10, _), (12, _), (19, _), (20, _)] ⟨rfl, rfl, rfl, rfl, rfl, rfl, rfl, rfl, trivial⟩ ?_
        refine HQ.rseq ?_
        refine HQ.pu Pu.move ⟨rfl, trivial⟩ rfl rfl rfl ?_
        refine HQ.pu Pu.not ⟨rfl, trivial⟩ rfl rfl rfl ?_
        refine HQ.pu Pu.move ⟨rfl, trivial⟩ rfl rfl rfl ?_
        obtain ⟨c120, h121, H⟩ := bnd H
        refine HQ.cutAt 6 [(126, .bool c120), (2, .bool false), (7, BP b25 0), (8, BP b32 0), (10, .slice a39 (List.length t33.2.1) c40), (12, BP b48 0)] [(1, OwnS kTCell a5 c6 t3.1.Cells), (2, OwnS kTWet a7 c8 t3.1.Wet), (3, OwnS kU8 a9 c10 t3.2.2), (4, Box b11 [.slice a5 (List.length t3.1.Cells) c6, .slice a7 (List.length t3.1.Wet) c8, .int .i64 t3.1.Fuse, .bool t3.1.Dead]), (5, OwnS kTCell a14 c15 t12.Cells), (6, OwnS kTWet a16 c17 t12.Wet), (7, Box b18 [.slice a14 (List.length t12.Cells) c15, .slice a16 (List.length t12.Wet) c17, .int .i64 t12.Fuse, .bool t12.Dead]), (8, OwnS kTCell a21 c22 t19.Cells), (9, OwnS kTWet a23 c24 t19.Wet), (10, Box b25 [.slice a21 (List.length t19.Cells) c22, .slice a23 (List.length t19.Wet) c24, .int .i64 t19.Fuse, .bool t19.Dead]), (11, OwnS kTCell a28 c29 t26.Cells), (12, OwnS kTWet a30 c31 t26.Wet), (13, Box b32 [.slice a28 (List.length t26.Cells) c29, .slice a30 (List.length t26.Wet) c31, .int .i64 t26.Fuse, .bool t26.Dead]), (14, OwnS kTCell a35 c36 t33.1.Cells), (15, OwnS kTWet a37 c38 t33.1.Wet), (16, OwnS kI a39 c40 t33.2.1), (17, Box b41 [.slice a35 (List.length t33.1.Cells) c36, .slice a37 (List.length t33.1.Wet) c38, .int .i64 t33.1.Fuse, .bool t33.1.Dead]), (18, OwnS kTCell a44 c45 t42.Cells), (19, OwnS kTWet a46 c47 t42.Wet), (20, Box b48 [.slice a44 (List.length t42.Cells) c45, .slice a46 (List.length t42.Wet) c47, .int .i64 t42.Fuse, .bool t42.Dead]), (21, OwnS kTCell a51 c52 t49.1.Cells), (22, OwnS kTWet a53 c54 t49.1.Wet), (23, Box b55 [.slice a51 (List.length t49.1.Cells) c52, .slice a53 (List.length t49.1.Wet) c54, .int .i64 t49.1.Fuse, .bool t49.1.Dead]), (24, OwnS kU8 a58 c59 t56.1), (25, OwnS kU8 a62 c63 t60.1), (26, OwnS kTCell g64.1.1 g64.1.2 t65.Cells), (27, OwnS kTWet g64.2.1 g64.2.2 t65.Wet), (32, OwnS kU8 a111 c112 t109.1)] ?_ ?_
        · clear H
          have H := h121
          rcases brk H with ⟨hg113, H⟩ | ⟨hg113, H⟩
          · obtain rfl := Option.some.inj H
            refine HQ.off rfl rfl hg113 rfl ?_
            refine HQ.off rfl rfl hg113 rfl ?_
            refine HQ.off rfl rfl hg113 rfl ?_
            refine HQ.off rfl rfl hg113 rfl ?_
            refine HQ.off rfl rfl hg113 rfl ?_
            refine HQ.pu (Pu.pickC1 hg113) ⟨rfl, rfl, trivial⟩ rfl rfl rfl ?_
            exact HQ.mid ⟨rfl, rfl, rfl, rfl, rfl, rfl, trivial⟩ ⟨rfl, rfl, rfl, rfl, rfl, rfl, rfl, rfl, rfl, rfl, rfl, rfl, rfl, rfl, rfl, rfl, rfl, rfl, rfl, rfl, rfl, rfl, rfl, rfl, rfl, rfl, rfl, rfl, trivial⟩ rfl
          · refine HQ.on rfl rfl hg113 ?_
            refine HQ.pu Pu.move ⟨rfl, trivial⟩ rfl rfl rfl ?_
            refine HQ.on rfl rfl hg113 ?_
            refine HQ.pu Pu.move ⟨rfl, trivial⟩ rfl rfl rfl ?_
            refine HQ.on rfl rfl hg113 ?_
            obtain ⟨t114, h115, H⟩ := bnd H
            refine HQ.op [3] [33, 3] (OT.call (us := [_, _]) (Pre := [OwnS kU8 a9 c10 t3.2.2]) [.tmp 122, .const (.int .i64 32)] Try.call24 rfl rfl fun w F hs hF hp => impl_Pad_c (hs.lend hF 0 rfl) h115) ⟨rfl, rfl, rfl, trivial⟩ ⟨rfl, trivial⟩ rfl rfl rfl rfl (fun _ => rfl) fun ⟨a116, c117⟩ => ?_
            refine HQ.on rfl rfl hg113 ?_
            obtain ⟨t118, h119, H⟩ := bnd H
            refine HQ.op [32, 33] [32, 33] (OT.call (us := [_, _]) (Pre := [OwnS kU8 a111 c112 t109.1, OwnS kU8 a116 c117 t114]) [.tmp 121, .tmp 123] Try.call23 rfl rfl fun w F hs hF hp => laws_same_c (hs.lend hF 0 rfl) (hs.lend hF 1 rfl) h119) ⟨rfl, rfl, rfl, trivial⟩ ⟨rfl, rfl, trivial⟩ rfl rfl rfl rfl (fun _ => rfl) fun _ => ?_
            refine HQ.on rfl rfl hg113 ?_
            refine HQ.pu Pu.not ⟨rfl, trivial⟩ rfl rfl rfl ?_
            obtain rfl := Option.some.inj H
            refine HQ.pu (Pu.pickC0 hg113) ⟨rfl, rfl, trivial⟩ rfl rfl rfl ?_
            exact HQ.mid ⟨rfl, rfl, rfl, rfl, rfl, rfl, trivial⟩ ⟨rfl, rfl, rfl, rfl, rfl, rfl, rfl, rfl, rfl, rfl, rfl, rfl, rfl, rfl, rfl, rfl, rfl, rfl, rfl, rfl, rfl, rfl, rfl, rfl, rfl, rfl, rfl, rfl, trivial⟩ rfl
        refine HQ.done ?_
        refine HQ.keep [(126, _), (2, _), (7, _), (8, _), (10, _), (12, _)] ⟨rfl, rfl, rfl, rfl, rfl, rfl, trivial⟩ ?_
        rcases brk H with ⟨hc, H⟩ | ⟨hc, H⟩
        · refine HQ.condT rfl hc ?_
          clear hc
          refine HQ.rseq ?_
          refine HQ.pu Pu.assign ⟨rfl, trivial⟩ rfl rfl rfl ?_
          refine HQ.done ?_
          refine HQ.keep [(2, _), (7, _), (8, _), (10, _), (12, _)] ⟨rfl, rfl, rfl, rfl, rfl, trivial⟩ ?_
          refine HQ.ret ?_
          refine HQ.thenR ?_
          obtain rfl := Option.some.inj H
          exact HQ.fin (vs := [_]) Try.results3 () ⟨rfl, trivial⟩ rfl [] trivial rfl
        · refine HQ.condF rfl hc ?_
          clear hc
          refine HQ.skipThen ?_
          refine HQ.seq ?_
          refine HQ.rseq ?_
          refine HQ.pu Pu.assign ⟨rfl, trivial⟩ rfl rfl rfl ?_
          refine HQ.done ?_
          refine HQ.keep [(2, _), (7, _), (8, _), (10, _), (12, _), (21, _)] ⟨rfl, rfl, rfl, rfl, rfl, rfl, trivial⟩ ?_
          refine HQ.block ?_
          obtain ⟨o213, h242, H⟩ := bnd H
          refine HQ.loop h242 0 (fun (s : Int) (g : Unit) => match s, g with | i152, () => [(2, .bool false), (7, BP b25 0), (8, BP b32 0), (10, .slice a39 (List.length t33.2.1) c40), (12, BP b48 0), (21, .int .i64 i152)]) (fun (s : Int) (g : Unit) => match s, g with | i152, () => [(10, Box b25 [.slice a21 (List.length t19.Cells) c22, .slice a23 (List.length t19.Wet) c24, .int .i64 t19.Fuse, .bool t19.Dead]), (13, Box b32 [.slice a28 (List.length t26.Cells) c29, .slice a30 (List.length t26.Wet) c31, .int .i64 t26.Fuse, .bool t26.Dead]), (20, Box b48 [.slice a44 (List.length t42.Cells) c45, .slice a46 (List.length t42.Wet) c47, .int .i64 t42.Fuse, .bool t42.Dead]), (16, OwnS kI a39 c40 t33.2.1), (8, OwnS kTCell a21 c22 t19.Cells), (9, OwnS kTWet a23 c24 t19.Wet), (11, OwnS kTCell a28 c29 t26.Cells), (12, OwnS kTWet a30 c31 t26.Wet), (18, OwnS kTCell a44 c45 t42.Cells), (19, OwnS kTWet a46 c47 t42.Wet)]) (fun r => bodyPost Try.prog Try.f3 (Rt w Nil (fun _ : Unit => .bool r) (fun _ => [])) .ret) () ⟨rfl, rfl, rfl, rfl, rfl, rfl, trivial⟩ ⟨rfl, rfl, rfl, rfl, rfl, rfl, rfl, rfl, rfl, rfl, trivial⟩ rfl ?_ ?_ ?_
          · clear H h242
            rintro i152 _ o H
            rw [laws_FnDisks_b0] at H
            refine HQ.keep [(2, _), (7, _), (8, _), (10, _), (12, _), (21, _)] ⟨rfl, rfl, rfl, rfl, rfl, rfl, trivial⟩ ?_
            refine HQ.keepR [(10, _), (13, _), (20, _), (16, _), (8, _), (9, _), (11, _), (12, _), (18, _), (19, _)] ⟨rfl, rfl, rfl, rfl, rfl, rfl, rfl, rfl, rfl, rfl, trivial⟩ rfl ?_
            refine HQ.seq ?_
            refine HQ.rseq ?_
            refine HQ.pu Pu.move ⟨rfl, trivial⟩ rfl rfl rfl ?_
            refine HQ.pu Pu.lss ⟨rfl, rfl, trivial⟩ rfl rfl rfl ?_
            refine HQ.pu Pu.move ⟨rfl, trivial⟩ rfl rfl rfl ?_
            refine HQ.cutAt 4 [(133, .bool ((decide (i152 < 8)) && (!t26.Dead))), (2, .bool false), (7, BP b25 0), (8, BP b32 0), (10, .slice a39 (List.length t33.2.1) c40), (12, BP b48 0), (21, .int .i64 i152)] [(10, Box b25 [.slice a21 (List.length t19.Cells) c22, .slice a23 (List.length t19.Wet) c24, .int .i64 t19.Fuse, .bool t19.Dead]), (13, Box b32 [.slice a28 (List.length t26.Cells) c29, .slice a30 (List.length t26.Wet) c31, .int .i64 t26.Fuse, .bool t26.Dead]), (20, Box b48 [.slice a44 (List.length t42.Cells) c45, .slice a46 (List.length t42.Wet) c47, .int .i64 t42.Fuse, .bool t42.Dead]), (16, OwnS kI a39 c40 t33.2.1), (8, OwnS kTCell a21 c22 t19.Cells), (9, OwnS kTWet a23 c24 t19.Wet), (11, OwnS kTCell a28 c29 t26.Cells), (12, OwnS kTWet a30 c31 t26.Wet), (18, OwnS kTCell a44 c45 t42.Cells), (19, OwnS kTWet a46 c47 t42.Wet)] ?_ ?_
            · rcases Bool.eq_false_or_eq_true (decide (i152 < 8)) with hg183 | hg183
              · refine HQ.on rfl rfl hg183 ?_
                refine HQ.pu (Pu.fieldB fo27_3 rfl) ⟨rfl, trivial⟩ rfl rfl rfl ?_
                refine HQ.on rfl rfl hg183 ?_
                refine HQ.op [13] [13] (OT.loadB sc4 rfl) ⟨rfl, trivial⟩ ⟨rfl, trivial⟩ rfl rfl rfl rfl (fun _ => rfl) fun _ => ?_
                refine HQ.on rfl rfl hg183 ?_
                refine HQ.pu Pu.not ⟨rfl, trivial⟩ rfl rfl rfl ?_
                refine HQ.pu (Pu.pickAT hg183) ⟨rfl, rfl, trivial⟩ rfl rfl rfl ?_
                exact HQ.mid ⟨rfl, rfl, rfl, rfl, rfl, rfl, rfl, trivial⟩ ⟨rfl, rfl, rfl, rfl, rfl, rfl, rfl, rfl, rfl, rfl, trivial⟩ rfl
              · refine HQ.off rfl rfl hg183 rfl ?_
                refine HQ.off rfl rfl hg183 rfl ?_
                refine HQ.off rfl rfl hg183 rfl ?_
                refine HQ.pu (Pu.pickAF (u := (!t26.Dead)) hg183) ⟨rfl, rfl, trivial⟩ rfl rfl rfl ?_
                exact HQ.mid ⟨rfl, rfl, rfl, rfl, rfl, rfl, rfl, trivial⟩ ⟨rfl, rfl, rfl, rfl, rfl, rfl, rfl, rfl, rfl, rfl, trivial⟩ rfl
            refine HQ.done ?_
            refine HQ.keep [(133, _), (2, _), (7, _), (8, _), (10, _), (12, _), (21, _)] ⟨rfl, rfl, rfl, rfl, rfl, rfl, rfl, trivial⟩ ?_
            rcases brk H with ⟨hc, H⟩ | ⟨hc, H⟩
            · refine HQ.condT rfl hc ?_
              clear hc
              refine HQ.skipThen ?_
              refine HQ.seq ?_
              refine HQ.block ?_
              refine HQ.rseq ?_
              refine HQ.op [13] [13] (OT.loadBA (vs := [.slice a28 (List.length t26.Cells) c29, .slice a30 (List.length t26.Wet) c31, .int .i64 t26.Fuse, .bool t26.Dead]) ag27 sz27 rfl rfl) ⟨rfl, trivial⟩ ⟨rfl, trivial⟩ rfl rfl rfl rfl (fun _ => rfl) fun _ => ?_
              refine HQ.pu Pu.move ⟨rfl, trivial⟩ rfl rfl rfl ?_
              obtain ⟨t184, h185, H⟩ := bnd H
              refine HQ.op [11, 12] [44, 11, 12] (OT.call (us := [_, _]) (Pre := [OwnS kTCell a28 c29 t26.Cells, OwnS kTWet a30 c31 t26.Wet]) [.tmp 137, .tmp 138] Try.call17 rfl rfl fun w F hs hF hp => impl_Read_c (hs.lend hF 0 rfl) (hs.lend hF 1 rfl) h185) ⟨rfl, rfl, rfl, trivial⟩ ⟨rfl, rfl, trivial⟩ rfl rfl rfl rfl (fun _ => rfl) fun ⟨a186, c187⟩ => ?_
              refine HQ.pu Pu.move ⟨rfl, trivial⟩ rfl rfl rfl ?_
              refine HQ.pu (Pu.extract rfl) ⟨rfl, trivial⟩ rfl rfl rfl ?_
              refine HQ.pu (Pu.extract rfl) ⟨rfl, trivial⟩ rfl rfl rfl ?_
              refine HQ.pu Pu.assign ⟨rfl, trivial⟩ rfl rfl rfl ?_
              refine HQ.pu Pu.assign ⟨rfl, trivial⟩ rfl rfl rfl ?_
              refine HQ.done ?_
              refine HQ.keep [(2, _), (7, _), (8, _), (10, _), (12, _), (21, _), (22, _), (23, _)] ⟨rfl, rfl, rfl, rfl, rfl, rfl, rfl, rfl, trivial⟩ ?_
              refine HQ.rseq ?_
              refine HQ.op [10] [10] (OT.loadBA (vs := [.slice a21 (List.length t19.Cells) c22, .slice a23 (List.length t19.Wet) c24, .int .i64 t19.Fuse, .bool t19.Dead]) ag27 sz27 rfl rfl) ⟨rfl, trivial⟩ ⟨rfl, trivial⟩ rfl rfl rfl rfl (fun _ => rfl) fun _ => ?_
              refine HQ.pu Pu.move ⟨rfl, trivial⟩ rfl rfl rfl ?_
              obtain ⟨t188, h189, H⟩ := bnd H
              refine HQ.op [8, 9] [45, 8, 9] (OT.call (us := [_, _]) (Pre := [OwnS kTCell a21 c22 t19.Cells, OwnS kTWet a23 c24 t19.Wet]) [.tmp 143, .tmp 144] Try.call17 rfl rfl fun w F hs hF hp => impl_Read_c (hs.lend hF 0 rfl) (hs.lend hF 1 rfl) h189) ⟨rfl, rfl, rfl, trivial⟩ ⟨rfl, rfl, trivial⟩ rfl rfl rfl rfl (fun _ => rfl) fun ⟨a190, c191⟩ => ?_
              refine HQ.pu Pu.move ⟨rfl, trivial⟩ rfl rfl rfl ?_
              refine HQ.pu (Pu.extract rfl) ⟨rfl, trivial⟩ rfl rfl rfl ?_
              refine HQ.pu (Pu.extract rfl) ⟨rfl, trivial⟩ rfl rfl rfl ?_
              refine HQ.pu Pu.assign ⟨rfl, trivial⟩ rfl rfl rfl ?_
              refine HQ.pu Pu.assign ⟨rfl, trivial⟩ rfl rfl rfl ?_
              refine HQ.done ?_
              refine HQ.keep [(2, _), (7, _), (8, _), (10, _), (12, _), (21, _), (22, _), (23, _), (24, _), (25, _)] ⟨rfl, rfl, rfl, rfl, rfl, rfl, rfl, rfl, rfl, rfl, trivial⟩ ?_
              refine HQ.rseq ?_
              refine HQ.op [13] [13] (OT.loadBA (vs := [.slice a28 (List.length t26.Cells) c29, .slice a30 (List.length t26.Wet) c31, .int .i64 t26.Fuse, .bool t26.Dead]) ag27 sz27 rfl rfl) ⟨rfl, trivial⟩ ⟨rfl, trivial⟩ rfl rfl rfl rfl (fun _ => rfl) fun _ => ?_
              refine HQ.pu Pu.move ⟨rfl, trivial⟩ rfl rfl rfl ?_
              obtain ⟨t192, h193, H⟩ := bnd H
              refine HQ.op [11, 12, 16] [46, 47, 11, 12, 16] (OT.call (us := [_, _, _]) (Pre := [OwnS kTCell a28 c29 t26.Cells, OwnS kTWet a30 c31 t26.Wet, OwnS kI a39 c40 t33.2.1]) [.tmp 149, .tmp 150, .const (.int .i64 (-1))] Try.call15 rfl rfl fun w F hs hF hp => impl_Crash_c (hs.lend hF 0 rfl) (hs.lend hF 1 rfl) (hs.lend hF 2 rfl) h193) ⟨rfl, rfl, rfl, rfl, trivial⟩ ⟨rfl, rfl, rfl, trivial⟩ rfl rfl rfl rfl (fun _ => rfl) fun ⟨⟨a194, c195⟩, ⟨a196, c197⟩⟩ => ?_
              refine HQ.pu Pu.move ⟨rfl, trivial⟩ rfl rfl rfl ?_
              obtain ⟨t198, h199, H⟩ := bnd H
              refine HQ.op [46, 47] [48, 46, 47] (OT.call (us := [_, _]) (Pre := [OwnS kTCell a194 c195 t192.Cells, OwnS kTWet a196 c197 t192.Wet]) [.tmp 151, .tmp 152] Try.call17 rfl rfl fun w F hs hF hp => impl_Read_c (hs.lend hF 0 rfl) (hs.lend hF 1 rfl) h199) ⟨rfl, rfl, rfl, trivial⟩ ⟨rfl, rfl, trivial⟩ rfl rfl rfl rfl (fun _ => rfl) fun ⟨a200, c201⟩ => ?_
              refine HQ.pu Pu.move ⟨rfl, trivial⟩ rfl rfl rfl ?_
              refine HQ.pu (Pu.extract rfl) ⟨rfl, trivial⟩ rfl rfl rfl ?_
              refine HQ.pu (Pu.extract rfl) ⟨rfl, trivial⟩ rfl rfl rfl ?_
              refine HQ.pu Pu.assign ⟨rfl, trivial⟩ rfl rfl rfl ?_
              refine HQ.pu Pu.assign ⟨rfl, trivial⟩ rfl rfl rfl ?_
              refine HQ.done ?_
              refine HQ.keep [(2, _), (7, _), (8, _), (10, _), (12, _), (21, _), (22, _), (23, _), (24, _), (25, _), (26, _), (27, _)] ⟨rfl, rfl, rfl, rfl, rfl, rfl, rfl, rfl, rfl, rfl, rfl, rfl, trivial⟩ ?_
              refine HQ.rseq ?_
              refine HQ.pu Pu.move ⟨rfl, trivial⟩ rfl rfl rfl ?_
              refine HQ.pu Pu.move ⟨rfl, trivial⟩ rfl rfl rfl ?_
              refine HQ.pu (Pu.neqB ul4) ⟨rfl, rfl, trivial⟩ rfl rfl rfl ?_
              refine HQ.pu Pu.move ⟨rfl, trivial⟩ rfl rfl rfl ?_
              obtain ⟨c205, h206, H⟩ := bnd H
              refine HQ.cutAt 5 [(164, .bool c205), (2, .bool false), (7, BP b25 0), (8, BP b32 0), (10, .slice a39 (List.length t33.2.1) c40), (12, BP b48 0), (21, .int .i64 i152), (22, .slice a186 (List.length t184.1) c187), (23, .bool t184.2), (26, .slice a200 (List.length t198.1) c201), (27, .bool t198.2)] [(10, Box b25 [.slice a21 (List.length t19.Cells) c22, .slice a23 (List.length t19.Wet) c24, .int .i64 t19.Fuse, .bool t19.Dead]), (13, Box b32 [.slice a28 (List.length t26.Cells) c29, .slice a30 (List.length t26.Wet) c31, .int .i64 t26.Fuse, .bool t26.Dead]), (20, Box b48 [.slice a44 (List.length t42.Cells) c45, .slice a46 (List.length t42.Wet) c47, .int .i64 t42.Fuse, .bool t42.Dead]), (16, OwnS kI a39 c40 t33.2.1), (8, OwnS kTCell a21 c22 t19.Cells), (9, OwnS kTWet a23 c24 t19.Wet), (11, OwnS kTCell a28 c29 t26.Cells), (12, OwnS kTWet a30 c31 t26.Wet), (18, OwnS kTCell a44 c45 t42.Cells), (19, OwnS kTWet a46 c47 t42.Wet), (44, OwnS kU8 a186 c187 t184.1), (45, OwnS kU8 a190 c191 t188.1), (46, OwnS kTCell a194 c195 t192.Cells), (47, OwnS kTWet a196 c197 t192.Wet), (48, OwnS kU8 a200 c201 t198.1)] ?_ ?_
              · clear H
                have H := h206
                rcases brk H with ⟨hg202, H⟩ | ⟨hg202, H⟩
                · obtain rfl := Option.some.inj H
                  refine HQ.off rfl rfl hg202 rfl ?_
                  refine HQ.off rfl rfl hg202 rfl ?_
                  refine HQ.off rfl rfl hg202 rfl ?_
                  refine HQ.off rfl rfl hg202 rfl ?_
                  refine HQ.pu (Pu.pickC1 hg202) ⟨rfl, rfl, trivial⟩ rfl rfl rfl ?_
                  exact HQ.mid ⟨rfl, rfl, rfl, rfl, rfl, rfl, rfl, rfl, rfl, rfl, rfl, trivial⟩ ⟨rfl, rfl, rfl, rfl, rfl, rfl, rfl, rfl, rfl, rfl, rfl, rfl, rfl, rfl, rfl, trivial⟩ rfl
                · refine HQ.on rfl rfl hg202 ?_
                  refine HQ.pu Pu.move ⟨rfl, trivial⟩ rfl rfl rfl ?_
                  refine HQ.on rfl rfl hg202 ?_
                  refine HQ.pu Pu.move ⟨rfl, trivial⟩ rfl rfl rfl ?_
                  refine HQ.on rfl rfl hg202 ?_
                  obtain ⟨t203, h204, H⟩ := bnd H
                  refine HQ.op [44, 45] [44, 45] (OT.call (us := [_, _]) (Pre := [OwnS kU8 a186 c187 t184.1, OwnS kU8 a190 c191 t188.1]) [.tmp 160, .tmp 161] Try.call23 rfl rfl fun w F hs hF hp => laws_same_c (hs.lend hF 0 rfl) (hs.lend hF 1 rfl) h204) ⟨rfl, rfl, rfl, trivial⟩ ⟨rfl, rfl, trivial⟩ rfl rfl rfl rfl (fun _ => rfl) fun _ => ?_
                  refine HQ.on rfl rfl hg202 ?_
                  refine HQ.pu Pu.not ⟨rfl, trivial⟩ rfl rfl rfl ?_
                  obtain rfl := Option.some.inj H
                  refine HQ.pu (Pu.pickC0 hg202) ⟨rfl, rfl, trivial⟩ rfl rfl rfl ?_
                  exact HQ.mid ⟨rfl, rfl, rfl, rfl, rfl, rfl, rfl, rfl, rfl, rfl, rfl, trivial⟩ ⟨rfl, rfl, rfl, rfl, rfl, rfl, rfl, rfl, rfl, rfl, rfl, rfl, rfl, rfl, rfl, trivial⟩ rfl
              refine HQ.pu Pu.move ⟨rfl, trivial⟩ rfl rfl rfl ?_
              refine HQ.cutAt 4 [(169, .bool (c205 || (!(t184.2 == t198.2)))), (2, .bool false), (7, BP b25 0), (8, BP b32 0), (10, .slice a39 (List.length t33.2.1) c40), (12, BP b48 0), (21, .int .i64 i152), (22, .slice a186 (List.length t184.1) c187), (26, .slice a200 (List.length t198.1) c201)] [(10, Box b25 [.slice a21 (List.length t19.Cells) c22, .slice a23 (List.length t19.Wet) c24, .int .i64 t19.Fuse, .bool t19.Dead]), (13, Box b32 [.slice a28 (List.length t26.Cells) c29, .slice a30 (List.length t26.Wet) c31, .int .i64 t26.Fuse, .bool t26.Dead]), (20, Box b48 [.slice a44 (List.length t42.Cells) c45, .slice a46 (List.length t42.Wet) c47, .int .i64 t42.Fuse, .bool t42.Dead]), (16, OwnS kI a39 c40 t33.2.1), (8, OwnS kTCell a21 c22 t19.Cells), (9, OwnS kTWet a23 c24 t19.Wet), (11, OwnS kTCell a28 c29 t26.Cells), (12, OwnS kTWet a30 c31 t26.Wet), (18, OwnS kTCell a44 c45 t42.Cells), (19, OwnS kTWet a46 c47 t42.Wet), (44, OwnS kU8 a186 c187 t184.1), (45, OwnS kU8 a190 c191 t188.1), (46, OwnS kTCell a194 c195 t192.Cells), (47, OwnS kTWet a196 c197 t192.Wet), (48, OwnS kU8 a200 c201 t198.1)] ?_ ?_
              · rcases Bool.eq_false_or_eq_true c205 with hg207 | hg207
                · refine HQ.off rfl rfl hg207 rfl ?_
                  refine HQ.off rfl rfl hg207 rfl ?_
                  refine HQ.off rfl rfl hg207 rfl ?_
                  refine HQ.pu (Pu.pickOT (u := (!(t184.2 == t198.2))) hg207) ⟨rfl, rfl, trivial⟩ rfl rfl rfl ?_
                  exact HQ.mid ⟨rfl, rfl, rfl, rfl, rfl, rfl, rfl, rfl, rfl, trivial⟩ ⟨rfl, rfl, rfl, rfl, rfl, rfl, rfl, rfl, rfl, rfl, rfl, rfl, rfl, rfl, rfl, trivial⟩ rfl
                · refine HQ.on rfl rfl hg207 ?_
                  refine HQ.pu Pu.move ⟨rfl, trivial⟩ rfl rfl rfl ?_
                  refine HQ.on rfl rfl hg207 ?_
                  refine HQ.pu Pu.move ⟨rfl, trivial⟩ rfl rfl rfl ?_
                  refine HQ.on rfl rfl hg207 ?_
                  refine HQ.pu (Pu.neqB ul4) ⟨rfl, rfl, trivial⟩ rfl rfl rfl ?_
                  refine HQ.pu (Pu.pickOF hg207) ⟨rfl, rfl, trivial⟩ rfl rfl rfl ?_
                  exact HQ.mid ⟨rfl, rfl, rfl, rfl, rfl, rfl, rfl, rfl, rfl, trivial⟩ ⟨rfl, rfl, rfl, rfl, rfl, rfl, rfl, rfl, rfl, rfl, rfl, rfl, rfl, rfl, rfl, trivial⟩ rfl
              refine HQ.pu Pu.move ⟨rfl, trivial⟩ rfl rfl rfl ?_
              obtain ⟨c211, h212, H⟩ := bnd H
              refine HQ.cutAt 5 [(175, .bool c211), (2, .bool false), (7, BP b25 0), (8, BP b32 0), (10, .slice a39 (List.length t33.2.1) c40), (12, BP b48 0), (21, .int .i64 i152)] [(10, Box b25 [.slice a21 (List.length t19.Cells) c22, .slice a23 (List.length t19.Wet) c24, .int .i64 t19.Fuse, .bool t19.Dead]), (13, Box b32 [.slice a28 (List.length t26.Cells) c29, .slice a30 (List.length t26.Wet) c31, .int .i64 t26.Fuse, .bool t26.Dead]), (20, Box b48 [.slice a44 (List.length t42.Cells) c45, .slice a46 (List.length t42.Wet) c47, .int .i64 t42.Fuse, .bool t42.Dead]), (16, OwnS kI a39 c40 t33.2.1), (8, OwnS kTCell a21 c22 t19.Cells), (9, OwnS kTWet a23 c24 t19.Wet), (11, OwnS kTCell a28 c29 t26.Cells), (12, OwnS kTWet a30 c31 t26.Wet), (18, OwnS kTCell a44 c45 t42.Cells), (19, OwnS kTWet a46 c47 t42.Wet), (44, OwnS kU8 a186 c187 t184.1), (45, OwnS kU8 a190 c191 t188.1), (46, OwnS kTCell a194 c195 t192.Cells), (47, OwnS kTWet a196 c197 t192.Wet), (48, OwnS kU8 a200 c201 t198.1)] ?_ ?_
              · clear H
                have H := h212
                rcases brk H with ⟨hg208, H⟩ | ⟨hg208, H⟩
                · obtain rfl := Option.some.inj H
                  refine HQ.off rfl rfl hg208 rfl ?_
                  refine HQ.off rfl rfl hg208 rfl ?_
                  refine HQ.off rfl rfl hg208 rfl ?_
                  refine HQ.off rfl rfl hg208 rfl ?_
                  refine HQ.pu (Pu.pickC1 hg208) ⟨rfl, rfl, trivial⟩ rfl rfl rfl ?_
                  exact HQ.mid ⟨rfl, rfl, rfl, rfl, rfl, rfl, rfl, trivial⟩ ⟨rfl, rfl, rfl, rfl, rfl, rfl, rfl, rfl, rfl, rfl, rfl, rfl, rfl, rfl, rfl, trivial⟩ rfl
                · refine HQ.on rfl rfl hg208 ?_
                  refine HQ.pu Pu.move ⟨rfl, trivial⟩ rfl rfl rfl ?_
                  refine HQ.on rfl rfl hg208 ?_
                  refine HQ.pu Pu.move ⟨rfl, trivial⟩ rfl rfl rfl ?_
                  refine HQ.on rfl rfl hg208 ?_
                  obtain ⟨t209, h210, H⟩ := bnd H
                  refine HQ.op [44, 48] [44, 48] (OT.call (us := [_, _]) (Pre := [OwnS kU8 a186 c187 t184.1, OwnS kU8 a200 c201 t198.1]) [.tmp 171, .tmp 172] Try.call23 rfl rfl fun w F hs hF hp => laws_same_c (hs.lend hF 0 rfl) (hs.lend hF 1 rfl) h210) ⟨rfl, rfl, rfl, trivial⟩ ⟨rfl, rfl, trivial⟩ rfl rfl rfl rfl (fun _ => rfl) fun _ => ?_
                  refine HQ.on rfl rfl hg208 ?_
                  refine HQ.pu Pu.not ⟨rfl, trivial⟩ rfl rfl rfl ?_
                  obtain rfl := Option.some.inj H
                  refine HQ.pu (Pu.pickC0 hg208) ⟨rfl, rfl, trivial⟩ rfl rfl rfl ?_
                  exact HQ.mid ⟨rfl, rfl, rfl, rfl, rfl, rfl, rfl, trivial⟩ ⟨rfl, rfl, rfl, rfl, rfl, rfl, rfl, rfl, rfl, rfl, rfl, rfl, rfl, rfl, rfl, trivial⟩ rfl
              refine HQ.done ?_
              refine HQ.keep [(175, _), (2, _), (7, _), (8, _), (10, _), (12, _), (21, _)] ⟨rfl, rfl, rfl, rfl, rfl, rfl, rfl, trivial⟩ ?_
              rcases brk H with ⟨hc, H⟩ | ⟨hc, H⟩
              · refine HQ.condT rfl hc ?_
                clear hc
                refine HQ.rseq ?_
                refine HQ.pu Pu.assign ⟨rfl, trivial⟩ rfl rfl rfl ?_
                refine HQ.done ?_
                refine HQ.keep [(2, _), (7, _), (8, _), (10, _), (12, _), (21, _)] ⟨rfl, rfl, rfl, rfl, rfl, rfl, trivial⟩ ?_
                refine HQ.ret ?_
                refine HQ.blkR ?_
                refine HQ.thenR ?_
                obtain rfl := Option.some.inj H
                refine HQ.retL ?_
                exact HQ.fin (vs := [_]) Try.results3 () ⟨rfl, trivial⟩ rfl [] trivial rfl
              · refine HQ.condF rfl hc ?_
                clear hc
                refine HQ.skip ?_
                refine HQ.blkN ?_
                refine HQ.thenN ?_
                refine HQ.regionQ ?_
                refine HQ.pu Pu.move ⟨rfl, trivial⟩ rfl rfl rfl ?_
                refine HQ.pu Pu.add ⟨rfl, rfl, trivial⟩ rfl rfl rfl ?_
                refine HQ.pu Pu.assign ⟨rfl, trivial⟩ rfl rfl rfl ?_
                refine HQ.done ?_
                refine HQ.keep [(2, _), (7, _), (8, _), (10, _), (12, _), (21, _)] ⟨rfl, rfl, rfl, rfl, rfl, rfl, trivial⟩ ?_
                obtain rfl := Option.some.inj H
                exact HQ.next () ⟨rfl, rfl, rfl, rfl, rfl, rfl, trivial⟩ ⟨rfl, rfl, rfl, rfl, rfl, rfl, rfl, rfl, rfl, rfl, trivial⟩ rfl
            · refine HQ.condF rfl hc ?_
              clear hc
              refine HQ.exit ?_
              refine HQ.thenE ?_
              obtain rfl := Option.some.inj H
              exact HQ.out () ⟨rfl, rfl, rfl, rfl, rfl, rfl, trivial⟩ ⟨rfl, rfl, rfl, rfl, rfl, rfl, rfl, rfl, rfl, rfl, trivial⟩ rfl
          · rintro i214 rfl _
            clear h242
            replace H := H
            refine HQ.keep [(2, _), (7, _), (8, _), (10, _), (12, _), (21, _)] ⟨rfl, rfl, rfl, rfl, rfl, rfl, trivial⟩ ?_
            refine HQ.keepR [(10, _), (13, _), (20, _), (16, _), (8, _), (9, _), (11, _), (12, _), (18, _), (19, _)] ⟨rfl, rfl, rfl, rfl, rfl, rfl, rfl, rfl, rfl, rfl, trivial⟩ rfl ?_
            refine HQ.blkE ?_
            refine HQ.thenN ?_
            refine HQ.seq ?_
            refine HQ.dStart mixd ?_
            refine HQ.dRun 10 rfl rfl (by kernel_rfl) (by kernel_rfl) ?_
            refine HQ.pu (Pu.fieldB fo27_1 rfl) ⟨rfl, trivial⟩ rfl rfl rfl ?_
            refine HQ.op [20] [20] (OT.loadB sc25 rfl) ⟨rfl, trivial⟩ ⟨rfl, trivial⟩ rfl rfl rfl rfl (fun _ => rfl) fun _ => ?_
            refine HQ.pu (Pu.len ul25) ⟨rfl, trivial⟩ rfl rfl rfl ?_
            refine HQ.pu Pu.eql ⟨rfl, rfl, trivial⟩ rfl rfl rfl ?_
            refine HQ.pu Pu.move ⟨rfl, trivial⟩ rfl rfl rfl ?_
            refine HQ.cutAt 4 [(184, .bool ((decide (((List.length t42.Wet : Nat) : Int) = 0)) && (!t42.Dead))), (2, .bool false), (8, BP b32 0)] [(10, Box b25 [.slice a21 (List.length t19.Cells) c22, .slice a23 (List.length t19.Wet) c24, .int .i64 t19.Fuse, .bool t19.Dead]), (13, Box b32 [.slice a28 (List.length t26.Cells) c29, .slice a30 (List.length t26.Wet) c31, .int .i64 t26.Fuse, .bool t26.Dead]), (20, Box b48 [.slice a44 (List.length t42.Cells) c45, .slice a46 (List.length t42.Wet) c47, .int .i64 t42.Fuse, .bool t42.Dead]), (16, OwnS kI a39 c40 t33.2.1), (8, OwnS kTCell a21 c22 t19.Cells), (9, OwnS kTWet a23 c24 t19.Wet), (11, OwnS kTCell a28 c29 t26.Cells), (12, OwnS kTWet a30 c31 t26.Wet), (18, OwnS kTCell a44 c45 t42.Cells), (19, OwnS kTWet a46 c47 t42.Wet)] ?_ ?_
            · rcases Bool.eq_false_or_eq_true (decide (((List.length t42.Wet : Nat) : Int) = 0)) with hg215 | hg215
              · refine HQ.on rfl rfl hg215 ?_
                refine HQ.pu (Pu.fieldB fo27_3 rfl) ⟨rfl, trivial⟩ rfl rfl rfl ?_
                refine HQ.on rfl rfl hg215 ?_
                refine HQ.op [20] [20] (OT.loadB sc4 rfl) ⟨rfl, trivial⟩ ⟨rfl, trivial⟩ rfl rfl rfl rfl (fun _ => rfl) fun _ => ?_
                refine HQ.on rfl rfl hg215 ?_
                refine HQ.pu Pu.not ⟨rfl, trivial⟩ rfl rfl rfl ?_
                refine HQ.pu (Pu.pickAT hg215) ⟨rfl, rfl, trivial⟩ rfl rfl rfl ?_
                exact HQ.mid ⟨rfl, rfl, rfl, trivial⟩ ⟨rfl, rfl, rfl, rfl, rfl, rfl, rfl, rfl, rfl, rfl, trivial⟩ rfl
              · refine HQ.off rfl rfl hg215 rfl ?_
                refine HQ.off rfl rfl hg215 rfl ?_
                refine HQ.off rfl rfl hg215 rfl ?_
                refine HQ.pu (Pu.pickAF (u := (!t42.Dead)) hg215) ⟨rfl, rfl, trivial⟩ rfl rfl rfl ?_
                exact HQ.mid ⟨rfl, rfl, rfl, trivial⟩ ⟨rfl, rfl, rfl, rfl, rfl, rfl, rfl, rfl, rfl, rfl, trivial⟩ rfl
            refine HQ.pu Pu.move ⟨rfl, trivial⟩ rfl rfl rfl ?_
            refine HQ.done ?_
            obtain ⟨c231, h232, H⟩ := bnd H
            refine HQ.dMid (m' := 20) [(195, .bool c231), (2, .bool false)] [(10, Box b25 [.slice a21 (List.length t19.Cells) c22, .slice a23 (List.length t19.Wet) c24, .int .i64 t19.Fuse, .bool t19.Dead]), (13, Box b32 [.slice a28 (List.length t26.Cells) c29, .slice a30 (List.length t26.Wet) c31, .int .i64 t26.Fuse, .bool t26.Dead]), (20, Box b48 [.slice a44 (List.length t42.Cells) c45, .slice a46 (List.length t42.Wet) c47, .int .i64 t42.Fuse, .bool t42.Dead]), (16, OwnS kI a39 c40 t33.2.1), (8, OwnS kTCell a21 c22 t19.Cells), (9, OwnS kTWet a23 c24 t19.Wet), (11, OwnS kTCell a28 c29 t26.Cells), (12, OwnS kTWet a30 c31 t26.Wet), (18, OwnS kTCell a44 c45 t42.Cells), (19, OwnS kTWet a46 c47 t42.Wet)] (fun hmid => ?_) ?_
            · clear H
              have H := h232
              rcases brk H with ⟨hg216, H⟩ | ⟨hg216, H⟩
              · refine HQ.dRun 4 rfl rfl (by kernel_rfl) (by kernel_rfl) ?_
                refine HQ.on rfl rfl hg216 ?_
                refine HQ.pu (Pu.fieldB fo27_3 rfl) ⟨rfl, trivial⟩ rfl rfl rfl ?_
                refine HQ.on rfl rfl hg216 ?_
                refine HQ.op [13] [13] (OT.loadB sc4 rfl) ⟨rfl, trivial⟩ ⟨rfl, trivial⟩ rfl rfl rfl rfl (fun _ => rfl) fun _ => ?_
                refine HQ.on rfl rfl hg216 ?_
                refine HQ.pu Pu.not ⟨rfl, trivial⟩ rfl rfl rfl ?_
                refine HQ.on rfl rfl hg216 ?_
                refine HQ.pu Pu.move ⟨rfl, trivial⟩ rfl rfl rfl ?_
                refine HQ.done ?_
                obtain ⟨c228, h229, H⟩ := bnd H
                refine HQ.dMid (m' := 19) [(194, .bool c228), (2, .bool false), (185, .bool ((decide (((List.length t42.Wet : Nat) : Int) = 0)) && (!t42.Dead)))] [(10, Box b25 [.slice a21 (List.length t19.Cells) c22, .slice a23 (List.length t19.Wet) c24, .int .i64 t19.Fuse, .bool t19.Dead]), (13, Box b32 [.slice a28 (List.length t26.Cells) c29, .slice a30 (List.length t26.Wet) c31, .int .i64 t26.Fuse, .bool t26.Dead]), (20, Box b48 [.slice a44 (List.length t42.Cells) c45, .slice a46 (List.length t42.Wet) c47, .int .i64 t42.Fuse, .bool t42.Dead]), (16, OwnS kI a39 c40 t33.2.1), (8, OwnS kTCell a21 c22 t19.Cells), (9, OwnS kTWet a23 c24 t19.Wet), (11, OwnS kTCell a28 c29 t26.Cells), (12, OwnS kTWet a30 c31 t26.Wet), (18, OwnS kTCell a44 c45 t42.Cells), (19, OwnS kTWet a46 c47 t42.Wet)] (fun hmid => ?_) ?_
                · clear H
                  have H := h229
                  rcases brk H with ⟨hg217, H⟩ | ⟨hg217, H⟩
                  · obtain rfl := Option.some.inj H
                    refine HQ.dPart [(2, .bool false), (8, BP b32 0), (185, .bool ((decide (((List.length t42.Wet : Nat) : Int) = 0)) && (!t42.Dead))), (189, .bool (!t26.Dead))] 17 [⟨[], [], []⟩, ⟨[], [], []⟩, ⟨[], [], []⟩, ⟨[], [], []⟩, ⟨[], [], []⟩, ⟨[], [], []⟩, ⟨[], [], []⟩, ⟨[], [], []⟩, ⟨[], [], []⟩, ⟨[], [], []⟩, ⟨[], [], []⟩, ⟨[], [], []⟩, ⟨[], [], []⟩, ⟨[], [], []⟩, ⟨[], [], []⟩, ⟨[], [], []⟩, ⟨[], [], []⟩] [] (fun (g227 : Unit) => [undef, undef, undef, undef, undef, undef, undef, undef, undef, undef, undef, undef, undef, undef, undef, undef, undef]) (fun (g227 : Unit) => []) () [] [] [] ⟨rfl, rfl, rfl, rfl, trivial⟩ trivial rfl (by kernel_rfl) (by kernel_rfl) (fun _ => rfl) (by kernel_rfl) (fun _ => rfl) rfl ⟨?_, ?_, ?_, trivial⟩ fun g227 => ?_
                    · exact OpOK2.off rfl rfl rfl hg217 rfl rfl (fun _ => ⟨rfl, trivial⟩)
                    · exact OpOK2.off rfl rfl rfl hg217 rfl rfl (fun _ => ⟨rfl, trivial⟩)
                    · exact OpOK2.off rfl rfl rfl hg217 rfl rfl (fun _ => ⟨rfl, trivial⟩)
                    refine HQ.keep [(2, _), (185, _), (189, _), (191, _), (192, _)] ⟨rfl, rfl, rfl, rfl, rfl, trivial⟩ ?_
                    refine HQ.keepR [(10, _), (13, _), (20, _), (16, _), (8, _), (9, _), (11, _), (12, _), (18, _), (19, _)] ⟨rfl, rfl, rfl, rfl, rfl, rfl, rfl, rfl, rfl, rfl, trivial⟩ rfl ?_
                    refine HQ.dRun 1 rfl rfl (by kernel_rfl) (by kernel_rfl) ?_
                    refine HQ.off rfl rfl hg217 rfl ?_
                    refine HQ.done ?_
                    refine HQ.dRun 1 rfl rfl (by kernel_rfl) (by kernel_rfl) ?_
                    refine HQ.on rfl rfl hg216 ?_
                    refine HQ.pu (Pu.pickC1 hg217) ⟨rfl, rfl, trivial⟩ rfl rfl rfl ?_
                    refine HQ.done ?_
                    exact HQ.dUse hmid ⟨rfl, rfl, rfl, trivial⟩ ⟨rfl, rfl, rfl, rfl, rfl, rfl, rfl, rfl, rfl, rfl, trivial⟩ rfl
                  · obtain ⟨t219, h220, H⟩ := bnd H
                    refine HQ.dPart [(2, .bool false), (8, BP b32 0), (185, .bool ((decide (((List.length t42.Wet : Nat) : Int) = 0)) && (!t42.Dead))), (189, .bool (!t26.Dead))] 17 [⟨[], [], []⟩, ⟨[], [], []⟩, ⟨[], [], []⟩, ⟨[], [], []⟩, ⟨[], [], []⟩, ⟨[], [], []⟩, ⟨[], [], []⟩, ⟨[], [], []⟩, ⟨[], [], []⟩, ⟨[], [], []⟩, ⟨[], [], []⟩, ⟨[], [], []⟩, ⟨[], [], []⟩, ⟨[], [], []⟩, ⟨[0], [0], []⟩, ⟨[1, 2], [3, 4, 1, 2], [14]⟩, ⟨[0], [0], []⟩] [⟨none, none⟩, ⟨none, none⟩, ⟨none, none⟩, ⟨some 15, none⟩, ⟨some 15, none⟩] (fun (g218 : ((Option Addr × Nat) × (Option Addr × Nat))) => [undef, undef, undef, undef, undef, undef, undef, undef, undef, undef, undef, undef, undef, undef, .agg #[.slice a28 (List.length t26.Cells) c29, .slice a30 (List.length t26.Wet) c31, .int .i64 t26.Fuse, .bool t26.Dead], .agg #[.slice g218.1.1 (List.length t219.Cells) g218.1.2, .slice g218.2.1 (List.length t219.Wet) g218.2.2, .int .i64 t219.Fuse, .bool t219.Dead], .agg #[.slice a28 (List.length t26.Cells) c29, .slice a30 (List.length t26.Wet) c31, .int .i64 t26.Fuse, .bool t26.Dead]]) (fun (g218 : ((Option Addr × Nat) × (Option Addr × Nat))) => [Box b32 [.slice a28 (List.length t26.Cells) c29, .slice a30 (List.length t26.Wet) c31, .int .i64 t26.Fuse, .bool t26.Dead], OwnS kTCell a28 c29 t26.Cells, OwnS kTWet a30 c31 t26.Wet, OwnS kTCell g218.1.1 g218.1.2 t219.Cells, OwnS kTWet g218.2.1 g218.2.2 t219.Wet]) ((none, 0), (none, 0)) [13, 11, 12] [13, 11, 12, 49, 50] [] ⟨rfl, rfl, rfl, rfl, trivial⟩ ⟨rfl, rfl, rfl, trivial⟩ rfl (by kernel_rfl) (by kernel_rfl) (fun _ => rfl) (by kernel_rfl) (fun _ => rfl) rfl ⟨?_, ?_, ?_, trivial⟩ fun g218 => ?_
                    · exact OpOK2.on (fun g218 => [(.tmp 8, BP b32 0)]) _ _ (fun g218 _ => g218) rfl rfl rfl hg217 (fun _ => ⟨rfl, trivial⟩) (fun g218 => OT.loadBA (vs := [.slice a28 (List.length t26.Cells) c29, .slice a30 (List.length t26.Wet) c31, .int .i64 t26.Fuse, .bool t26.Dead]) ag27 sz27 rfl rfl) (fun _ _ => ⟨rfl, rfl, ⟨rfl, rfl, rfl, rfl, rfl, trivial⟩⟩)
                    · exact OpOK2.on (fun g218 => [(.func 13, .func (.func 13) #[] #[]), (.tmp 190, .agg #[.slice a28 (List.length t26.Cells) c29, .slice a30 (List.length t26.Wet) c31, .int .i64 t26.Fuse, .bool t26.Dead])]) _ _ (fun g218 x => x) rfl rfl rfl hg217 (fun _ => ⟨rfl, rfl, trivial⟩) (fun g218 => OT.call (us := [_]) (Pre := [OwnS kTCell a28 c29 t26.Cells, OwnS kTWet a30 c31 t26.Wet]) [.tmp 190] Try.call13 rfl rfl fun w F hs hF hp => impl_Flush_c (hs.lend hF 0 rfl) (hs.lend hF 1 rfl) h220) (fun _ _ => ⟨rfl, rfl, ⟨rfl, rfl, rfl, rfl, rfl, trivial⟩⟩)
                    · exact OpOK2.on (fun g218 => [(.tmp 8, BP b32 0)]) _ _ (fun g218 _ => g218) rfl rfl rfl hg217 (fun _ => ⟨rfl, trivial⟩) (fun g218 => OT.loadBA (vs := [.slice a28 (List.length t26.Cells) c29, .slice a30 (List.length t26.Wet) c31, .int .i64 t26.Fuse, .bool t26.Dead]) ag27 sz27 rfl rfl) (fun _ _ => ⟨rfl, rfl, ⟨rfl, rfl, rfl, rfl, rfl, trivial⟩⟩)
                    refine HQ.keep [(2, _), (185, _), (189, _), (191, _), (192, _)] ⟨rfl, rfl, rfl, rfl, rfl, trivial⟩ ?_
                    refine HQ.keepR [(10, _), (13, _), (20, _), (16, _), (8, _), (9, _), (11, _), (12, _), (18, _), (19, _), (49, _), (50, _)] ⟨rfl, rfl, rfl, rfl, rfl, rfl, rfl, rfl, rfl, rfl, rfl, rfl, trivial⟩ rfl ?_
                    refine HQ.dRun 1 rfl rfl (by kernel_rfl) (by kernel_rfl) ?_
                    refine HQ.on rfl rfl hg217 ?_
                    obtain ⟨t225, h226, H⟩ := bnd H
                    refine HQ.op [49, 50, 11, 12] [49, 50, 11, 12] (OT.call (us := [_, _]) (Pre := [OwnS kTCell g218.1.1 g218.1.2 t219.Cells, OwnS kTWet g218.2.1 g218.2.2 t219.Wet, OwnS kTCell a28 c29 t26.Cells, OwnS kTWet a30 c31 t26.Wet]) [.tmp 191, .tmp 192] Try.call19 rfl rfl fun w F hs hF hp => laws_sameDisk_c (hs.lend hF 0 rfl) (hs.lend hF 1 rfl) (hs.lend hF 2 rfl) (hs.lend hF 3 rfl) h226) ⟨rfl, rfl, rfl, trivial⟩ ⟨rfl, rfl, rfl, rfl, trivial⟩ rfl rfl rfl rfl (fun _ => rfl) fun _ => ?_
                    refine HQ.done ?_
                    obtain rfl := Option.some.inj H
                    refine HQ.dRun 1 rfl rfl (by kernel_rfl) (by kernel_rfl) ?_
                    refine HQ.on rfl rfl hg216 ?_
                    refine HQ.pu (Pu.pickC0 hg217) ⟨rfl, rfl, trivial⟩ rfl rfl rfl ?_
                    refine HQ.done ?_
                    exact HQ.dUse hmid ⟨rfl, rfl, rfl, trivial⟩ ⟨rfl, rfl, rfl, rfl, rfl, rfl, rfl, rfl, rfl, rfl, trivial⟩ rfl
                obtain rfl := Option.some.inj H
                refine HQ.dRun 1 rfl rfl (by kernel_rfl) (by kernel_rfl) ?_
                refine HQ.pu (Pu.pickC1 hg216) ⟨rfl, rfl, trivial⟩ rfl rfl rfl ?_
                refine HQ.done ?_
                exact HQ.dUse hmid ⟨rfl, rfl, trivial⟩ ⟨rfl, rfl, rfl, rfl, rfl, rfl, rfl, rfl, rfl, rfl, trivial⟩ rfl
              · obtain rfl := Option.some.inj H
                refine HQ.dRun 4 rfl rfl (by kernel_rfl) (by kernel_rfl) ?_
                refine HQ.off rfl rfl hg216 rfl ?_
                refine HQ.off rfl rfl hg216 rfl ?_
                refine HQ.off rfl rfl hg216 rfl ?_
                refine HQ.off rfl rfl hg216 rfl ?_
                refine HQ.done ?_
                refine HQ.dPart [(2, .bool false), (8, BP b32 0), (185, .bool ((decide (((List.length t42.Wet : Nat) : Int) = 0)) && (!t42.Dead))), (189, undef)] 17 [⟨[], [], []⟩, ⟨[], [], []⟩, ⟨[], [], []⟩, ⟨[], [], []⟩, ⟨[], [], []⟩, ⟨[], [], []⟩, ⟨[], [], []⟩, ⟨[], [], []⟩, ⟨[], [], []⟩, ⟨[], [], []⟩, ⟨[], [], []⟩, ⟨[], [], []⟩, ⟨[], [], []⟩, ⟨[], [], []⟩, ⟨[], [], []⟩, ⟨[], [], []⟩, ⟨[], [], []⟩] [] (fun (g230 : Unit) => [undef, undef, undef, undef, undef, undef, undef, undef, undef, undef, undef, undef, undef, undef, undef, undef, undef]) (fun (g230 : Unit) => []) () [] [] [] ⟨rfl, rfl, rfl, rfl, trivial⟩ trivial rfl (by kernel_rfl) (by kernel_rfl) (fun _ => rfl) (by kernel_rfl) (fun _ => rfl) rfl ⟨?_, ?_, ?_, trivial⟩ fun g230 => ?_
                · exact OpOK2.offU rfl rfl rfl rfl rfl (fun _ => ⟨rfl, trivial⟩)
                · exact OpOK2.offU rfl rfl rfl rfl rfl (fun _ => ⟨rfl, trivial⟩)
                · exact OpOK2.offU rfl rfl rfl rfl rfl (fun _ => ⟨rfl, trivial⟩)
                refine HQ.keep [(2, _), (185, _), (189, _), (191, _), (192, _)] ⟨rfl, rfl, rfl, rfl, rfl, trivial⟩ ?_
                refine HQ.keepR [(10, _), (13, _), (20, _), (16, _), (8, _), (9, _), (11, _), (12, _), (18, _), (19, _)] ⟨rfl, rfl, rfl, rfl, rfl, rfl, rfl, rfl, rfl, rfl, trivial⟩ rfl ?_
                refine HQ.dRun 2 rfl rfl (by kernel_rfl) (by kernel_rfl) ?_
                refine HQ.offU rfl rfl rfl ?_
                refine HQ.off rfl rfl hg216 rfl ?_
                refine HQ.done ?_
                refine HQ.dRun 1 rfl rfl (by kernel_rfl) (by kernel_rfl) ?_
                refine HQ.pu (Pu.pickC0 hg216) ⟨rfl, rfl, trivial⟩ rfl rfl rfl ?_
                refine HQ.done ?_
                exact HQ.dUse hmid ⟨rfl, rfl, trivial⟩ ⟨rfl, rfl, rfl, rfl, rfl, rfl, rfl, rfl, rfl, rfl, trivial⟩ rfl
            refine HQ.dRun 6 rfl rfl (by kernel_rfl) (by kernel_rfl) ?_
            refine HQ.pu Pu.move ⟨rfl, trivial⟩ rfl rfl rfl ?_
            obtain ⟨c240, h241, H⟩ := bnd H
            refine HQ.cutAt 4 [(200, .bool c240), (2, .bool false)] [(10, Box b25 [.slice a21 (List.length t19.Cells) c22, .slice a23 (List.length t19.Wet) c24, .int .i64 t19.Fuse, .bool t19.Dead]), (13, Box b32 [.slice a28 (List.length t26.Cells) c29, .slice a30 (List.length t26.Wet) c31, .int .i64 t26.Fuse, .bool t26.Dead]), (20, Box b48 [.slice a44 (List.length t42.Cells) c45, .slice a46 (List.length t42.Wet) c47, .int .i64 t42.Fuse, .bool t42.Dead]), (16, OwnS kI a39 c40 t33.2.1), (8, OwnS kTCell a21 c22 t19.Cells), (9, OwnS kTWet a23 c24 t19.Wet), (11, OwnS kTCell a28 c29 t26.Cells), (12, OwnS kTWet a30 c31 t26.Wet), (18, OwnS kTCell a44 c45 t42.Cells), (19, OwnS kTWet a46 c47 t42.Wet)] ?_ ?_
            · clear H
              have H := h241
              rcases brk H with ⟨hg233, H⟩ | ⟨hg233, H⟩
              · refine HQ.on rfl rfl hg233 ?_
                obtain ⟨t234, h235, H⟩ := bnd H
                refine HQ.op [] [51, 52] (OT.call (us := []) (Pre := []) [] Try.call25 rfl rfl fun w F hs hF hp => impl_DiskNew_c h235) ⟨rfl, trivial⟩ trivial rfl rfl rfl rfl (fun _ => rfl) fun ⟨⟨a236, c237⟩, ⟨a238, c239⟩⟩ => ?_
                refine HQ.on rfl rfl hg233 ?_
                refine HQ.pu (Pu.fieldS fv27_2 rfl) ⟨rfl, trivial⟩ rfl rfl rfl ?_
                refine HQ.on rfl rfl hg233 ?_
                refine HQ.pu Pu.eql ⟨rfl, rfl, trivial⟩ rfl rfl rfl ?_
                obtain rfl := Option.some.inj H
                refine HQ.pu (Pu.pickC1 hg233) ⟨rfl, rfl, trivial⟩ rfl rfl rfl ?_
                exact HQ.mid ⟨rfl, rfl, trivial⟩ ⟨rfl, rfl, rfl, rfl, rfl, rfl, rfl, rfl, rfl, rfl, trivial⟩ rfl
              · obtain rfl := Option.some.inj H
                refine HQ.off rfl rfl hg233 rfl ?_
                refine HQ.off rfl rfl hg233 rfl ?_
                refine HQ.off rfl rfl hg233 rfl ?_
                refine HQ.pu (Pu.pickC0 hg233) ⟨rfl, rfl, trivial⟩ rfl rfl rfl ?_
                exact HQ.mid ⟨rfl, rfl, trivial⟩ ⟨rfl, rfl, rfl, rfl, rfl, rfl, rfl, rfl, rfl, rfl, trivial⟩ rfl
            refine HQ.pu Pu.assign ⟨rfl, trivial⟩ rfl rfl rfl ?_
            refine HQ.done ?_
            refine HQ.dEnd rfl ?_
            refine HQ.thenN ?_
            refine HQ.keep [(2, _)] ⟨rfl, trivial⟩ ?_
            refine HQ.ret ?_
            obtain rfl := Option.some.inj H
            exact HQ.fin (vs := [_]) Try.results3 () ⟨rfl, trivial⟩ rfl [] trivial rfl
          · rintro r rfl a w hr
            obtain rfl := Option.some.inj H
            exact hr
      · refine HQ.condF rfl hc ?_
        clear hc
        refine HQ.skipThen ?_
        refine HQ.seq ?_
        refine HQ.rseq ?_
        refine HQ.pu Pu.assign ⟨rfl, trivial⟩ rfl rfl rfl ?_
        refine HQ.done ?_
        refine HQ.keep [(2, _), (7, _), (8, _), (10, _), (12, _), (21, _)] ⟨rfl, rfl, rfl, rfl, rfl, rfl, trivial⟩ ?_
        refine HQ.block ?_
        obtain ⟨o334, h363, H⟩ := bnd H
        refine HQ.loop h363 0 (fun (s : Int) (g : Unit) => match s, g with | i273, () => [(2, .bool false), (7, BP b25 0), (8, BP b32 0), (10, .slice a39 (List.length t33.2.1) c40), (12, BP b48 0), (21, .int .i64 i273)]) (fun (s : Int) (g : Unit) => match s, g with | i273, () => [(10, Box b25 [.slice a21 (List.length t19.Cells) c22, .slice a23 (List.length t19.Wet) c24, .int .i64 t19.Fuse, .bool t19.Dead]), (13, Box b32 [.slice a28 (List.length t26.Cells) c29, .slice a30 (List.length t26.Wet) c31, .int .i64 t26.Fuse, .bool t26.Dead]), (20, Box b48 [.slice a44 (List.length t42.Cells) c45, .slice a46 (List.length t42.Wet) c47, .int .i64 t42.Fuse, .bool t42.Dead]), (16, OwnS kI a39 c40 t33.2.1), (8, OwnS kTCell a21 c22 t19.Cells), (9, OwnS kTWet a23 c24 t19.Wet), (11, OwnS kTCell a28 c29 t26.Cells), (12, OwnS kTWet a30 c31 t26.Wet), (18, OwnS kTCell a44 c45 t42.Cells), (19, OwnS kTWet a46 c47 t42.Wet)]) (fun r => bodyPost Try.prog Try.f3 (Rt w Nil (fun _ : Unit => .bool r) (fun _ => [])) .ret) () ⟨rfl, rfl, rfl, rfl, rfl, rfl, trivial⟩ ⟨rfl, rfl, rfl, rfl, rfl, rfl, rfl, rfl, rfl, rfl, trivial⟩ rfl ?_ ?_ ?_
        · clear H h363
          rintro i273 _ o H
          rw [laws_FnDisks_b1] at H
          refine HQ.keep [(2, _), (7, _), (8, _), (10, _), (12, _), (21, _)] ⟨rfl, rfl, rfl, rfl, rfl, rfl, trivial⟩ ?_
          refine HQ.keepR [(10, _), (13, _), (20, _), (16, _), (8, _), (9, _), (11, _), (12, _), (18, _), (19, _)] ⟨rfl, rfl, rfl, rfl, rfl, rfl, rfl, rfl, rfl, rfl, trivial⟩ rfl ?_
          refine HQ.seq ?_
          refine HQ.rseq ?_
          refine HQ.pu Pu.move ⟨rfl, trivial⟩ rfl rfl rfl ?_
          refine HQ.pu Pu.lss ⟨rfl, rfl, trivial⟩ rfl rfl rfl ?_
          refine HQ.pu Pu.move ⟨rfl, trivial⟩ rfl rfl rfl ?_
          refine HQ.cutAt 4 [(133, .bool ((decide (i273 < 8)) && (!t26.Dead))), (2, .bool false), (7, BP b25 0), (8, BP b32 0), (10, .slice a39 (List.length t33.2.1) c40), (12, BP b48 0), (21, .int .i64 i273)] [(10, Box b25 [.slice a21 (List.length t19.Cells) c22, .slice a23 (List.length t19.Wet) c24, .int .i64 t19.Fuse, .bool t19.Dead]), (13, Box b32 [.slice a28 (List.length t26.Cells) c29, .slice a30 (List.length t26.Wet) c31, .int .i64 t26.Fuse, .bool t26.Dead]), (20, Box b48 [.slice a44 (List.length t42.Cells) c45, .slice a46 (List.length t42.Wet) c47, .int .i64 t42.Fuse, .bool t42.Dead]), (16, OwnS kI a39 c40 t33.2.1), (8, OwnS kTCell a21 c22 t19.Cells), (9, OwnS kTWet a23 c24 t19.Wet), (11, OwnS kTCell a28 c29 t26.Cells), (12, OwnS kTWet a30 c31 t26.Wet), (18, OwnS kTCell a44 c45 t42.Cells), (19, OwnS kTWet a46 c47 t42.Wet)] ?_ ?_
          · rcases Bool.eq_false_or_eq_true (decide (i273 < 8)) with hg304 | hg304
            · refine HQ.on rfl rfl hg304 ?_
              refine HQ.pu (Pu.fieldB fo27_3 rfl) ⟨rfl, trivial⟩ rfl rfl rfl ?_
              refine HQ.on rfl rfl hg304 ?_
              refine HQ.op [13] [13] (OT.loadB sc4 rfl) ⟨rfl, trivial⟩ ⟨rfl, trivial⟩ rfl rfl rfl rfl (fun _ => rfl) fun _ => ?_
              refine HQ.on rfl rfl hg304 ?_
              refine HQ.pu Pu.not ⟨rfl, trivial⟩ rfl rfl rfl ?_
              refine HQ.pu (Pu.pickAT hg304) ⟨rfl, rfl, trivial⟩ rfl rfl rfl ?_
              exact HQ.mid ⟨rfl, rfl, rfl, rfl, rfl, rfl, rfl, trivial⟩ ⟨rfl, rfl, rfl, rfl, rfl, rfl, rfl, rfl, rfl, rfl, trivial⟩ rfl
            · refine HQ.off rfl rfl hg304 rfl ?_
              refine HQ.off rfl rfl hg304 rfl ?_
              refine HQ.off rfl rfl hg304 rfl ?_
              refine HQ.pu (Pu.pickAF (u := (!t26.Dead)) hg304) ⟨rfl, rfl, trivial⟩ rfl rfl rfl ?_
              exact HQ.mid ⟨rfl, rfl, rfl, rfl, rfl, rfl, rfl, trivial⟩ ⟨rfl, rfl, rfl, rfl, rfl, rfl, rfl, rfl, rfl, rfl, trivial⟩ rfl
          refine HQ.done ?_
          refine HQ.keep [(133, _), (2, _), (7, _), (8, _), (10, _), (12, _), (21, _)] ⟨rfl, rfl, rfl, rfl, rfl, rfl, rfl, trivial⟩ ?_
          rcases brk H with ⟨hc, H⟩ | ⟨hc, H⟩
          · refine HQ.condT rfl hc ?_
            clear hc
            refine HQ.skipThen ?_
            refine HQ.seq ?_
            refine HQ.block ?_
            refine HQ.rseq ?_
            refine HQ.op [13] [13] (OT.loadBA (vs := [.slice a28 (List.length t26.Cells) c29, .slice a30 (List.length t26.Wet) c31, .int .i64 t26.Fuse, .bool t26.Dead]) ag27 sz27 rfl rfl) ⟨rfl, trivial⟩ ⟨rfl, trivial⟩ rfl rfl rfl rfl (fun _ => rfl) fun _ => ?_
            refine HQ.pu Pu.move ⟨rfl, trivial⟩ rfl rfl rfl ?_
            obtain ⟨t305, h306, H⟩ := bnd H
            refine HQ.op [11, 12] [63, 11, 12] (OT.call (us := [_, _]) (Pre := [OwnS kTCell a28 c29 t26.Cells, OwnS kTWet a30 c31 t26.Wet]) [.tmp 137, .tmp 138] Try.call17 rfl rfl fun w F hs hF hp => impl_Read_c (hs.lend hF 0 rfl) (hs.lend hF 1 rfl) h306) ⟨rfl, rfl, rfl, trivial⟩ ⟨rfl, rfl, trivial⟩ rfl rfl rfl rfl (fun _ => rfl) fun ⟨a307, c308⟩ => ?_
            refine HQ.pu Pu.move ⟨rfl, trivial⟩ rfl rfl rfl ?_
            refine HQ.pu (Pu.extract rfl) ⟨rfl, trivial⟩ rfl rfl rfl ?_
            refine HQ.pu (Pu.extract rfl) ⟨rfl, trivial⟩ rfl rfl rfl ?_
            refine HQ.pu Pu.assign ⟨rfl, trivial⟩ rfl rfl rfl ?_
            refine HQ.pu Pu.assign ⟨rfl, trivial⟩ rfl rfl rfl ?_
            refine HQ.done ?_
            refine HQ.keep [(2, _), (7, _), (8, _), (10, _), (12, _), (21, _), (22, _), (23, _)] ⟨rfl, rfl, rfl, rfl, rfl, rfl, rfl, rfl, trivial⟩ ?_
            refine HQ.rseq ?_
            refine HQ.op [10] [10] (OT.loadBA (vs := [.slice a21 (List.length t19.Cells) c22, .slice a23 (List.length t19.Wet) c24, .int .i64 t19.Fuse, .bool t19.Dead]) ag27 sz27 rfl rfl) ⟨rfl, trivial⟩ ⟨rfl, trivial⟩ rfl rfl rfl rfl (fun _ => rfl) fun _ => ?_
            refine HQ.pu Pu.move ⟨rfl, trivial⟩ rfl rfl rfl ?_
            obtain ⟨t309, h310, H⟩ := bnd H
            refine HQ.op [8, 9] [64, 8, 9] (OT.call (us := [_, _]) (Pre := [OwnS kTCell a21 c22 t19.Cells, OwnS kTWet a23 c24 t19.Wet]) [.tmp 143, .tmp 144] Try.call17 rfl rfl fun w F hs hF hp => impl_Read_c (hs.lend hF 0 rfl) (hs.lend hF 1 rfl) h310) ⟨rfl, rfl, rfl, trivial⟩ ⟨rfl, rfl, trivial⟩ rfl rfl rfl rfl (fun _ => rfl) fun ⟨a311, c312⟩ => ?_
            refine HQ.pu Pu.move ⟨rfl, trivial⟩ rfl rfl rfl ?_
            refine HQ.pu (Pu.extract rfl) ⟨rfl, trivial⟩ rfl rfl rfl ?_
            refine HQ.pu (Pu.extract rfl) ⟨rfl, trivial⟩ rfl rfl rfl ?_
            refine HQ.pu Pu.assign ⟨rfl, trivial⟩ rfl rfl rfl ?_
            refine HQ.pu Pu.assign ⟨rfl, trivial⟩ rfl rfl rfl ?_
            refine HQ.done ?_
            refine HQ.keep [(2, _), (7, _), (8, _), (10, _), (12, _), (21, _), (22, _), (23, _), (24, _), (25, _)] ⟨rfl, rfl, rfl, rfl, rfl, rfl, rfl, rfl, rfl, rfl, trivial⟩ ?_
            refine HQ.rseq ?_
            refine HQ.op [13] [13] (OT.loadBA (vs := [.slice a28 (List.length t26.Cells) c29, .slice a30 (List.length t26.Wet) c31, .int .i64 t26.Fuse, .bool t26.Dead]) ag27 sz27 rfl rfl) ⟨rfl, trivial⟩ ⟨rfl, trivial⟩ rfl rfl rfl rfl (fun _ => rfl) fun _ => ?_
            refine HQ.pu Pu.move ⟨rfl, trivial⟩ rfl rfl rfl ?_
            obtain ⟨t313, h314, H⟩ := bnd H
            refine HQ.op [11, 12, 16] [65, 66, 11, 12, 16] (OT.call (us := [_, _, _]) (Pre := [OwnS kTCell a28 c29 t26.Cells, OwnS kTWet a30 c31 t26.Wet, OwnS kI a39 c40 t33.2.1]) [.tmp 149, .tmp 150, .const (.int .i64 (-1))] Try.call15 rfl rfl fun w F hs hF hp => impl_Crash_c (hs.lend hF 0 rfl) (hs.lend hF 1 rfl) (hs.lend hF 2 rfl) h314) ⟨rfl, rfl, rfl, rfl, trivial⟩ ⟨rfl, rfl, rfl, trivial⟩ rfl rfl rfl rfl (fun _ => rfl) fun ⟨⟨a315, c316⟩, ⟨a317, c318⟩⟩ => ?_
            refine HQ.pu Pu.move ⟨rfl, trivial⟩ rfl rfl rfl ?_
            obtain ⟨t319, h320, H⟩ := bnd H
            refine HQ.op [65, 66] [67, 65, 66] (OT.call (us := [_, _]) (Pre := [OwnS kTCell a315 c316 t313.Cells, OwnS kTWet a317 c318 t313.Wet]) [.tmp 151, .tmp 152] Try.call17 rfl rfl fun w F hs hF hp => impl_Read_c (hs.lend hF 0 rfl) (hs.lend hF 1 rfl) h320) ⟨rfl, rfl, rfl, trivial⟩ ⟨rfl, rfl, trivial⟩ rfl rfl rfl rfl (fun _ => rfl) fun ⟨a321, c322⟩ => ?_
            refine HQ.pu Pu.move ⟨rfl, trivial⟩ rfl rfl rfl ?_
            refine HQ.pu (Pu.extract rfl) ⟨rfl, trivial⟩ rfl rfl rfl ?_
            refine HQ.pu (Pu.extract rfl) ⟨rfl, trivial⟩ rfl rfl rfl ?_
            refine HQ.pu Pu.assign ⟨rfl, trivial⟩ rfl rfl rfl ?_
            refine HQ.pu Pu.assign ⟨rfl, trivial⟩ rfl rfl rfl ?_
            refine HQ.done ?_
            refine HQ.keep [(2, _), (7, _), (8, _), (10, _), (12, _), (21, _), (22, _), (23, _), (24, _), (25, _), (26, _), (27, _)] ⟨rfl, rfl, rfl, rfl, rfl, rfl, rfl, rfl, rfl, rfl, rfl, rfl, trivial⟩ ?_
            refine HQ.rseq ?_
            refine HQ.pu Pu.move ⟨rfl, trivial⟩ rfl rfl rfl ?_
            refine HQ.pu Pu.move ⟨rfl, trivial⟩ rfl rfl rfl ?_
            refine HQ.pu (Pu.neqB ul4) ⟨rfl, rfl, trivial⟩ rfl rfl rfl ?_
            refine HQ.pu Pu.move ⟨rfl, trivial⟩ rfl rfl rfl ?_
            obtain ⟨c326, h327, H⟩ := bnd H
            refine HQ.cutAt 5 [(164, .bool c326), (2, .bool false), (7, BP b25 0), (8, BP b32 0), (10, .slice a39 (List.length t33.2.1) c40), (12, BP b48 0), (21, .int .i64 i273), (22, .slice a307 (List.length t305.1) c308), (23, .bool t305.2), (26, .slice a321 (List.length t319.1) c322), (27, .bool t319.2)] [(10, Box b25 [.slice a21 (List.length t19.Cells) c22, .slice a23 (List.length t19.Wet) c24, .int .i64 t19.Fuse, .bool t19.Dead]), (13, Box b32 [.slice a28 (List.length t26.Cells) c29, .slice a30 (List.length t26.Wet) c31, .int .i64 t26.Fuse, .bool t26.Dead]), (20, Box b48 [.slice a44 (List.length t42.Cells) c45, .slice a46 (List.length t42.Wet) c47, .int .i64 t42.Fuse, .bool t42.Dead]), (16, OwnS kI a39 c40 t33.2.1), (8, OwnS kTCell a21 c22 t19.Cells), (9, OwnS kTWet a23 c24 t19.Wet), (11, OwnS kTCell a28 c29 t26.Cells), (12, OwnS kTWet a30 c31 t26.Wet), (18, OwnS kTCell a44 c45 t42.Cells), (19, OwnS kTWet a46 c47 t42.Wet), (63, OwnS kU8 a307 c308 t305.1), (64, OwnS kU8 a311 c312 t309.1), (65, OwnS kTCell a315 c316 t313.Cells), (66, OwnS kTWet a317 c318 t313.Wet), (67, OwnS kU8 a321 c322 t319.1)] ?_ ?_
            · clear H
              have H := h327
              rcases brk H with ⟨hg323, H⟩ | ⟨hg323, H⟩
              · obtain rfl := Option.some.inj H
                refine HQ.off rfl rfl hg323 rfl ?_
                refine HQ.off rfl rfl hg323 rfl ?_
                refine HQ.off rfl rfl hg323 rfl ?_
                refine HQ.off rfl rfl hg323 rfl ?_
                refine HQ.pu (Pu.pickC1 hg323) ⟨rfl, rfl, trivial⟩ rfl rfl rfl ?_
                exact HQ.mid ⟨rfl, rfl, rfl, rfl, rfl, rfl, rfl, rfl, rfl, rfl, rfl, trivial⟩ ⟨rfl, rfl, rfl, rfl, rfl, rfl, rfl, rfl, rfl, rfl, rfl, rfl, rfl, rfl, rfl, trivial⟩ rfl
              · refine HQ.on rfl rfl hg323 ?_
                refine HQ.pu Pu.move ⟨rfl, trivial⟩ rfl rfl rfl ?_
                refine HQ.on rfl rfl hg323 ?_
                refine HQ.pu Pu.move ⟨rfl, trivial⟩ rfl rfl rfl ?_
                refine HQ.on rfl rfl hg323 ?_
                obtain ⟨t324, h325, H⟩ := bnd H
                refine HQ.op [63, 64] [63, 64] (OT.call (us := [_, _]) (Pre := [OwnS kU8 a307 c308 t305.1, OwnS kU8 a311 c312 t309.1]) [.tmp 160, .tmp 161] Try.call23 rfl rfl fun w F hs hF hp => laws_same_c (hs.lend hF 0 rfl) (hs.lend hF 1 rfl) h325) ⟨rfl, rfl, rfl, trivial⟩ ⟨rfl, rfl, trivial⟩ rfl rfl rfl rfl (fun _ => rfl) fun _ => ?_
                refine HQ.on rfl rfl hg323 ?_
                refine HQ.pu Pu.not ⟨rfl, trivial⟩ rfl rfl rfl ?_
                obtain rfl := Option.some.inj H
                refine HQ.pu (Pu.pickC0 hg323) ⟨rfl, rfl, trivial⟩ rfl rfl rfl ?_
                exact HQ.mid ⟨rfl, rfl, rfl, rfl, rfl, rfl, rfl, rfl, rfl, rfl, rfl, trivial⟩ ⟨rfl, rfl, rfl, rfl, rfl, rfl, rfl, rfl, rfl, rfl, rfl, rfl, rfl, rfl, rfl, trivial⟩ rfl
            refine HQ.pu Pu.move ⟨rfl, trivial⟩ rfl rfl rfl ?_
            refine HQ.cutAt 4 [(169, .bool (c326 || (!(t305.2 == t319.2)))), (2, .bool false), (7, BP b25 0), (8, BP b32 0), (10, .slice a39 (List.length t33.2.1) c40), (12, BP b48 0), (21, .int .i64 i273), (22, .slice a307 (List.length t305.1) c308), (26, .slice a321 (List.length t319.1) c322)] [(10, Box b25 [.slice a21 (List.length t19.Cells) c22, .slice a23 (List.length t19.Wet) c24, .int .i64 t19.Fuse, .bool t19.Dead]), (13, Box b32 [.slice a28 (List.length t26.Cells) c29, .slice a30 (List.length t26.Wet) c31, .int .i64 t26.Fuse, .bool t26.Dead]), (20, Box b48 [.slice a44 (List.length t42.Cells) c45, .slice a46 (List.length t42.Wet) c47, .int .i64 t42.Fuse, .bool t42.Dead]), (16, OwnS kI a39 c40 t33.2.1), (8, OwnS kTCell a21 c22 t19.Cells), (9, OwnS kTWet a23 c24 t19.Wet), (11, OwnS kTCell a28 c29 t26.Cells), (12, OwnS kTWet a30 c31 t26.Wet), (18, OwnS kTCell a44 c45 t42.Cells), (19, OwnS kTWet a46 c47 t42.Wet), (63, OwnS kU8 a307 c308 t305.1), (64, OwnS kU8 a311 c312 t309.1), (65, OwnS kTCell a315 c316 t313.Cells), (66, OwnS kTWet a317 c318 t313.Wet), (67, OwnS kU8 a321 c322 t319.1)] ?_ ?_
            · rcases Bool.eq_false_or_eq_true c326 with hg328 | hg328
              · refine HQ.off rfl rfl hg328 rfl ?_
                refine HQ.off rfl rfl hg328 rfl ?_
                refine HQ.off rfl rfl hg328 rfl ?_
                refine HQ.pu (Pu.pickOT (u := (!(t305.2 == t319.2))) hg328) ⟨rfl, rfl, trivial⟩ rfl rfl rfl ?_
                exact HQ.mid ⟨rfl, rfl, rfl, rfl, rfl, rfl, rfl, rfl, rfl, trivial⟩ ⟨rfl, rfl, rfl, rfl, rfl, rfl, rfl, rfl, rfl, rfl, rfl, rfl, rfl, rfl, rfl, trivial⟩ rfl
              · refine HQ.on rfl rfl hg328 ?_
                refine HQ.pu Pu.move ⟨rfl, trivial⟩ rfl rfl rfl ?_
                refine HQ.on rfl rfl hg328 ?_
                refine HQ.pu Pu.move ⟨rfl, trivial⟩ rfl rfl rfl ?_
                refine HQ.on rfl rfl hg328 ?_
                refine HQ.pu (Pu.neqB ul4) ⟨rfl, rfl, trivial⟩ rfl rfl rfl ?_
                refine HQ.pu (Pu.pickOF hg328) ⟨rfl, rfl, trivial⟩ rfl rfl rfl ?_
                exact HQ.mid ⟨rfl, rfl, rfl, rfl, rfl, rfl, rfl, rfl, rfl, trivial⟩ ⟨rfl, rfl, rfl, rfl, rfl, rfl, rfl, rfl, rfl, rfl, rfl, rfl, rfl, rfl, rfl, trivial⟩ rfl
            refine HQ.pu Pu.move ⟨rfl, trivial⟩ rfl rfl rfl ?_
            obtain ⟨c332, h333, H⟩ := bnd H
            refine HQ.cutAt 5 [(175, .bool c332), (2, .bool false), (7, BP b25 0), (8, BP b32 0), (10, .slice a39 (List.length t33.2.1) c40), (12, BP b48 0), (21, .int .i64 i273)] [(10, Box b25 [.slice a21 (List.length t19.Cells) c22, .slice a23 (List.length t19.Wet) c24, .int .i64 t19.Fuse, .bool t19.Dead]), (13, Box b32 [.slice a28 (List.length t26.Cells) c29, .slice a30 (List.length t26.Wet) c31, .int .i64 t26.Fuse, .bool t26.Dead]), (20, Box b48 [.slice a44 (List.length t42.Cells) c45, .slice a46 (List.length t42.Wet) c47, .int .i64 t42.Fuse, .bool t42.Dead]), (16, OwnS kI a39 c40 t33.2.1), (8, OwnS kTCell a21 c22 t19.Cells), (9, OwnS kTWet a23 c24 t19.Wet), (11, OwnS kTCell a28 c29 t26.Cells), (12, OwnS kTWet a30 c31 t26.Wet), (18, OwnS kTCell a44 c45 t42.Cells), (19, OwnS kTWet a46 c47 t42.Wet), (63, OwnS kU8 a307 c308 t305.1), (64, OwnS kU8 a311 c312 t309.1), (65, OwnS kTCell a315 c316 t313.Cells), (66, OwnS kTWet a317 c318 t313.Wet), (67, OwnS kU8 a321 c322 t319.1)] ?_ ?_
            · clear H
              have H := h333
              rcases brk H with ⟨hg329, H⟩ | ⟨hg329, H⟩
              · obtain rfl := Option.some.inj H
                refine HQ.off rfl rfl hg329 rfl ?_
                refine HQ.off rfl rfl hg329 rfl ?_
                refine HQ.off rfl rfl hg329 rfl ?_
                refine HQ.off rfl rfl hg329 rfl ?_
                refine HQ.pu (Pu.pickC1 hg329) ⟨rfl, rfl, trivial⟩ rfl rfl rfl ?_
                exact HQ.mid ⟨rfl, rfl, rfl, rfl, rfl, rfl, rfl, trivial⟩ ⟨rfl, rfl, rfl, rfl, rfl, rfl, rfl, rfl, rfl, rfl, rfl, rfl, rfl, rfl, rfl, trivial⟩ rfl
              · refine HQ.on rfl rfl hg329 ?_
                refine HQ.pu Pu.move ⟨rfl, trivial⟩ rfl rfl rfl ?_
                refine HQ.on rfl rfl hg329 ?_
                refine HQ.pu Pu.move ⟨rfl, trivial⟩ rfl rfl rfl ?_
                refine HQ.on rfl rfl hg329 ?_
                obtain ⟨t330, h331, H⟩ := bnd H
                refine HQ.op [63, 67] [63, 67] (OT.call (us := [_, _]) (Pre := [OwnS kU8 a307 c308 t305.1, OwnS kU8 a321 c322 t319.1]) [.tmp 171, .tmp 172] Try.call23 rfl rfl fun w F hs hF hp => laws_same_c (hs.lend hF 0 rfl) (hs.lend hF 1 rfl) h331) ⟨rfl, rfl, rfl, trivial⟩ ⟨rfl, rfl, trivial⟩ rfl rfl rfl rfl (fun _ => rfl) fun _ => ?_
                refine HQ.on rfl rfl hg329 ?_
                refine HQ.pu Pu.not ⟨rfl, trivial⟩ rfl rfl rfl ?_
                obtain rfl := Option.some.inj H
                refine HQ.pu (Pu.pickC0 hg329) ⟨rfl, rfl, trivial⟩ rfl rfl rfl ?_
                exact HQ.mid ⟨rfl, rfl, rfl, rfl, rfl, rfl, rfl, trivial⟩ ⟨rfl, rfl, rfl, rfl, rfl, rfl, rfl, rfl, rfl, rfl, rfl, rfl, rfl, rfl, rfl, trivial⟩ rfl
            refine HQ.done ?_
            refine HQ.keep [(175, _), (2, _), (7, _), (8, _), (10, _), (12, _), (21, _)] ⟨rfl, rfl, rfl, rfl, rfl, rfl, rfl, trivial⟩ ?_
            rcases brk H with ⟨hc, H⟩ | ⟨hc, H⟩
            · refine HQ.condT rfl hc ?_
              clear hc
              refine HQ.rseq ?_
              refine HQ.pu Pu.assign ⟨rfl, trivial⟩ rfl rfl rfl ?_
              refine HQ.done ?_
              refine HQ.keep [(2, _), (7, _), (8, _), (10, _), (12, _), (21, _)] ⟨rfl, rfl, rfl, rfl, rfl, rfl, trivial⟩ ?_
              refine HQ.ret ?_
              refine HQ.blkR ?_
              refine HQ.thenR ?_
              obtain rfl := Option.some.inj H
              refine HQ.retL ?_
              exact HQ.fin (vs := [_]) Try.results3 () ⟨rfl, trivial⟩ rfl [] trivial rfl
            · refine HQ.condF rfl hc ?_
              clear hc
              refine HQ.skip ?_
              refine HQ.blkN ?_
              refine HQ.thenN ?_
              refine HQ.regionQ ?_
              refine HQ.pu Pu.move ⟨rfl, trivial⟩ rfl rfl rfl ?_
              refine HQ.pu Pu.add ⟨rfl, rfl, trivial⟩ rfl rfl rfl ?_
              refine HQ.pu Pu.assign ⟨rfl, trivial⟩ rfl rfl rfl ?_
              refine HQ.done ?_
              refine HQ.keep [(2, _), (7, _), (8, _), (10, _), (12, _), (21, _)] ⟨rfl, rfl, rfl, rfl, rfl, rfl, trivial⟩ ?_
              obtain rfl := Option.some.inj H
              exact HQ.next () ⟨rfl, rfl, rfl, rfl, rfl, rfl, trivial⟩ ⟨rfl, rfl, rfl, rfl, rfl, rfl, rfl, rfl, rfl, rfl, trivial⟩ rfl
          · refine HQ.condF rfl hc ?_
            clear hc
            refine HQ.exit ?_
            refine HQ.thenE ?_
            obtain rfl := Option.some.inj H
            exact HQ.out () ⟨rfl, rfl, rfl, rfl, rfl, rfl, trivial⟩ ⟨rfl, rfl, rfl, rfl, rfl, rfl, rfl, rfl, rfl, rfl, trivial⟩ rfl
        · rintro i335 rfl _
          clear h363
          replace H := H
          refine HQ.keep [(2, _), (7, _), (8, _), (10, _), (12, _), (21, _)] ⟨rfl, rfl, rfl, rfl, rfl, rfl, trivial⟩ ?_
          refine HQ.keepR [(10, _), (13, _), (20, _), (16, _), (8, _), (9, _), (11, _), (12, _), (18, _), (19, _)] ⟨rfl, rfl, rfl, rfl, rfl, rfl, rfl, rfl, rfl, rfl, trivial⟩ rfl ?_
          refine HQ.blkE ?_
          refine HQ.thenN ?_
          refine HQ.seq ?_
          refine HQ.dStart mixd ?_
          refine HQ.dRun 10 rfl rfl (by kernel_rfl) (by kernel_rfl) ?_
          refine HQ.pu (Pu.fieldB fo27_1 rfl) ⟨rfl, trivial⟩ rfl rfl rfl ?_
          refine HQ.op [20] [20] (OT.loadB sc25 rfl) ⟨rfl, trivial⟩ ⟨rfl, trivial⟩ rfl rfl rfl rfl (fun _ => rfl) fun _ => ?_
          refine HQ.pu (Pu.len ul25) ⟨rfl, trivial⟩ rfl rfl rfl ?_
          refine HQ.pu Pu.eql ⟨rfl, rfl, trivial⟩ rfl rfl rfl ?_
          refine HQ.pu Pu.move ⟨rfl, trivial⟩ rfl rfl rfl ?_
          refine HQ.cutAt 4 [(184, .bool ((decide (((List.length t42.Wet : Nat) : Int) = 0)) && (!t42.Dead))), (2, .bool false), (8, BP b32 0)] [(10, Box b25 [.slice a21 (List.length t19.Cells) c22, .slice a23 (List.length t19.Wet) c24, .int .i64 t19.Fuse, .bool t19.Dead]), (13, Box b32 [.slice a28 (List.length t26.Cells) c29, .slice a30 (List.length t26.Wet) c31, .int .i64 t26.Fuse, .bool t26.Dead]), (20, Box b48 [.slice a44 (List.length t42.Cells) c45, .slice a46 (List.length t42.Wet) c47, .int .i64 t42.Fuse, .bool t42.Dead]), (16, OwnS kI a39 c40 t33.2.1), (8, OwnS kTCell a21 c22 t19.Cells), (9, OwnS kTWet a23 c24 t19.Wet), (11, OwnS kTCell a28 c29 t26.Cells), (12, OwnS kTWet a30 c31 t26.Wet), (18, OwnS kTCell a44 c45 t42.Cells), (19, OwnS kTWet a46 c47 t42.Wet)] ?_ ?_
          · rcases Bool.eq_false_or_eq_true (decide (((List.length t42.Wet : Nat) : Int) = 0)) with hg336 | hg336
            · refine HQ.on rfl rfl hg336 ?_
              refine HQ.pu (Pu.fieldB fo27_3 rfl) ⟨rfl, trivial⟩ rfl rfl rfl ?_
              refine HQ.on rfl rfl hg336 ?_
              refine HQ.op [20] [20] (OT.loadB sc4 rfl) ⟨rfl, trivial⟩ ⟨rfl, trivial⟩ rfl rfl rfl rfl (fun _ => rfl) fun _ => ?_
              refine HQ.on rfl rfl hg336 ?_
              refine HQ.pu Pu.not ⟨rfl, trivial⟩ rfl rfl rfl ?_
              refine HQ.pu (Pu.pickAT hg336) ⟨rfl, rfl, trivial⟩ rfl rfl rfl ?_
              exact HQ.mid ⟨rfl, rfl, rfl, trivial⟩ ⟨rfl, rfl, rfl, rfl, rfl, rfl, rfl, rfl, rfl, rfl, trivial⟩ rfl
            · refine HQ.off rfl rfl hg336 rfl ?_
              refine HQ.off rfl rfl hg336 rfl ?_
              refine HQ.off rfl rfl hg336 rfl ?_
              refine HQ.pu (Pu.pickAF (u := (!t42.Dead)) hg336) ⟨rfl, rfl, trivial⟩ rfl rfl rfl ?_
              exact HQ.mid ⟨rfl, rfl, rfl, trivial⟩ ⟨rfl, rfl, rfl, rfl, rfl, rfl, rfl, rfl, rfl, rfl, trivial⟩ rfl
          refine HQ.pu Pu.move ⟨rfl, trivial⟩ rfl rfl rfl ?_
          refine HQ.done ?_
          obtain ⟨c352, h353, H⟩ := bnd H
          refine HQ.dMid (m' := 20) [(195, .bool c352), (2, .bool false)] [(10, Box b25 [.slice a21 (List.length t19.Cells) c22, .slice a23 (List.length t19.Wet) c24, .int .i64 t19.Fuse, .bool t19.Dead]), (13, Box b32 [.slice a28 (List.length t26.Cells) c29, .slice a30 (List.length t26.Wet) c31, .int .i64 t26.Fuse, .bool t26.Dead]), (20, Box b48 [.slice a44 (List.length t42.Cells) c45, .slice a46 (List.length t42.Wet) c47, .int .i64 t42.Fuse, .bool t42.Dead]), (16, OwnS kI a39 c40 t33.2.1), (8, OwnS kTCell a21 c22 t19.Cells), (9, OwnS kTWet a23 c24 t19.Wet), (11, OwnS kTCell a28 c29 t26.Cells), (12, OwnS kTWet a30 c31 t26.Wet), (18, OwnS kTCell a44 c45 t42.Cells), (19, OwnS kTWet a46 c47 t42.Wet)] (fun hmid => ?_) ?_
          · clear H
            have H := h353
            rcases brk H with ⟨hg337, H⟩ | ⟨hg337, H⟩
            · refine HQ.dRun 4 rfl rfl (by kernel_rfl) (by kernel_rfl) ?_
              refine HQ.on rfl rfl hg337 ?_
              refine HQ.pu (Pu.fieldB fo27_3 rfl) ⟨rfl, trivial⟩ rfl rfl rfl ?_
              refine HQ.on rfl rfl hg337 ?_
              refine HQ.op [13] [13] (OT.loadB sc4 rfl) ⟨rfl, trivial⟩ ⟨rfl, trivial⟩ rfl rfl rfl rfl (fun _ => rfl) fun _ => ?_
              refine HQ.on rfl rfl hg337 ?_
              refine HQ.pu Pu.not ⟨rfl, trivial⟩ rfl rfl rfl ?_
              refine HQ.on rfl rfl hg337 ?_
              refine HQ.pu Pu.move ⟨rfl, trivial⟩ rfl rfl rfl ?_
              refine HQ.done ?_
              obtain ⟨c349, h350, H⟩ := bnd H
              refine HQ.dMid (m' := 19) [(194, .bool c349), (2, .bool false), (185, .bool ((decide (((List.length t42.Wet : Nat) : Int) = 0)) && (!t42.Dead)))] [(10, Box b25 [.slice a21 (List.length t19.Cells) c22, .slice a23 (List.length t19.Wet) c24, .int .i64 t19.Fuse, .bool t19.Dead]), (13, Box b32 [.slice a28 (List.length t26.Cells) c29, .slice a30 (List.length t26.Wet) c31, .int .i64 t26.Fuse, .bool t26.Dead]), (20, Box b48 [.slice a44 (List.length t42.Cells) c45, .slice a46 (List.length t42.Wet) c47, .int .i64 t42.Fuse, .bool t42.Dead]), (16, OwnS kI a39 c40 t33.2.1), (8, OwnS kTCell a21 c22 t19.Cells), (9, OwnS kTWet a23 c24 t19.Wet), (11, OwnS kTCell a28 c29 t26.Cells), (12, OwnS kTWet a30 c31 t26.Wet), (18, OwnS kTCell a44 c45 t42.Cells), (19, OwnS kTWet a46 c47 t42.Wet)] (fun hmid => ?_) ?_
              · clear H
                have H := h350
                rcases brk H with ⟨hg338, H⟩ | ⟨hg338, H⟩
                · obtain rfl := Option.some.inj H
                  refine HQ.dPart [(2, .bool false), (8, BP b32 0), (185, .bool ((decide (((List.length t42.Wet : Nat) : Int) = 0)) && (!t42.Dead))), (189, .bool (!t26.Dead))] 17 [⟨[], [], []⟩, ⟨[], [], []⟩, ⟨[], [], []⟩, ⟨[], [], []⟩, ⟨[], [], []⟩, ⟨[], [], []⟩, ⟨[], [], []⟩, ⟨[], [], []⟩, ⟨[], [], []⟩, ⟨[], [], []⟩, ⟨[], [], []⟩, ⟨[], [], []⟩, ⟨[], [], []⟩, ⟨[], [], []⟩, ⟨[], [], []⟩, ⟨[], [], []⟩, ⟨[], [], []⟩] [] (fun (g348 : Unit) => [undef, undef, undef, undef, undef, undef, undef, undef, undef, undef, undef, undef, undef, undef, undef, undef, undef]) (fun (g348 : Unit) => []) () [] [] [] ⟨rfl, rfl, rfl, rfl, trivial⟩ trivial rfl (by kernel_rfl) (by kernel_rfl) (fun _ => rfl) (by kernel_rfl) (fun _ => rfl) rfl ⟨?_, ?_, ?_, trivial⟩ fun g348 => ?_
                  · exact OpOK2.off rfl rfl rfl hg338 rfl rfl (fun _ => ⟨rfl, trivial⟩)
                  · exact OpOK2.off rfl rfl rfl hg338 rfl rfl (fun _ => ⟨rfl, trivial⟩)
                  · exact OpOK2.off rfl rfl rfl hg338 rfl rfl (fun _ => ⟨rfl, trivial⟩)
                  refine HQ.keep [(2, _), (185, _), (189, _), (191, _), (192, _)] ⟨rfl, rfl, rfl, rfl, rfl, trivial⟩ ?_
                  refine HQ.keepR [(10, _), (13, _), (20, _), (16, _), (8, _), (9, _), (11, _), (12, _), (18, _), (19, _)] ⟨rfl, rfl, rfl, rfl, rfl, rfl, rfl, rfl, rfl, rfl, trivial⟩ rfl ?_
                  refine HQ.dRun 1 rfl rfl (by kernel_rfl) (by kernel_rfl) ?_
                  refine HQ.off rfl rfl hg338 rfl ?_
                  refine HQ.done ?_
                  refine HQ.dRun 1 rfl rfl (by kernel_rfl) (by kernel_rfl) ?_
                  refine HQ.on rfl rfl hg337 ?_
                  refine HQ.pu (Pu.pickC1 hg338) ⟨rfl, rfl, trivial⟩ rfl rfl rfl ?_
                  refine HQ.done ?_
                  exact HQ.dUse hmid ⟨rfl, rfl, rfl, trivial⟩ ⟨rfl, rfl, rfl, rfl, rfl, rfl, rfl, rfl, rfl, rfl, trivial⟩ rfl
                · obtain ⟨t340, h341, H⟩ := bnd H
                  refine HQ.dPart [(2, .bool false), (8, BP b32 0), (185, .bool ((decide (((List.length t42.Wet : Nat) : Int) = 0)) && (!t42.Dead))), (189, .bool (!t26.Dead))] 17 [⟨[], [], []⟩, ⟨[], [], []⟩, ⟨[], [], []⟩, ⟨[], [], []⟩, ⟨[], [], []⟩, ⟨[], [], []⟩, ⟨[], [], []⟩, ⟨[], [], []⟩, ⟨[], [], []⟩, ⟨[], [], []⟩, ⟨[], [], []⟩, ⟨[], [], []⟩, ⟨[], [], []⟩, ⟨[], [], []⟩, ⟨[0], [0], []⟩, ⟨[1, 2], [3, 4, 1, 2], [14]⟩, ⟨[0], [0], []⟩] [⟨none, none⟩, ⟨none, none⟩, ⟨none, none⟩, ⟨some 15, none⟩, ⟨some 15, none⟩] (fun (g339 : ((Option Addr × Nat) × (Option Addr × Nat))) => [undef, undef, undef, undef, undef, undef, undef, undef, undef, undef, undef, undef, undef, undef, .agg #[.slice a28 (List.length t26.Cells) c29, .slice a30 (List.length t26.Wet) c31, .int .i64 t26.Fuse, .bool t26.Dead], .agg #[.slice g339.1.1 (List.length t340.Cells) g339.1.2, .slice g339.2.1 (List.length t340.Wet) g339.2.2, .int .i64 t340.Fuse, .bool t340.Dead], .agg #[.slice a28 (List.length t26.Cells) c29, .slice a30 (List.length t26.Wet) c31, .int .i64 t26.Fuse, .bool t26.Dead]]) (fun (g339 : ((Option Addr × Nat) × (Option Addr × Nat))) => [Box b32 [.slice a28 (List.length t26.Cells) c29, .slice a30 (List.length t26.Wet) c31, .int .i64 t26.Fuse, .bool t26.Dead], OwnS kTCell a28 c29 t26.Cells, OwnS kTWet a30 c31 t26.Wet, OwnS kTCell g339.1.1 g339.1.2 t340.Cells, OwnS kTWet g339.2.1 g339.2.2 t340.Wet]) ((none, 0), (none, 0)) [13, 11, 12] [13, 11, 12, 68, 69] [] ⟨rfl, rfl, rfl, rfl, trivial⟩ ⟨rfl, rfl, rfl, trivial⟩ rfl (by kernel_rfl) (by kernel_rfl) (fun _ => rfl) (by kernel_rfl) (fun _ => rfl) rfl ⟨?_, ?_, ?_, trivial⟩ fun g339 => ?_
                  · exact OpOK2.on (fun g339 => [(.tmp 8, BP b32 0)]) _ _ (fun g339 _ => g339) rfl rfl rfl hg338 (fun _ => ⟨rfl, trivial⟩) (fun g339 => OT.loadBA (vs := [.slice a28 (List.length t26.Cells) c29, .slice a30 (List.length t26.Wet) c31, .int .i64 t26.Fuse, .bool t26.Dead]) ag27 sz27 rfl rfl) (fun _ _ => ⟨rfl, rfl, ⟨rfl, rfl, rfl, rfl, rfl, trivial⟩⟩)
                  · exact OpOK2.on (fun g339 => [(.func 13, .func (.func 13) #[] #[]), (.tmp 190, .agg #[.slice a28 (List.length t26.Cells) c29, .slice a30 (List.length t26.Wet) c31, .int .i64 t26.Fuse, .bool t26.Dead])]) _ _ (fun g339 x => x) rfl rfl rfl hg338 (fun _ => ⟨rfl, rfl, trivial⟩) (fun g339 => OT.call (us := [_]) (Pre := [OwnS kTCell a28 c29 t26.Cells, OwnS kTWet a30 c31 t26.Wet]) [.tmp 190] Try.call13 rfl rfl fun w F hs hF hp => impl_Flush_c (hs.lend hF 0 rfl) (hs.lend hF 1 rfl) h341) (fun _ _ => ⟨rfl, rfl, ⟨rfl, rfl, rfl, rfl, rfl, trivial⟩⟩)
                  · exact OpOK2.on (fun g339 => [(.tmp 8, BP b32 0)]) _ _ (fun g339 _ => g339) rfl rfl rfl hg338 (fun _ => ⟨rfl, trivial⟩) (fun g339 => OT.loadBA (vs := [.slice a28 (List.length t26.Cells) c29, .slice a30 (List.length t26.Wet) c31, .int .i64 t26.Fuse, .bool t26.Dead]) ag27 sz27 rfl rfl) (fun _ _ => ⟨rfl, rfl, ⟨rfl, rfl, rfl, rfl, rfl, trivial⟩⟩)
                  refine HQ.keep [(2, _), (185, _), (189, _), (191, _), (192, _)] ⟨rfl, rfl, rfl, rfl, rfl, trivial⟩ ?_
                  refine HQ.keepR [(10, _), (13, _), (20, _), (16, _), (8, _), (9, _), (11, _), (12, _), (18, _), (19, _), (68, _), (69, _)] ⟨rfl, rfl, rfl, rfl, rfl, rfl, rfl, rfl, rfl, rfl, rfl, rfl, trivial⟩ rfl ?_
                  refine HQ.dRun 1 rfl rfl (by kernel_rfl) (by kernel_rfl) ?_
                  refine HQ.on rfl rfl hg338 ?_
                  obtain ⟨t346, h347, H⟩ := bnd H
                  refine HQ.op [68, 69, 11, 12] [68, 69, 11, 12] (OT.call (us := [_, _]) (Pre := [OwnS kTCell g339.1.1 g339.1.2 t340.Cells, OwnS kTWet g339.2.1 g339.2.2 t340.Wet, OwnS kTCell a28 c29 t26.Cells, OwnS kTWet a30 c31 t26.Wet]) [.tmp 191, .tmp 192] Try.call19 rfl rfl fun w F hs hF hp => laws_sameDisk_c (hs.lend hF 0 rfl) (hs.lend hF 1 rfl) (hs.lend hF 2 rfl) (hs.lend hF 3 rfl) h347) ⟨rfl, rfl, rfl, trivial⟩ ⟨rfl, rfl, rfl, rfl, trivial⟩ rfl rfl rfl rfl (fun _ => rfl) fun _ => ?_
                  refine HQ.done ?_
                  obtain rfl := Option.some.inj H
                  refine HQ.dRun 1 rfl rfl (by kernel_rfl) (by kernel_rfl) ?_
                  refine HQ.on rfl rfl hg337 ?_
                  refine HQ.pu (Pu.pickC0 hg338) ⟨rfl, rfl, trivial⟩ rfl rfl rfl ?_
                  refine HQ.done ?_
                  exact HQ.dUse hmid ⟨rfl, rfl, rfl, trivial⟩ ⟨rfl, rfl, rfl, rfl, rfl, rfl, rfl, rfl, rfl, rfl, trivial⟩ rfl
              obtain rfl := Option.some.inj H
              refine HQ.dRun 1 rfl rfl (by kernel_rfl) (by kernel_rfl) ?_
              refine HQ.pu (Pu.pickC1 hg337) ⟨rfl, rfl, trivial⟩ rfl rfl rfl ?_
              refine HQ.done ?_
              exact HQ.dUse hmid ⟨rfl, rfl, trivial⟩ ⟨rfl, rfl, rfl, rfl, rfl, rfl, rfl, rfl, rfl, rfl, trivial⟩ rfl
            · obtain rfl := Option.some.inj H
              refine HQ.dRun 4 rfl rfl (by kernel_rfl) (by kernel_rfl) ?_
              refine HQ.off rfl rfl hg337 rfl ?_
              refine HQ.off rfl rfl hg337 rfl ?_
              refine HQ.off rfl rfl hg337 rfl ?_
              refine HQ.off rfl rfl hg337 rfl ?_
              refine HQ.done ?_
              refine HQ.dPart [(2, .bool false), (8, BP b32 0), (185, .bool ((decide (((List.length t42.Wet : Nat) : Int) = 0)) && (!t42.Dead))), (189, undef)] 17 [⟨[], [], []⟩, ⟨[], [], []⟩, ⟨[], [], []⟩, ⟨[], [], []⟩, ⟨[], [], []⟩, ⟨[], [], []⟩, ⟨[], [], []⟩, ⟨[], [], []⟩, ⟨[], [], []⟩, ⟨[], [], []⟩, ⟨[], [], []⟩, ⟨[], [], []⟩, ⟨[], [], []⟩, ⟨[], [], []⟩, ⟨[], [], []⟩, ⟨[], [], []⟩, ⟨[], [], []⟩] [] (fun (g351 : Unit) => [undef, undef, undef, undef, undef, undef, undef, undef, undef, undef, undef, undef, undef, undef, undef, undef, undef]) (fun (g351 : Unit) => []) () [] [] [] ⟨rfl, rfl, rfl, rfl, trivial⟩ trivial rfl (by kernel_rfl) (by kernel_rfl) (fun _ => rfl) (by kernel_rfl) (fun _ => rfl) rfl ⟨?_, ?_, ?_, trivial⟩ fun g351 => ?_
              · exact OpOK2.offU rfl rfl rfl rfl rfl (fun _ => ⟨rfl, trivial⟩)
              · exact OpOK2.offU rfl rfl rfl rfl rfl (fun _ => ⟨rfl, trivial⟩)
              · exact OpOK2.offU rfl rfl rfl rfl rfl (fun _ => ⟨rfl, trivial⟩)
              refine HQ.keep [(2, _), (185, _), (189, _), (191, _), (192, _)] ⟨rfl, rfl, rfl, rfl, rfl, trivial⟩ ?_
              refine HQ.keepR [(10, _), (13, _), (20, _), (16, _), (8, _), (9, _), (11, _), (12, _), (18, _), (19, _)] ⟨rfl, rfl, rfl, rfl, rfl, rfl, rfl, rfl, rfl, rfl, trivial⟩ rfl ?_
              refine HQ.dRun 2 rfl rfl (by kernel_rfl) (by kernel_rfl) ?_
              refine HQ.offU rfl rfl rfl ?_
              refine HQ.off rfl rfl hg337 rfl ?_
              refine HQ.done ?_
              refine HQ.dRun 1 rfl rfl (by kernel_rfl) (by kernel_rfl) ?_
              refine HQ.pu (Pu.pickC0 hg337) ⟨rfl, rfl, trivial⟩ rfl rfl rfl ?_
              refine HQ.done ?_
              exact HQ.dUse hmid ⟨rfl, rfl, trivial⟩ ⟨rfl, rfl, rfl, rfl, rfl, rfl, rfl, rfl, rfl, rfl, trivial⟩ rfl
          refine HQ.dRun 6 rfl rfl (by kernel_rfl) (by kernel_rfl) ?_
          refine HQ.pu Pu.move ⟨rfl, trivial⟩ rfl rfl rfl ?_
          obtain ⟨c361, h362, H⟩ := bnd H
          refine HQ.cutAt 4 [(200, .bool c361), (2, .bool false)] [(10, Box b25 [.slice a21 (List.length t19.Cells) c22, .slice a23 (List.length t19.Wet) c24, .int .i64 t19.Fuse, .bool t19.Dead]), (13, Box b32 [.slice a28 (List.length t26.Cells) c29, .slice a30 (List.length t26.Wet) c31, .int .i64 t26.Fuse, .bool t26.Dead]), (20, Box b48 [.slice a44 (List.length t42.Cells) c45, .slice a46 (List.length t42.Wet) c47, .int .i64 t42.Fuse, .bool t42.Dead]), (16, OwnS kI a39 c40 t33.2.1), (8, OwnS kTCell a21 c22 t19.Cells), (9, OwnS kTWet a23 c24 t19.Wet), (11, OwnS kTCell a28 c29 t26.Cells), (12, OwnS kTWet a30 c31 t26.Wet), (18, OwnS kTCell a44 c45 t42.Cells), (19, OwnS kTWet a46 c47 t42.Wet)] ?_ ?_
          · clear H
            have H := h362
            rcases brk H with ⟨hg354, H⟩ | ⟨hg354, H⟩
            · refine HQ.on rfl rfl hg354 ?_
              obtain ⟨t355, h356, H⟩ := bnd H
              refine HQ.op [] [70, 71] (OT.call (us := []) (Pre := []) [] Try.call25 rfl rfl fun w F hs hF hp => impl_DiskNew_c h356) ⟨rfl, trivial⟩ trivial rfl rfl rfl rfl (fun _ => rfl) fun ⟨⟨a357, c358⟩, ⟨a359, c360⟩⟩ => ?_
              refine HQ.on rfl rfl hg354 ?_
              refine HQ.pu (Pu.fieldS fv27_2 rfl) ⟨rfl, trivial⟩ rfl rfl rfl ?_
              refine HQ.on rfl rfl hg354 ?_
              refine HQ.pu Pu.eql ⟨rfl, rfl, trivial⟩ rfl rfl rfl ?_
              obtain rfl := Option.some.inj H
              refine HQ.pu (Pu.pickC1 hg354) ⟨rfl, rfl, trivial⟩ rfl rfl rfl ?_
              exact HQ.mid ⟨rfl, rfl, trivial⟩ ⟨rfl, rfl, rfl, rfl, rfl, rfl, rfl, rfl, rfl, rfl, trivial⟩ rfl
            · obtain rfl := Option.some.inj H
              refine HQ.off rfl rfl hg354 rfl ?_
              refine HQ.off rfl rfl hg354 rfl ?_
              refine HQ.off rfl rfl hg354 rfl ?_
              refine HQ.pu (Pu.pickC0 hg354) ⟨rfl, rfl, trivial⟩ rfl rfl rfl ?_
              exact HQ.mid ⟨rfl, rfl, trivial⟩ ⟨rfl, rfl, rfl, rfl, rfl, rfl, rfl, rfl, rfl, rfl, trivial⟩ rfl
          refine HQ.pu Pu.assign ⟨rfl, trivial⟩ rfl rfl rfl ?_
          refine HQ.done ?_
          refine HQ.dEnd rfl ?_
          refine HQ.thenN ?_
          refine HQ.keep [(2, _)] ⟨rfl, trivial⟩ ?_
          refine HQ.ret ?_
          obtain rfl := Option.some.inj H
          exact HQ.fin (vs := [_]) Try.results3 () ⟨rfl, trivial⟩ rfl [] trivial rfl
        · rintro r rfl a w hr
          obtain rfl := Option.some.inj H
          exact hr

end Go.Proofs.Sx
