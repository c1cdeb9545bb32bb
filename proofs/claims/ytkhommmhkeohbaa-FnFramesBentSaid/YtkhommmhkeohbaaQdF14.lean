import Derived.Test.YtkhommmhkeohbaaQdF13
import Derived.KernelRfl
namespace Go.Proofs.Sx
open Go.RowKit
set_option linter.unusedVariables false
set_option linter.unusedSimpArgs false
set_option maxRecDepth 20000
set_option maxHeartbeats 1000000
/-! laws.FnFramesBent -/
theorem laws_FnFramesBent_c {w : World} {k : Nat} {p0 : (List Int)} {a_0 : Option Addr} {c_0 : Nat} (hb_0 : BorS kU8 a_0 c_0 p0 w.heap (Lt w Nil)) {r : Bool} (H : laws_FnFramesBent k p0 = some r) :
    Calls Try.prog 7 #[.slice a_0 (List.length p0) c_0] w (Rt w Nil (fun _ : Unit => .bool r) (fun _ => [])) := by
  rw [laws_FnFramesBent] at H
  refine Calls.enter0 (N := 159) (us := [_]) Try.func7 rfl rfl rfl ?_
  refine HQ.rseq ?_
  refine HQ.pu Pu.assign ⟨rfl, trivial⟩ rfl rfl rfl ?_
  refine HQ.done ?_
  refine HQ.keep [(0, _), (2, _)] ⟨rfl, rfl, trivial⟩ ?_
  refine HQ.seq ?_
  refine HQ.rseq ?_
  refine HQ.pu Pu.move ⟨rfl, trivial⟩ rfl rfl rfl ?_
  obtain ⟨t1, h2, H⟩ := bnd H
  refine HQ.op [] [] (OT.call (us := [_]) (Pre := []) [.tmp 22] Try.call9 rfl rfl fun w F hs hF hp => laws_big_c h2) ⟨rfl, rfl, trivial⟩ trivial rfl rfl rfl rfl (fun _ => rfl) fun _ => ?_
  refine HQ.done ?_
  refine HQ.keep [(0, _), (2, _), (23, _)] ⟨rfl, rfl, rfl, trivial⟩ ?_
  rcases brk H with ⟨hc, H⟩ | ⟨hc, H⟩
  · refine HQ.condT rfl hc ?_
    clear hc
    refine HQ.rseq ?_
    refine HQ.pu Pu.assign ⟨rfl, trivial⟩ rfl rfl rfl ?_
    refine HQ.done ?_
    refine HQ.keep [(0, _), (2, _)] ⟨rfl, rfl, trivial⟩ ?_
    refine HQ.ret ?_
    refine HQ.thenR ?_
    obtain rfl := Option.some.inj H
    exact HQ.fin (vs := [_]) Try.results7 () ⟨rfl, trivial⟩ rfl [] trivial rfl
  · refine HQ.condF rfl hc ?_
    clear hc
    refine HQ.skipThen ?_
    refine HQ.rseq ?_
    refine HQ.pu Pu.move ⟨rfl, trivial⟩ rfl rfl rfl ?_
    obtain ⟨t3, h4, H⟩ := bnd H
    refine HQ.op [] [1] (OT.call (us := [_]) (Pre := []) [.tmp 25] Try.call59 rfl rfl fun w F hs hF hp => spec_DrawGetPut_c (hb_0.pass hp) h4) ⟨rfl, rfl, trivial⟩ trivial rfl rfl rfl rfl (fun _ => rfl) fun ⟨a5, c6⟩ => ?_
    refine HQ.pu Pu.move ⟨rfl, trivial⟩ rfl rfl rfl ?_
    refine HQ.pu (Pu.extract rfl) ⟨rfl, trivial⟩ rfl rfl rfl ?_
    refine HQ.pu (Pu.extract rfl) ⟨rfl, trivial⟩ rfl rfl rfl ?_
    refine HQ.pu Pu.assign ⟨rfl, trivial⟩ rfl rfl rfl ?_
    refine HQ.pu Pu.assign ⟨rfl, trivial⟩ rfl rfl rfl ?_
    refine HQ.done ?_
    refine HQ.keep [(0, _), (2, _), (3, _), (4, _)] ⟨rfl, rfl, rfl, rfl, trivial⟩ ?_
    refine HQ.rseq ?_
    refine HQ.pu Pu.move ⟨rfl, trivial⟩ rfl rfl rfl ?_
    refine HQ.pu Pu.move ⟨rfl, trivial⟩ rfl rfl rfl ?_
    obtain ⟨t7, h8, H⟩ := bnd H
    refine HQ.op [1] [2, 1] (OT.call (us := [_, _]) (Pre := [OwnS kU8 a5 c6 t3.2]) [.tmp 30, .tmp 31] Try.call28 rfl rfl fun w F hs hF hp => impl_GetPut_c (hs.lend hF 0 rfl) h8) ⟨rfl, rfl, rfl, trivial⟩ ⟨rfl, trivial⟩ rfl rfl rfl rfl (fun _ => rfl) fun ⟨a9, c10⟩ => ?_
    refine HQ.pu Pu.move ⟨rfl, trivial⟩ rfl rfl rfl ?_
    refine HQ.pu (Pu.extract rfl) ⟨rfl, trivial⟩ rfl rfl rfl ?_
    refine HQ.pu (Pu.extract rfl) ⟨rfl, trivial⟩ rfl rfl rfl ?_
    refine HQ.op [] [3] (OT.alloc zc49) trivial trivial rfl rfl rfl rfl (fun _ => rfl) fun b11 => ?_
    refine HQ.opN [3] [3] [] (OT.storeC (cs' := [.int .i64 t7.1.Page, .bool t7.1.N.Leaf, .slice a9 (List.length t7.1.N.L) c10]) sz49 rfl rfl rfl rfl rfl) ⟨rfl, rfl, trivial⟩ ⟨rfl, trivial⟩ rfl rfl rfl (fun _ => rfl) fun _ => ?_
    refine HQ.pu Pu.assign ⟨rfl, trivial⟩ rfl rfl rfl ?_
    refine HQ.done ?_
    refine HQ.keep [(0, _), (2, _), (3, _), (4, _), (5, _), (6, _)] ⟨rfl, rfl, rfl, rfl, rfl, rfl, trivial⟩ ?_
    refine HQ.rseq ?_
    refine HQ.pu Pu.move ⟨rfl, trivial⟩ rfl rfl rfl ?_
    refine HQ.pu Pu.move ⟨rfl, trivial⟩ rfl rfl rfl ?_
    obtain ⟨t12, h13, H⟩ := bnd H
    refine HQ.op [1] [4, 1] (OT.call (us := [_, _]) (Pre := [OwnS kU8 a5 c6 t3.2]) [.tmp 36, .tmp 37] Try.call60 rfl rfl fun w F hs hF hp => spec_GetPut_c (hs.lend hF 0 rfl) h13) ⟨rfl, rfl, rfl, trivial⟩ ⟨rfl, trivial⟩ rfl rfl rfl rfl (fun _ => rfl) fun ⟨a14, c15⟩ => ?_
    refine HQ.pu Pu.move ⟨rfl, trivial⟩ rfl rfl rfl ?_
    refine HQ.pu (Pu.extract rfl) ⟨rfl, trivial⟩ rfl rfl rfl ?_
    refine HQ.pu (Pu.extract rfl) ⟨rfl, trivial⟩ rfl rfl rfl ?_
    refine HQ.op [] [5] (OT.alloc zc49) trivial trivial rfl rfl rfl rfl (fun _ => rfl) fun b16 => ?_
    refine HQ.opN [5] [5] [] (OT.storeC (cs' := [.int .i64 t12.1.Page, .bool t12.1.N.Leaf, .slice a14 (List.length t12.1.N.L) c15]) sz49 rfl rfl rfl rfl rfl) ⟨rfl, rfl, trivial⟩ ⟨rfl, trivial⟩ rfl rfl rfl (fun _ => rfl) fun _ => ?_
    refine HQ.pu Pu.assign ⟨rfl, trivial⟩ rfl rfl rfl ?_
    refine HQ.done ?_
    refine HQ.keep [(0, _), (2, _), (4, _), (5, _), (6, _), (7, _), (8, _)] ⟨rfl, rfl, rfl, rfl, rfl, rfl, rfl, trivial⟩ ?_
    refine HQ.rseq ?_
    refine HQ.pu Pu.move ⟨rfl, trivial⟩ rfl rfl rfl ?_
    obtain ⟨t17, h18, H⟩ := bnd H
    refine HQ.op [] [6] (OT.call (us := [_]) (Pre := []) [.tmp 42] Try.call61 rfl rfl fun w F hs hF hp => spec_DrawGetEnd_c (hb_0.pass hp) h18) ⟨rfl, rfl, trivial⟩ trivial rfl rfl rfl rfl (fun _ => rfl) fun ⟨a19, c20⟩ => ?_
    refine HQ.pu Pu.move ⟨rfl, trivial⟩ rfl rfl rfl ?_
    refine HQ.pu (Pu.extract rfl) ⟨rfl, trivial⟩ rfl rfl rfl ?_
    refine HQ.pu (Pu.extract rfl) ⟨rfl, trivial⟩ rfl rfl rfl ?_
    refine HQ.pu Pu.assign ⟨rfl, trivial⟩ rfl rfl rfl ?_
    refine HQ.pu Pu.assign ⟨rfl, trivial⟩ rfl rfl rfl ?_
    refine HQ.done ?_
    refine HQ.keep [(0, _), (2, _), (4, _), (5, _), (6, _), (7, _), (8, _), (9, _), (10, _)] ⟨rfl, rfl, rfl, rfl, rfl, rfl, rfl, rfl, rfl, trivial⟩ ?_
    refine HQ.rseq ?_
    refine HQ.pu Pu.move ⟨rfl, trivial⟩ rfl rfl rfl ?_
    refine HQ.pu Pu.move ⟨rfl, trivial⟩ rfl rfl rfl ?_
    obtain ⟨t21, h22, H⟩ := bnd H
    refine HQ.op [6] [7, 6] (OT.call (us := [_, _]) (Pre := [OwnS kU8 a19 c20 t17.2]) [.tmp 47, .tmp 48] Try.call31 rfl rfl fun w F hs hF hp => impl_GetEnd_c (hs.lend hF 0 rfl) h22) ⟨rfl, rfl, rfl, trivial⟩ ⟨rfl, trivial⟩ rfl rfl rfl rfl (fun _ => rfl) fun ⟨a23, c24⟩ => ?_
    refine HQ.pu Pu.move ⟨rfl, trivial⟩ rfl rfl rfl ?_
    refine HQ.pu (Pu.extract rfl) ⟨rfl, trivial⟩ rfl rfl rfl ?_
    refine HQ.pu (Pu.extract rfl) ⟨rfl, trivial⟩ rfl rfl rfl ?_
    refine HQ.pu (Pu.extract rfl) ⟨rfl, trivial⟩ rfl rfl rfl ?_
    refine HQ.op [] [8] (OT.alloc zc57) trivial trivial rfl rfl rfl rfl (fun _ => rfl) fun b25 => ?_
    refine HQ.opN [8] [8] [] (OT.storeC (cs' := [.int .i64 t21.1.Seq, .int .i64 t21.1.Root, .int .i64 t21.1.Size, .slice a23 (List.length t21.1.Puts) c24]) sz57 rfl rfl rfl rfl rfl) ⟨rfl, rfl, trivial⟩ ⟨rfl, trivial⟩ rfl rfl rfl (fun _ => rfl) fun _ => ?_
    refine HQ.pu Pu.assign ⟨rfl, trivial⟩ rfl rfl rfl ?_
    refine HQ.pu Pu.assign ⟨rfl, trivial⟩ rfl rfl rfl ?_
    refine HQ.done ?_
    refine HQ.keep [(0, _), (2, _), (4, _), (5, _), (6, _), (7, _), (8, _), (9, _), (10, _), (11, _), (12, _), (13, _)] ⟨rfl, rfl, rfl, rfl, rfl, rfl, rfl, rfl, rfl, rfl, rfl, rfl, trivial⟩ ?_
    refine HQ.rseq ?_
    refine HQ.pu Pu.move ⟨rfl, trivial⟩ rfl rfl rfl ?_
    refine HQ.pu Pu.move ⟨rfl, trivial⟩ rfl rfl rfl ?_
    obtain ⟨t26, h27, H⟩ := bnd H
    refine HQ.op [6] [9, 6] (OT.call (us := [_, _]) (Pre := [OwnS kU8 a19 c20 t17.2]) [.tmp 54, .tmp 55] Try.call62 rfl rfl fun w F hs hF hp => spec_GetEnd_c (hs.lend hF 0 rfl) h27) ⟨rfl, rfl, rfl, trivial⟩ ⟨rfl, trivial⟩ rfl rfl rfl rfl (fun _ => rfl) fun ⟨a28, c29⟩ => ?_
    refine HQ.pu Pu.move ⟨rfl, trivial⟩ rfl rfl rfl ?_
    refine HQ.pu (Pu.extract rfl) ⟨rfl, trivial⟩ rfl rfl rfl ?_
    refine HQ.pu (Pu.extract rfl) ⟨rfl, trivial⟩ rfl rfl rfl ?_
    refine HQ.pu (Pu.extract rfl) ⟨rfl, trivial⟩ rfl rfl rfl ?_
    refine HQ.op [] [10] (OT.alloc zc57) trivial trivial rfl rfl rfl rfl (fun _ => rfl) fun b30 => ?_
    refine HQ.opN [10] [10] [] (OT.storeC (cs' := [.int .i64 t26.1.Seq, .int .i64 t26.1.Root, .int .i64 t26.1.Size, .slice a28 (List.length t26.1.Puts) c29]) sz57 rfl rfl rfl rfl rfl) ⟨rfl, rfl, trivial⟩ ⟨rfl, trivial⟩ rfl rfl rfl (fun _ => rfl) fun _ => ?_
    refine HQ.pu Pu.assign ⟨rfl, trivial⟩ rfl rfl rfl ?_
    refine HQ.pu Pu.assign ⟨rfl, trivial⟩ rfl rfl rfl ?_
    refine HQ.done ?_
    refine HQ.keep [(0, _), (2, _), (4, _), (5, _), (6, _), (7, _), (8, _), (10, _), (11, _), (12, _), (13, _), (14, _), (15, _), (16, _)] ⟨rfl, rfl, rfl, rfl, rfl, rfl, rfl, rfl, rfl, rfl, rfl, rfl, rfl, rfl, trivial⟩ ?_
    refine HQ.rseq ?_
    refine HQ.pu Pu.move ⟨rfl, trivial⟩ rfl rfl rfl ?_
    obtain ⟨t31, h32, H⟩ := bnd H
    refine HQ.op [] [11] (OT.call (us := [_]) (Pre := []) [.tmp 61] Try.call63 rfl rfl fun w F hs hF hp => spec_DrawTxCells_c (hb_0.pass hp) h32) ⟨rfl, rfl, trivial⟩ trivial rfl rfl rfl rfl (fun _ => rfl) fun ⟨a33, c34⟩ => ?_
    refine HQ.pu Pu.move ⟨rfl, trivial⟩ rfl rfl rfl ?_
    refine HQ.pu (Pu.extract rfl) ⟨rfl, trivial⟩ rfl rfl rfl ?_
    refine HQ.pu (Pu.extract rfl) ⟨rfl, trivial⟩ rfl rfl rfl ?_
    refine HQ.op [] [12] (OT.alloc zc57) trivial trivial rfl rfl rfl rfl (fun _ => rfl) fun b35 => ?_
    refine HQ.pu Pu.assign ⟨rfl, trivial⟩ rfl rfl rfl ?_
    refine HQ.opN [12] [12] [] (OT.storeC (cs' := [.int .i64 t31.2.Seq, .int .i64 t31.2.Root, .int .i64 t31.2.Size, .slice a33 (List.length t31.2.Puts) c34]) sz57 rfl rfl rfl rfl rfl) ⟨rfl, rfl, trivial⟩ ⟨rfl, trivial⟩ rfl rfl rfl (fun _ => rfl) fun _ => ?_
    refine HQ.done ?_
    refine HQ.keep [(2, _), (4, _), (5, _), (6, _), (7, _), (8, _), (10, _), (11, _), (12, _), (13, _), (14, _), (15, _), (16, _), (18, _), (17, _)] ⟨rfl, rfl, rfl, rfl, rfl, rfl, rfl, rfl, rfl, rfl, rfl, rfl, rfl, rfl, rfl, trivial⟩ ?_
    refine HQ.rseq ?_
    refine HQ.pu Pu.move ⟨rfl, trivial⟩ rfl rfl rfl ?_
    refine HQ.op [12] [12] (OT.loadBA (vs := [.int .i64 t31.2.Seq, .int .i64 t31.2.Root, .int .i64 t31.2.Size, .slice a33 (List.length t31.2.Puts) c34]) ag57 sz57 rfl rfl) ⟨rfl, trivial⟩ ⟨rfl, trivial⟩ rfl rfl rfl rfl (fun _ => rfl) fun _ => ?_
    obtain ⟨t36, h37, H⟩ := bnd H
    refine HQ.op [11] [13, 11] (OT.call (us := [_, _]) (Pre := [OwnS kTChange a33 c34 t31.2.Puts]) [.tmp 65, .tmp 66] Try.call64 rfl rfl fun w F hs hF hp => impl_TxCells_c (hs.lend hF 0 rfl) h37) ⟨rfl, rfl, rfl, trivial⟩ ⟨rfl, trivial⟩ rfl rfl rfl rfl (fun _ => rfl) fun ⟨a38, c39⟩ => ?_
    refine HQ.pu Pu.assign ⟨rfl, trivial⟩ rfl rfl rfl ?_
    refine HQ.done ?_
    refine HQ.keep [(2, _), (4, _), (5, _), (6, _), (7, _), (8, _), (10, _), (11, _), (12, _), (13, _), (14, _), (15, _), (16, _), (18, _), (17, _), (19, _)] ⟨rfl, rfl, rfl, rfl, rfl, rfl, rfl, rfl, rfl, rfl, rfl, rfl, rfl, rfl, rfl, rfl, trivial⟩ ?_
    refine HQ.rseq ?_
    refine HQ.pu Pu.move ⟨rfl, trivial⟩ rfl rfl rfl ?_
    refine HQ.op [12] [12] (OT.loadBA (vs := [.int .i64 t31.2.Seq, .int .i64 t31.2.Root, .int .i64 t31.2.Size, .slice a33 (List.length t31.2.Puts) c34]) ag57 sz57 rfl rfl) ⟨rfl, trivial⟩ ⟨rfl, trivial⟩ rfl rfl rfl rfl (fun _ => rfl) fun _ => ?_
    obtain ⟨t40, h41, H⟩ := bnd H
    refine HQ.op [11] [14, 11] (OT.call (us := [_, _]) (Pre := [OwnS kTChange a33 c34 t31.2.Puts]) [.tmp 68, .tmp 69] Try.call65 rfl rfl fun w F hs hF hp => spec_TxCells_c (hs.lend hF 0 rfl) h41) ⟨rfl, rfl, rfl, trivial⟩ ⟨rfl, trivial⟩ rfl rfl rfl rfl (fun _ => rfl) fun ⟨a42, c43⟩ => ?_
    refine HQ.pu Pu.assign ⟨rfl, trivial⟩ rfl rfl rfl ?_
    refine HQ.done ?_
    refine HQ.keep [(2, _), (4, _), (5, _), (6, _), (7, _), (8, _), (10, _), (11, _), (12, _), (13, _), (14, _), (15, _), (16, _), (18, _), (19, _), (20, _)] ⟨rfl, rfl, rfl, rfl, rfl, rfl, rfl, rfl, rfl, rfl, rfl, rfl, rfl, rfl, rfl, rfl, trivial⟩ ?_
    refine HQ.seq ?_
    refine HQ.rseq ?_
    refine HQ.pu Pu.move ⟨rfl, trivial⟩ rfl rfl rfl ?_
    refine HQ.pu Pu.move ⟨rfl, trivial⟩ rfl rfl rfl ?_
    refine HQ.pu (Pu.neqB ul4) ⟨rfl, rfl, trivial⟩ rfl rfl rfl ?_
    refine HQ.pu Pu.move ⟨rfl, trivial⟩ rfl rfl rfl ?_
    refine HQ.cutAt 6 [(80, .bool ((!(t7.2 == t12.2)) || (!decide (t7.1.Page = t12.1.Page)))), (2, .bool false), (4, .slice a5 (List.length t3.2) c6), (5, BP b11 0), (6, .bool t7.2), (7, BP b16 0), (10, .slice a19 (List.length t17.2) c20), (11, BP b25 0), (12, .int .i64 t21.2.1), (13, .bool t21.2.2), (14, BP b30 0), (15, .int .i64 t26.2.1), (16, .bool t26.2.2), (18, BP b35 0), (19, .slice a38 (List.length t36) c39), (20, .slice a42 (List.length t40) c43)] [(1, OwnS kU8 a5 c6 t3.2), (2, OwnS kTEntry a9 c10 t7.1.N.L), (3, Box b11 [.int .i64 t7.1.Page, .bool t7.1.N.Leaf, .slice a9 (List.length t7.1.N.L) c10]), (4, OwnS kTEntry a14 c15 t12.1.N.L), (5, Box b16 [.int .i64 t12.1.Page, .bool t12.1.N.Leaf, .slice a14 (List.length t12.1.N.L) c15]), (6, OwnS kU8 a19 c20 t17.2), (7, OwnS kTChange a23 c24 t21.1.Puts), (8, Box b25 [.int .i64 t21.1.Seq, .int .i64 t21.1.Root, .int .i64 t21.1.Size, .slice a23 (List.length t21.1.Puts) c24]), (9, OwnS kTChange a28 c29 t26.1.Puts), (10, Box b30 [.int .i64 t26.1.Seq, .int .i64 t26.1.Root, .int .i64 t26.1.Size, .slice a28 (List.length t26.1.Puts) c29]), (11, OwnS kTChange a33 c34 t31.2.Puts), (12, Box b35 [.int .i64 t31.2.Seq, .int .i64 t31.2.Root, .int .i64 t31.2.Size, .slice a33 (List.length t31.2.Puts) c34]), (13, OwnS (kS kU8) a38 c39 t36), (14, OwnS (kS kU8) a42 c43 t40)] ?_ ?_
    · rcases Bool.eq_false_or_eq_true (!(t7.2 == t12.2)) with hg44 | hg44
      · refine HQ.off rfl rfl hg44 rfl ?_
        refine HQ.off rfl rfl hg44 rfl ?_
        refine HQ.off rfl rfl hg44 rfl ?_
        refine HQ.off rfl rfl hg44 rfl ?_
        refine HQ.off rfl rfl hg44 rfl ?_
        refine HQ.pu (Pu.pickOT (u := (!decide (t7.1.Page = t12.1.Page))) hg44) ⟨rfl, rfl, trivial⟩ rfl rfl rfl ?_
        exact HQ.mid ⟨rfl, rfl, rfl, rfl, rfl, rfl, rfl, rfl, rfl, rfl, rfl, rfl, rfl, rfl, rfl, rfl, trivial⟩ ⟨rfl, rfl, rfl, rfl, rfl, rfl, rfl, rfl, rfl, rfl, rfl, rfl, rfl, rfl, trivial⟩ rfl
      · refine HQ.on rfl rfl hg44 ?_
        refine HQ.pu (Pu.fieldB fo49_0 rfl) ⟨rfl, trivial⟩ rfl rfl rfl ?_
        refine HQ.on rfl rfl hg44 ?_
        refine HQ.op [3] [3] (OT.loadB sc3 rfl) ⟨rfl, trivial⟩ ⟨rfl, trivial⟩ rfl rfl rfl rfl (fun _ => rfl) fun _ => ?_
        refine HQ.on rfl rfl hg44 ?_
        refine HQ.pu (Pu.fieldB fo49_0 rfl) ⟨rfl, trivial⟩ rfl rfl rfl ?_
        refine HQ.on rfl rfl hg44 ?_
        refine HQ.op [5] [5] (OT.loadB sc3 rfl) ⟨rfl, trivial⟩ ⟨rfl, trivial⟩ rfl rfl rfl rfl (fun _ => rfl) fun _ => ?_
        refine HQ.on rfl rfl hg44 ?_
        refine HQ.pu Pu.neq ⟨rfl, rfl, trivial⟩ rfl rfl rfl ?_
        refine HQ.pu (Pu.pickOF hg44) ⟨rfl, rfl, trivial⟩ rfl rfl rfl ?_
        exact HQ.mid ⟨rfl, rfl, rfl, rfl, rfl, rfl, rfl, rfl, rfl, rfl, rfl, rfl, rfl, rfl, rfl, rfl, trivial⟩ ⟨rfl, rfl, rfl, rfl, rfl, rfl, rfl, rfl, rfl, rfl, rfl, rfl, rfl, rfl, trivial⟩ rfl
    refine HQ.pu Pu.move ⟨rfl, trivial⟩ rfl rfl rfl ?_
    obtain ⟨c48, h49, H⟩ := bnd H
    refine HQ.cutAt 7 [(88, .bool c48), (2, .bool false), (4, .slice a5 (List.length t3.2) c6), (6, .bool t7.2), (7, BP b16 0), (10, .slice a19 (List.length t17.2) c20), (11, BP b25 0), (12, .int .i64 t21.2.1), (13, .bool t21.2.2), (14, BP b30 0), (15, .int .i64 t26.2.1), (16, .bool t26.2.2), (18, BP b35 0), (19, .slice a38 (List.length t36) c39), (20, .slice a42 (List.length t40) c43)] [(1, OwnS kU8 a5 c6 t3.2), (2, OwnS kTEntry a9 c10 t7.1.N.L), (3, Box b11 [.int .i64 t7.1.Page, .bool t7.1.N.Leaf, .slice a9 (List.length t7.1.N.L) c10]), (4, OwnS kTEntry a14 c15 t12.1.N.L), (5, Box b16 [.int .i64 t12.1.Page, .bool t12.1.N.Leaf, .slice a14 (List.length t12.1.N.L) c15]), (6, OwnS kU8 a19 c20 t17.2), (7, OwnS kTChange a23 c24 t21.1.Puts), (8, Box b25 [.int .i64 t21.1.Seq, .int .i64 t21.1.Root, .int .i64 t21.1.Size, .slice a23 (List.length t21.1.Puts) c24]), (9, OwnS kTChange a28 c29 t26.1.Puts), (10, Box b30 [.int .i64 t26.1.Seq, .int .i64 t26.1.Root, .int .i64 t26.1.Size, .slice a28 (List.length t26.1.Puts) c29]), (11, OwnS kTChange a33 c34 t31.2.Puts), (12, Box b35 [.int .i64 t31.2.Seq, .int .i64 t31.2.Root, .int .i64 t31.2.Size, .slice a33 (List.length t31.2.Puts) c34]), (13, OwnS (kS kU8) a38 c39 t36), (14, OwnS (kS kU8) a42 c43 t40)] ?_ ?_
    · clear H
      have H := h49
      rcases brk H with ⟨hg45, H⟩ | ⟨hg45, H⟩
      · obtain rfl := Option.some.inj H
        refine HQ.off rfl rfl hg45 rfl ?_
        refine HQ.off rfl rfl hg45 rfl ?_
        refine HQ.off rfl rfl hg45 rfl ?_
        refine HQ.off rfl rfl hg45 rfl ?_
        refine HQ.off rfl rfl hg45 rfl ?_
        refine HQ.off rfl rfl hg45 rfl ?_
        refine HQ.pu (Pu.pickC1 hg45) ⟨rfl, rfl, trivial⟩ rfl rfl rfl ?_
        exact HQ.mid ⟨rfl, rfl, rfl, rfl, rfl, rfl, rfl, rfl, rfl, rfl, rfl, rfl, rfl, rfl, rfl, trivial⟩ ⟨rfl, rfl, rfl, rfl, rfl, rfl, rfl, rfl, rfl, rfl, rfl, rfl, rfl, rfl, trivial⟩ rfl
      · refine HQ.on rfl rfl hg45 ?_
        refine HQ.pu (Pu.fieldB fo49_1 rfl) ⟨rfl, trivial⟩ rfl rfl rfl ?_
        refine HQ.on rfl rfl hg45 ?_
        refine HQ.op [3] [3] (OT.loadBA (vs := [.bool t7.1.N.Leaf, .slice a9 (List.length t7.1.N.L) c10]) ag47 sz47 rfl rfl) ⟨rfl, trivial⟩ ⟨rfl, trivial⟩ rfl rfl rfl rfl (fun _ => rfl) fun _ => ?_
        refine HQ.on rfl rfl hg45 ?_
        refine HQ.pu (Pu.fieldB fo49_1 rfl) ⟨rfl, trivial⟩ rfl rfl rfl ?_
        refine HQ.on rfl rfl hg45 ?_
        refine HQ.op [5] [5] (OT.loadBA (vs := [.bool t12.1.N.Leaf, .slice a14 (List.length t12.1.N.L) c15]) ag47 sz47 rfl rfl) ⟨rfl, trivial⟩ ⟨rfl, trivial⟩ rfl rfl rfl rfl (fun _ => rfl) fun _ => ?_
        refine HQ.on rfl rfl hg45 ?_
        obtain ⟨t46, h47, H⟩ := bnd H
        refine HQ.op [2, 4] [2, 4] (OT.call (us := [_, _]) (Pre := [OwnS kTEntry a9 c10 t7.1.N.L, OwnS kTEntry a14 c15 t12.1.N.L]) [.tmp 83, .tmp 85] Try.call37 rfl rfl fun w F hs hF hp => impl_SameNode_c (p0 := t7.1.N) (p1 := t12.1.N) (hs.lend hF 0 rfl) (hs.lend hF 1 rfl) h47) ⟨rfl, rfl, rfl, trivial⟩ ⟨rfl, rfl, trivial⟩ rfl rfl rfl rfl (fun _ => rfl) fun _ => ?_
        refine HQ.on rfl rfl hg45 ?_
        refine HQ.pu Pu.not ⟨rfl, trivial⟩ rfl rfl rfl ?_
        obtain rfl := Option.some.inj H
        refine HQ.pu (Pu.pickC0 hg45) ⟨rfl, rfl, trivial⟩ rfl rfl rfl ?_
        exact HQ.mid ⟨rfl, rfl, rfl, rfl, rfl, rfl, rfl, rfl, rfl, rfl, rfl, rfl, rfl, rfl, rfl, trivial⟩ ⟨rfl, rfl, rfl, rfl, rfl, rfl, rfl, rfl, rfl, rfl, rfl, rfl, rfl, rfl, trivial⟩ rfl
    refine HQ.pu Pu.move ⟨rfl, trivial⟩ rfl rfl rfl ?_
    refine HQ.cutAt 4 [(93, .bool (c48 || (!(t21.2.2 == t26.2.2)))), (2, .bool false), (4, .slice a5 (List.length t3.2) c6), (6, .bool t7.2), (7, BP b16 0), (10, .slice a19 (List.length t17.2) c20), (11, BP b25 0), (12, .int .i64 t21.2.1), (13, .bool t21.2.2), (14, BP b30 0), (15, .int .i64 t26.2.1), (18, BP b35 0), (19, .slice a38 (List.length t36) c39), (20, .slice a42 (List.length t40) c43)] [(1, OwnS kU8 a5 c6 t3.2), (2, OwnS kTEntry a9 c10 t7.1.N.L), (3, Box b11 [.int .i64 t7.1.Page, .bool t7.1.N.Leaf, .slice a9 (List.length t7.1.N.L) c10]), (4, OwnS kTEntry a14 c15 t12.1.N.L), (5, Box b16 [.int .i64 t12.1.Page, .bool t12.1.N.Leaf, .slice a14 (List.length t12.1.N.L) c15]), (6, OwnS kU8 a19 c20 t17.2), (7, OwnS kTChange a23 c24 t21.1.Puts), (8, Box b25 [.int .i64 t21.1.Seq, .int .i64 t21.1.Root, .int .i64 t21.1.Size, .slice a23 (List.length t21.1.Puts) c24]), (9, OwnS kTChange a28 c29 t26.1.Puts), (10, Box b30 [.int .i64 t26.1.Seq, .int .i64 t26.1.Root, .int .i64 t26.1.Size, .slice a28 (List.length t26.1.Puts) c29]), (11, OwnS kTChange a33 c34 t31.2.Puts), (12, Box b35 [.int .i64 t31.2.Seq, .int .i64 t31.2.Root, .int .i64 t31.2.Size, .slice a33 (List.length t31.2.Puts) c34]), (13, OwnS (kS kU8) a38 c39 t36), (14, OwnS (kS kU8) a42 c43 t40)] ?_ ?_
    · rcases Bool.eq_false_or_eq_true c48 with hg50 | hg50
      · refine HQ.off rfl rfl hg50 rfl ?_
        refine HQ.off rfl rfl hg50 rfl ?_
        refine HQ.off rfl rfl hg50 rfl ?_
        refine HQ.pu (Pu.pickOT (u := (!(t21.2.2 == t26.2.2))) hg50) ⟨rfl, rfl, trivial⟩ rfl rfl rfl ?_
        exact HQ.mid ⟨rfl, rfl, rfl, rfl, rfl, rfl, rfl, rfl, rfl, rfl, rfl, rfl, rfl, rfl, trivial⟩ ⟨rfl, rfl, rfl, rfl, rfl, rfl, rfl, rfl, rfl, rfl, rfl, rfl, rfl, rfl, trivial⟩ rfl
      · refine HQ.on rfl rfl hg50 ?_
        refine HQ.pu Pu.move ⟨rfl, trivial⟩ rfl rfl rfl ?_
        refine HQ.on rfl rfl hg50 ?_
        refine HQ.pu Pu.move ⟨rfl, trivial⟩ rfl rfl rfl ?_
        refine HQ.on rfl rfl hg50 ?_
        refine HQ.pu (Pu.neqB ul4) ⟨rfl, rfl, trivial⟩ rfl rfl rfl ?_
        refine HQ.pu (Pu.pickOF hg50) ⟨rfl, rfl, trivial⟩ rfl rfl rfl ?_
        exact HQ.mid ⟨rfl, rfl, rfl, rfl, rfl, rfl, rfl, rfl, rfl, rfl, rfl, rfl, rfl, rfl, trivial⟩ ⟨rfl, rfl, rfl, rfl, rfl, rfl, rfl, rfl, rfl, rfl, rfl, rfl, rfl, rfl, trivial⟩ rfl
    refine HQ.pu Pu.move ⟨rfl, trivial⟩ rfl rfl rfl ?_
    refine HQ.cutAt 4 [(98, .bool ((c48 || (!(t21.2.2 == t26.2.2))) || (!decide (t21.2.1 = t26.2.1)))), (2, .bool false), (4, .slice a5 (List.length t3.2) c6), (6, .bool t7.2), (7, BP b16 0), (10, .slice a19 (List.length t17.2) c20), (11, BP b25 0), (13, .bool t21.2.2), (14, BP b30 0), (18, BP b35 0), (19, .slice a38 (List.length t36) c39), (20, .slice a42 (List.length t40) c43)] [(1, OwnS kU8 a5 c6 t3.2), (2, OwnS kTEntry a9 c10 t7.1.N.L), (3, Box b11 [.int .i64 t7.1.Page, .bool t7.1.N.Leaf, .slice a9 (List.length t7.1.N.L) c10]), (4, OwnS kTEntry a14 c15 t12.1.N.L), (5, Box b16 [.int .i64 t12.1.Page, .bool t12.1.N.Leaf, .slice a14 (List.length t12.1.N.L) c15]), (6, OwnS kU8 a19 c20 t17.2), (7, OwnS kTChange a23 c24 t21.1.Puts), (8, Box b25 [.int .i64 t21.1.Seq, .int .i64 t21.1.Root, .int .i64 t21.1.Size, .slice a23 (List.length t21.1.Puts) c24]), (9, OwnS kTChange a28 c29 t26.1.Puts), (10, Box b30 [.int .i64 t26.1.Seq, .int .i64 t26.1.Root, .int .i64 t26.1.Size, .slice a28 (List.length t26.1.Puts) c29]), (11, OwnS kTChange a33 c34 t31.2.Puts), (12, Box b35 [.int .i64 t31.2.Seq, .int .i64 t31.2.Root, .int .i64 t31.2.Size, .slice a33 (List.length t31.2.Puts) c34]), (13, OwnS (kS kU8) a38 c39 t36), (14, OwnS (kS kU8) a42 c43 t40)] ?_ ?_
    · rcases Bool.eq_false_or_eq_true (c48 || (!(t21.2.2 == t26.2.2))) with hg51 | hg51
      · refine HQ.off rfl rfl hg51 rfl ?_
        refine HQ.off rfl rfl hg51 rfl ?_
        refine HQ.off rfl rfl hg51 rfl ?_
        refine HQ.pu (Pu.pickOT (u := (!decide (t21.2.1 = t26.2.1))) hg51) ⟨rfl, rfl, trivial⟩ rfl rfl rfl ?_
        exact HQ.mid ⟨rfl, rfl, rfl, rfl, rfl, rfl, rfl, rfl, rfl, rfl, rfl, rfl, trivial⟩ ⟨rfl, rfl, rfl, rfl, rfl, rfl, rfl, rfl, rfl, rfl, rfl, rfl, rfl, rfl, trivial⟩ rfl
      · refine HQ.on rfl rfl hg51 ?_
        refine HQ.pu Pu.move ⟨rfl, trivial⟩ rfl rfl rfl ?_
        refine HQ.on rfl rfl hg51 ?_
        refine HQ.pu Pu.move ⟨rfl, trivial⟩ rfl rfl rfl ?_
        refine HQ.on rfl rfl hg51 ?_
        refine HQ.pu Pu.neq ⟨rfl, rfl, trivial⟩ rfl rfl rfl ?_
        refine HQ.pu (Pu.pickOF hg51) ⟨rfl, rfl, trivial⟩ rfl rfl rfl ?_
        exact HQ.mid ⟨rfl, rfl, rfl, rfl, rfl, rfl, rfl, rfl, rfl, rfl, rfl, rfl, trivial⟩ ⟨rfl, rfl, rfl, rfl, rfl, rfl, rfl, rfl, rfl, rfl, rfl, rfl, rfl, rfl, trivial⟩ rfl
    refine HQ.pu Pu.move ⟨rfl, trivial⟩ rfl rfl rfl ?_
    obtain ⟨c55, h56, H⟩ := bnd H
    refine HQ.cutAt 5 [(104, .bool c55), (2, .bool false), (4, .slice a5 (List.length t3.2) c6), (6, .bool t7.2), (7, BP b16 0), (10, .slice a19 (List.length t17.2) c20), (13, .bool t21.2.2), (18, BP b35 0), (19, .slice a38 (List.length t36) c39), (20, .slice a42 (List.length t40) c43)] [(1, OwnS kU8 a5 c6 t3.2), (2, OwnS kTEntry a9 c10 t7.1.N.L), (3, Box b11 [.int .i64 t7.1.Page, .bool t7.1.N.Leaf, .slice a9 (List.length t7.1.N.L) c10]), (4, OwnS kTEntry a14 c15 t12.1.N.L), (5, Box b16 [.int .i64 t12.1.Page, .bool t12.1.N.Leaf, .slice a14 (List.length t12.1.N.L) c15]), (6, OwnS kU8 a19 c20 t17.2), (7, OwnS kTChange a23 c24 t21.1.Puts), (8, Box b25 [.int .i64 t21.1.Seq, .int .i64 t21.1.Root, .int .i64 t21.1.Size, .slice a23 (List.length t21.1.Puts) c24]), (9, OwnS kTChange a28 c29 t26.1.Puts), (10, Box b30 [.int .i64 t26.1.Seq, .int .i64 t26.1.Root, .int .i64 t26.1.Size, .slice a28 (List.length t26.1.Puts) c29]), (11, OwnS kTChange a33 c34 t31.2.Puts), (12, Box b35 [.int .i64 t31.2.Seq, .int .i64 t31.2.Root, .int .i64 t31.2.Size, .slice a33 (List.length t31.2.Puts) c34]), (13, OwnS (kS kU8) a38 c39 t36), (14, OwnS (kS kU8) a42 c43 t40)] ?_ ?_
    · clear H
      have H := h56
      rcases brk H with ⟨hg52, H⟩ | ⟨hg52, H⟩
      · obtain rfl := Option.some.inj H
        refine HQ.off rfl rfl hg52 rfl ?_
        refine HQ.off rfl rfl hg52 rfl ?_
        refine HQ.off rfl rfl hg52 rfl ?_
        refine HQ.off rfl rfl hg52 rfl ?_
        refine HQ.pu (Pu.pickC1 hg52) ⟨rfl, rfl, trivial⟩ rfl rfl rfl ?_
        exact HQ.mid ⟨rfl, rfl, rfl, rfl, rfl, rfl, rfl, rfl, rfl, rfl, trivial⟩ ⟨rfl, rfl, rfl, rfl, rfl, rfl, rfl, rfl, rfl, rfl, rfl, rfl, rfl, rfl, trivial⟩ rfl
      · refine HQ.on rfl rfl hg52 ?_
        refine HQ.op [8] [8] (OT.loadBA (vs := [.int .i64 t21.1.Seq, .int .i64 t21.1.Root, .int .i64 t21.1.Size, .slice a23 (List.length t21.1.Puts) c24]) ag57 sz57 rfl rfl) ⟨rfl, trivial⟩ ⟨rfl, trivial⟩ rfl rfl rfl rfl (fun _ => rfl) fun _ => ?_
        refine HQ.on rfl rfl hg52 ?_
        refine HQ.op [10] [10] (OT.loadBA (vs := [.int .i64 t26.1.Seq, .int .i64 t26.1.Root, .int .i64 t26.1.Size, .slice a28 (List.length t26.1.Puts) c29]) ag57 sz57 rfl rfl) ⟨rfl, trivial⟩ ⟨rfl, trivial⟩ rfl rfl rfl rfl (fun _ => rfl) fun _ => ?_
        refine HQ.on rfl rfl hg52 ?_
        obtain ⟨t53, h54, H⟩ := bnd H
        refine HQ.op [7, 9] [7, 9] (OT.call (us := [_, _]) (Pre := [OwnS kTChange a23 c24 t21.1.Puts, OwnS kTChange a28 c29 t26.1.Puts]) [.tmp 100, .tmp 101] Try.call66 rfl rfl fun w F hs hF hp => laws_sameTx_c (p0 := t21.1) (p1 := t26.1) (hs.lend hF 0 rfl) (hs.lend hF 1 rfl) h54) ⟨rfl, rfl, rfl, trivial⟩ ⟨rfl, rfl, trivial⟩ rfl rfl rfl rfl (fun _ => rfl) fun _ => ?_
        refine HQ.on rfl rfl hg52 ?_
        refine HQ.pu Pu.not ⟨rfl, trivial⟩ rfl rfl rfl ?_
        obtain rfl := Option.some.inj H
        refine HQ.pu (Pu.pickC0 hg52) ⟨rfl, rfl, trivial⟩ rfl rfl rfl ?_
        exact HQ.mid ⟨rfl, rfl, rfl, rfl, rfl, rfl, rfl, rfl, rfl, rfl, trivial⟩ ⟨rfl, rfl, rfl, rfl, rfl, rfl, rfl, rfl, rfl, rfl, rfl, rfl, rfl, rfl, trivial⟩ rfl
    refine HQ.pu Pu.move ⟨rfl, trivial⟩ rfl rfl rfl ?_
    refine HQ.cutAt 6 [(111, .bool (c55 || (!decide (((List.length t36 : Nat) : Int) = ((List.length t40 : Nat) : Int))))), (2, .bool false), (4, .slice a5 (List.length t3.2) c6), (6, .bool t7.2), (7, BP b16 0), (10, .slice a19 (List.length t17.2) c20), (13, .bool t21.2.2), (18, BP b35 0), (19, .slice a38 (List.length t36) c39), (20, .slice a42 (List.length t40) c43)] [(1, OwnS kU8 a5 c6 t3.2), (2, OwnS kTEntry a9 c10 t7.1.N.L), (3, Box b11 [.int .i64 t7.1.Page, .bool t7.1.N.Leaf, .slice a9 (List.length t7.1.N.L) c10]), (4, OwnS kTEntry a14 c15 t12.1.N.L), (5, Box b16 [.int .i64 t12.1.Page, .bool t12.1.N.Leaf, .slice a14 (List.length t12.1.N.L) c15]), (6, OwnS kU8 a19 c20 t17.2), (7, OwnS kTChange a23 c24 t21.1.Puts), (8, Box b25 [.int .i64 t21.1.Seq, .int .i64 t21.1.Root, .int .i64 t21.1.Size, .slice a23 (List.length t21.1.Puts) c24]), (9, OwnS kTChange a28 c29 t26.1.Puts), (10, Box b30 [.int .i64 t26.1.Seq, .int .i64 t26.1.Root, .int .i64 t26.1.Size, .slice a28 (List.length t26.1.Puts) c29]), (11, OwnS kTChange a33 c34 t31.2.Puts), (12, Box b35 [.int .i64 t31.2.Seq, .int .i64 t31.2.Root, .int .i64 t31.2.Size, .slice a33 (List.length t31.2.Puts) c34]), (13, OwnS (kS kU8) a38 c39 t36), (14, OwnS (kS kU8) a42 c43 t40)] ?_ ?_
    · rcases Bool.eq_false_or_eq_true c55 with hg57 | hg57
      · refine HQ.off rfl rfl hg57 rfl ?_
        refine HQ.off rfl rfl hg57 rfl ?_
        refine HQ.off rfl rfl hg57 rfl ?_
        refine HQ.off rfl rfl hg57 rfl ?_
        refine HQ.off rfl rfl hg57 rfl ?_
        refine HQ.pu (Pu.pickOT (u := (!decide (((List.length t36 : Nat) : Int) = ((List.length t40 : Nat) : Int)))) hg57) ⟨rfl, rfl, trivial⟩ rfl rfl rfl ?_
        exact HQ.mid ⟨rfl, rfl, rfl, rfl, rfl, rfl, rfl, rfl, rfl, rfl, trivial⟩ ⟨rfl, rfl, rfl, rfl, rfl, rfl, rfl, rfl, rfl, rfl, rfl, rfl, rfl, rfl, trivial⟩ rfl
      · refine HQ.on rfl rfl hg57 ?_
        refine HQ.pu Pu.move ⟨rfl, trivial⟩ rfl rfl rfl ?_
        refine HQ.on rfl rfl hg57 ?_
        refine HQ.pu (Pu.len ul91) ⟨rfl, trivial⟩ rfl rfl rfl ?_
        refine HQ.on rfl rfl hg57 ?_
        refine HQ.pu Pu.move ⟨rfl, trivial⟩ rfl rfl rfl ?_
        refine HQ.on rfl rfl hg57 ?_
        refine HQ.pu (Pu.len ul91) ⟨rfl, trivial⟩ rfl rfl rfl ?_
        refine HQ.on rfl rfl hg57 ?_
        refine HQ.pu Pu.neq ⟨rfl, rfl, trivial⟩ rfl rfl rfl ?_
        refine HQ.pu (Pu.pickOF hg57) ⟨rfl, rfl, trivial⟩ rfl rfl rfl ?_
        exact HQ.mid ⟨rfl, rfl, rfl, rfl, rfl, rfl, rfl, rfl, rfl, rfl, trivial⟩ ⟨rfl, rfl, rfl, rfl, rfl, rfl, rfl, rfl, rfl, rfl, rfl, rfl, rfl, rfl, trivial⟩ rfl
    refine HQ.done ?_
    refine HQ.keep [(111, _), (2, _), (4, _), (6, _), (7, _), (10, _), (13, _), (18, _), (19, _), (20, _)] ⟨rfl, rfl, rfl, rfl, rfl, rfl, rfl, rfl, rfl, rfl, trivial⟩ ?_
    rcases brk H with ⟨hc, H⟩ | ⟨hc, H⟩
    · refine HQ.condT rfl hc ?_
      clear hc
      refine HQ.rseq ?_
      refine HQ.pu Pu.assign ⟨rfl, trivial⟩ rfl rfl rfl ?_
      refine HQ.done ?_
      refine HQ.keep [(2, _), (4, _), (6, _), (7, _), (10, _), (13, _), (18, _), (19, _), (20, _)] ⟨rfl, rfl, rfl, rfl, rfl, rfl, rfl, rfl, rfl, trivial⟩ ?_
      refine HQ.ret ?_
      refine HQ.thenR ?_
      obtain rfl := Option.some.inj H
      exact HQ.fin (vs := [_]) Try.results7 () ⟨rfl, trivial⟩ rfl [] trivial rfl
    · refine HQ.condF rfl hc ?_
      clear hc
      refine HQ.skipThen ?_
      refine HQ.seq ?_
      refine HQ.rseq ?_
      refine HQ.pu Pu.assign ⟨rfl, trivial⟩ rfl rfl rfl ?_
      refine HQ.done ?_
      refine HQ.keep [(2, _), (4, _), (6, _), (7, _), (10, _), (13, _), (18, _), (19, _), (20, _), (21, _)] ⟨rfl, rfl, rfl, rfl, rfl, rfl, rfl, rfl, rfl, rfl, trivial⟩ ?_
      refine HQ.block ?_
      obtain ⟨o116, h131, H⟩ := bnd H
      refine HQ.loop h131 0 (fun (s : Int) (g : Unit) => match s, g with | i77, () => [(2, .bool false), (4, .slice a5 (List.length t3.2) c6), (6, .bool t7.2), (7, BP b16 0), (10, .slice a19 (List.length t17.2) c20), (13, .bool t21.2.2), (18, BP b35 0), (19, .slice a38 (List.length t36) c39), (20, .slice a42 (List.length t40) c43), (21, .int .i64 i77)]) (fun (s : Int) (g : Unit) => match s, g with | i77, () => [(5, Box b16 [.int .i64 t12.1.Page, .bool t12.1.N.Leaf, .slice a14 (List.length t12.1.N.L) c15]), (12, Box b35 [.int .i64 t31.2.Seq, .int .i64 t31.2.Root, .int .i64 t31.2.Size, .slice a33 (List.length t31.2.Puts) c34]), (1, OwnS kU8 a5 c6 t3.2), (6, OwnS kU8 a19 c20 t17.2), (13, OwnS (kS kU8) a38 c39 t36), (14, OwnS (kS kU8) a42 c43 t40), (4, OwnS kTEntry a14 c15 t12.1.N.L), (11, OwnS kTChange a33 c34 t31.2.Puts)]) (fun r => bodyPost Try.prog Try.f7 (Rt w Nil (fun _ : Unit => .bool r) (fun _ => [])) .ret) () ⟨rfl, rfl, rfl, rfl, rfl, rfl, rfl, rfl, rfl, rfl, trivial⟩ ⟨rfl, rfl, rfl, rfl, rfl, rfl, rfl, rfl, trivial⟩ rfl ?_ ?_ ?_
      · clear H h131
        rintro i77 _ o H
        rw [laws_FnFramesBent_b0] at H
        refine HQ.keep [(2, _), (4, _), (6, _), (7, _), (10, _), (13, _), (18, _), (19, _), (20, _), (21, _)] ⟨rfl, rfl, rfl, rfl, rfl, rfl, rfl, rfl, rfl, rfl, trivial⟩ ?_
        refine HQ.keepR [(5, _), (12, _), (1, _), (6, _), (13, _), (14, _), (4, _), (11, _)] ⟨rfl, rfl, rfl, rfl, rfl, rfl, rfl, rfl, trivial⟩ rfl ?_
        refine HQ.seq ?_
        refine HQ.rseq ?_
        refine HQ.pu Pu.move ⟨rfl, trivial⟩ rfl rfl rfl ?_
        refine HQ.pu Pu.move ⟨rfl, trivial⟩ rfl rfl rfl ?_
        refine HQ.pu (Pu.len ul91) ⟨rfl, trivial⟩ rfl rfl rfl ?_
        refine HQ.pu Pu.lss ⟨rfl, rfl, trivial⟩ rfl rfl rfl ?_
        refine HQ.done ?_
        refine HQ.keep [(2, _), (4, _), (6, _), (7, _), (10, _), (13, _), (18, _), (19, _), (20, _), (21, _), (115, _)] ⟨rfl, rfl, rfl, rfl, rfl, rfl, rfl, rfl, rfl, rfl, rfl, trivial⟩ ?_
        rcases brk H with ⟨hc, H⟩ | ⟨hc, H⟩
        · refine HQ.condT rfl hc ?_
          clear hc
          refine HQ.skipThen ?_
          refine HQ.seq ?_
          refine HQ.block ?_
          refine HQ.lend 13 rfl fun w97 P98 hL99 => ?_
          refine HQ.lend 14 rfl fun w100 P101 hL102 => ?_
          obtain ⟨h104, H⟩ := asr H
          obtain ⟨h109, H⟩ := asr H
          obtain ⟨⟨a105, c106⟩, hb107, hn108⟩ := BorS.nest (hL102.bor hL99.get) h104
          obtain ⟨⟨a110, c111⟩, hb112, hn113⟩ := BorS.nest hL102.get h109
          refine HQ.drawS mixd [(2, .bool false), (4, .slice a5 (List.length t3.2) c6), (6, .bool t7.2), (7, BP b16 0), (10, .slice a19 (List.length t17.2) c20), (13, .bool t21.2.2), (18, BP b35 0), (19, .slice a38 (List.length t36) c39), (20, .slice a42 (List.length t40) c43), (21, .int .i64 i77)] 8 [⟨[], [], []⟩, ⟨[], [], []⟩, ⟨[], [], [0, 1]⟩, ⟨[], [], [2]⟩, ⟨[], [], []⟩, ⟨[], [], []⟩, ⟨[], [], [4, 5]⟩, ⟨[], [], [6]⟩] [] (fun (g103 : Unit) => [.slice a38 (List.length t36) c39, .int .i64 i77, EP a38 i77 1 0, .slice a105 (List.length (gt t36 i77)) c106, .slice a42 (List.length t40) c43, .int .i64 i77, EP a42 i77 1 0, .slice a110 (List.length (gt t40 i77)) c111]) (fun (g103 : Unit) => []) () [] [] [] ⟨rfl, rfl, rfl, rfl, rfl, rfl, rfl, rfl, rfl, rfl, trivial⟩ trivial rfl (by kernel_rfl) (fun _ => rfl) (by kernel_rfl) (fun _ => rfl) ⟨?_, ?_, ?_, ?_, ?_, ?_, ?_, ?_, trivial⟩ fun g103 => ?_
          · exact OpOK.of (fun g103 => [(.tmp 19, .slice a38 (List.length t36) c39)]) _ _ (fun g103 _ => g103) rfl rfl (fun _ => ⟨rfl, trivial⟩) (fun g103 => Pu.toOT Pu.move) (fun _ _ => ⟨rfl, rfl, trivial⟩)
          · exact OpOK.of (fun g103 => [(.tmp 21, .int .i64 i77)]) _ _ (fun g103 _ => g103) rfl rfl (fun _ => ⟨rfl, trivial⟩) (fun g103 => Pu.toOT Pu.move) (fun _ _ => ⟨rfl, rfl, trivial⟩)
          · exact OpOK.of (fun g103 => [(.tmp 118, .slice a38 (List.length t36) c39), (.tmp 119, .int .i64 i77)]) _ _ (fun g103 _ => g103) rfl rfl (fun _ => ⟨rfl, rfl, trivial⟩) (fun g103 => OT.indexB ul91 sz22 (hL102.bor hL99.get) h104) (fun _ _ => ⟨rfl, rfl, trivial⟩)
          · exact OpOK.of (fun g103 => [(.tmp 120, EP a38 i77 1 0)]) _ _ (fun g103 _ => g103) rfl rfl (fun _ => ⟨rfl, trivial⟩) (fun g103 => OT.loadN (v := .slice a105 (List.length (gt t36 i77)) c106) sc22 hn108 (fun _ v hv => ⟨rfl, by simp [hv]⟩) rfl) (fun _ _ => ⟨rfl, rfl, trivial⟩)
          · exact OpOK.of (fun g103 => [(.tmp 20, .slice a42 (List.length t40) c43)]) _ _ (fun g103 _ => g103) rfl rfl (fun _ => ⟨rfl, trivial⟩) (fun g103 => Pu.toOT Pu.move) (fun _ _ => ⟨rfl, rfl, trivial⟩)
          · exact OpOK.of (fun g103 => [(.tmp 21, .int .i64 i77)]) _ _ (fun g103 _ => g103) rfl rfl (fun _ => ⟨rfl, trivial⟩) (fun g103 => Pu.toOT Pu.move) (fun _ _ => ⟨rfl, rfl, trivial⟩)
          · exact OpOK.of (fun g103 => [(.tmp 122, .slice a42 (List.length t40) c43), (.tmp 123, .int .i64 i77)]) _ _ (fun g103 _ => g103) rfl rfl (fun _ => ⟨rfl, rfl, trivial⟩) (fun g103 => OT.indexB ul91 sz22 hL102.get h109) (fun _ _ => ⟨rfl, rfl, trivial⟩)
          · exact OpOK.of (fun g103 => [(.tmp 124, EP a42 i77 1 0)]) _ _ (fun g103 _ => g103) rfl rfl (fun _ => ⟨rfl, trivial⟩) (fun g103 => OT.loadN (v := .slice a110 (List.length (gt t40 i77)) c111) sc22 hn113 (fun _ v hv => ⟨rfl, by simp [hv]⟩) rfl) (fun _ _ => ⟨rfl, rfl, trivial⟩)
          refine HQ.keep [(2, _), (4, _), (6, _), (7, _), (10, _), (13, _), (18, _), (19, _), (20, _), (21, _), (121, _), (125, _)] ⟨rfl, rfl, rfl, rfl, rfl, rfl, rfl, rfl, rfl, rfl, rfl, rfl, trivial⟩ ?_
          refine HQ.keepR [(5, _), (12, _), (1, _), (6, _), (13, _), (14, _), (4, _), (11, _)] ⟨rfl, rfl, rfl, rfl, rfl, rfl, rfl, rfl, trivial⟩ rfl ?_
          obtain ⟨t114, h115, H⟩ := bnd H
          refine HQ.op [] [] (OT.call (us := [_, _]) (Pre := []) [.tmp 121, .tmp 125] Try.call23 rfl rfl fun w F hs hF hp => laws_same_c (hb107.pass hp) (hb112.pass hp) h115) ⟨rfl, rfl, rfl, trivial⟩ trivial rfl rfl rfl rfl (fun _ => rfl) fun _ => ?_
          refine HQ.pu Pu.not ⟨rfl, trivial⟩ rfl rfl rfl ?_
          refine HQ.unlend hL102 14 rfl ?_
          refine HQ.unlend hL99 13 rfl ?_
          refine HQ.done ?_
          refine HQ.keep [(2, _), (4, _), (6, _), (7, _), (10, _), (13, _), (18, _), (19, _), (20, _), (21, _), (127, _)] ⟨rfl, rfl, rfl, rfl, rfl, rfl, rfl, rfl, rfl, rfl, rfl, trivial⟩ ?_
          rcases brk H with ⟨hc, H⟩ | ⟨hc, H⟩
          · refine HQ.condT rfl hc ?_
            clear hc
            refine HQ.rseq ?_
            refine HQ.pu Pu.assign ⟨rfl, trivial⟩ rfl rfl rfl ?_
            refine HQ.done ?_
            refine HQ.keep [(2, _), (4, _), (6, _), (7, _), (10, _), (13, _), (18, _), (19, _), (20, _), (21, _)] ⟨rfl, rfl, rfl, rfl, rfl, rfl, rfl, rfl, rfl, rfl, trivial⟩ ?_
            refine HQ.ret ?_
            refine HQ.blkR ?_
            refine HQ.thenR ?_
            obtain rfl := Option.some.inj H
            refine HQ.retL ?_
            exact HQ.fin (vs := [_]) Try.results7 () ⟨rfl, trivial⟩ rfl [] trivial rfl
          · refine HQ.condF rfl hc ?_
            clear hc
            refine HQ.skip ?_
            refine HQ.blkN ?_
            refine HQ.thenN ?_
            refine HQ.regionQ ?_
            refine HQ.pu Pu.move ⟨rfl, trivial⟩ rfl rfl rfl ?_
            refine HQ.pu Pu.add ⟨rfl, rfl, trivial⟩ rfl rfl rfl ?_
            refine HQ.pu Pu.assign ⟨rfl, trivial⟩ rfl rfl rfl ?_
            refine HQ.done ?_
            refine HQ.keep [(2, _), (4, _), (6, _), (7, _), (10, _), (13, _), (18, _), (19, _), (20, _), (21, _)] ⟨rfl, rfl, rfl, rfl, rfl, rfl, rfl, rfl, rfl, rfl, trivial⟩ ?_
            obtain rfl := Option.some.inj H
            exact HQ.next () ⟨rfl, rfl, rfl, rfl, rfl, rfl, rfl, rfl, rfl, rfl, trivial⟩ ⟨rfl, rfl, rfl, rfl, rfl, rfl, rfl, rfl, trivial⟩ rfl
        · refine HQ.condF rfl hc ?_
          clear hc
          refine HQ.exit ?_
          refine HQ.thenE ?_
          obtain rfl := Option.some.inj H
          exact HQ.out () ⟨rfl, rfl, rfl, rfl, rfl, rfl, rfl, rfl, rfl, rfl, trivial⟩ ⟨rfl, rfl, rfl, rfl, rfl, rfl, rfl, rfl, trivial⟩ rfl
      · rintro i117 rfl _
        clear h131
        replace H := H
        refine HQ.keep [(2, _), (4, _), (6, _), (7, _), (10, _), (13, _), (18, _), (19, _), (20, _), (21, _)] ⟨rfl, rfl, rfl, rfl, rfl, rfl, rfl, rfl, rfl, rfl, trivial⟩ ?_
        refine HQ.keepR [(5, _), (12, _), (1, _), (6, _), (13, _), (14, _), (4, _), (11, _)] ⟨rfl, rfl, rfl, rfl, rfl, rfl, rfl, rfl, trivial⟩ rfl ?_
        refine HQ.blkE ?_
        refine HQ.thenN ?_
        refine HQ.rseq ?_
        refine HQ.pu Pu.move ⟨rfl, trivial⟩ rfl rfl rfl ?_
        refine HQ.pu Pu.move ⟨rfl, trivial⟩ rfl rfl rfl ?_
        refine HQ.cutAt 2 [(131, .bool (t7.2 && t21.2.2)), (2, .bool false), (4, .slice a5 (List.length t3.2) c6), (7, BP b16 0), (10, .slice a19 (List.length t17.2) c20), (18, BP b35 0), (19, .slice a38 (List.length t36) c39)] [(5, Box b16 [.int .i64 t12.1.Page, .bool t12.1.N.Leaf, .slice a14 (List.length t12.1.N.L) c15]), (12, Box b35 [.int .i64 t31.2.Seq, .int .i64 t31.2.Root, .int .i64 t31.2.Size, .slice a33 (List.length t31.2.Puts) c34]), (1, OwnS kU8 a5 c6 t3.2), (6, OwnS kU8 a19 c20 t17.2), (13, OwnS (kS kU8) a38 c39 t36), (14, OwnS (kS kU8) a42 c43 t40), (4, OwnS kTEntry a14 c15 t12.1.N.L), (11, OwnS kTChange a33 c34 t31.2.Puts)] ?_ ?_
        · rcases Bool.eq_false_or_eq_true t7.2 with hg118 | hg118
          · refine HQ.on rfl rfl hg118 ?_
            refine HQ.pu Pu.move ⟨rfl, trivial⟩ rfl rfl rfl ?_
            refine HQ.pu (Pu.pickAT hg118) ⟨rfl, rfl, trivial⟩ rfl rfl rfl ?_
            exact HQ.mid ⟨rfl, rfl, rfl, rfl, rfl, rfl, rfl, trivial⟩ ⟨rfl, rfl, rfl, rfl, rfl, rfl, rfl, rfl, trivial⟩ rfl
          · refine HQ.off rfl rfl hg118 rfl ?_
            refine HQ.pu (Pu.pickAF (u := t21.2.2) hg118) ⟨rfl, rfl, trivial⟩ rfl rfl rfl ?_
            exact HQ.mid ⟨rfl, rfl, rfl, rfl, rfl, rfl, rfl, trivial⟩ ⟨rfl, rfl, rfl, rfl, rfl, rfl, rfl, rfl, trivial⟩ rfl
        refine HQ.pu Pu.move ⟨rfl, trivial⟩ rfl rfl rfl ?_
        obtain ⟨c122, h123, H⟩ := bnd H
        refine HQ.cutAt 4 [(136, .bool c122), (2, .bool false), (7, BP b16 0), (18, BP b35 0), (19, .slice a38 (List.length t36) c39)] [(5, Box b16 [.int .i64 t12.1.Page, .bool t12.1.N.Leaf, .slice a14 (List.length t12.1.N.L) c15]), (12, Box b35 [.int .i64 t31.2.Seq, .int .i64 t31.2.Root, .int .i64 t31.2.Size, .slice a33 (List.length t31.2.Puts) c34]), (1, OwnS kU8 a5 c6 t3.2), (6, OwnS kU8 a19 c20 t17.2), (13, OwnS (kS kU8) a38 c39 t36), (14, OwnS (kS kU8) a42 c43 t40), (4, OwnS kTEntry a14 c15 t12.1.N.L), (11, OwnS kTChange a33 c34 t31.2.Puts)] ?_ ?_
        · clear H
          have H := h123
          rcases brk H with ⟨hg119, H⟩ | ⟨hg119, H⟩
          · refine HQ.on rfl rfl hg119 ?_
            refine HQ.pu Pu.move ⟨rfl, trivial⟩ rfl rfl rfl ?_
            refine HQ.on rfl rfl hg119 ?_
            refine HQ.pu Pu.move ⟨rfl, trivial⟩ rfl rfl rfl ?_
            refine HQ.on rfl rfl hg119 ?_
            obtain ⟨t120, h121, H⟩ := bnd H
            refine HQ.op [1, 6] [1, 6] (OT.call (us := [_, _]) (Pre := [OwnS kU8 a5 c6 t3.2, OwnS kU8 a19 c20 t17.2]) [.tmp 133, .tmp 134] Try.call23 rfl rfl fun w F hs hF hp => laws_same_c (hs.lend hF 0 rfl) (hs.lend hF 1 rfl) h121) ⟨rfl, rfl, rfl, trivial⟩ ⟨rfl, rfl, trivial⟩ rfl rfl rfl rfl (fun _ => rfl) fun _ => ?_
            obtain rfl := Option.some.inj H
            refine HQ.pu (Pu.pickC1 hg119) ⟨rfl, rfl, trivial⟩ rfl rfl rfl ?_
            exact HQ.mid ⟨rfl, rfl, rfl, rfl, rfl, trivial⟩ ⟨rfl, rfl, rfl, rfl, rfl, rfl, rfl, rfl, trivial⟩ rfl
          · obtain rfl := Option.some.inj H
            refine HQ.off rfl rfl hg119 rfl ?_
            refine HQ.off rfl rfl hg119 rfl ?_
            refine HQ.off rfl rfl hg119 rfl ?_
            refine HQ.pu (Pu.pickC0 hg119) ⟨rfl, rfl, trivial⟩ rfl rfl rfl ?_
            exact HQ.mid ⟨rfl, rfl, rfl, rfl, rfl, trivial⟩ ⟨rfl, rfl, rfl, rfl, rfl, rfl, rfl, rfl, trivial⟩ rfl
        refine HQ.pu Pu.not ⟨rfl, trivial⟩ rfl rfl rfl ?_
        refine HQ.pu Pu.move ⟨rfl, trivial⟩ rfl rfl rfl ?_
        refine HQ.cutAt 13 [(151, .bool ((!c122) && ((decide (((List.length t36 : Nat) : Int) = 0)) || (decide (((List.length t36 : Nat) : Int) = (wrap64 (((List.length t31.2.Puts : Nat) : Int) + 1))))))), (2, .bool false), (7, BP b16 0)] [(5, Box b16 [.int .i64 t12.1.Page, .bool t12.1.N.Leaf, .slice a14 (List.length t12.1.N.L) c15]), (12, Box b35 [.int .i64 t31.2.Seq, .int .i64 t31.2.Root, .int .i64 t31.2.Size, .slice a33 (List.length t31.2.Puts) c34]), (1, OwnS kU8 a5 c6 t3.2), (6, OwnS kU8 a19 c20 t17.2), (13, OwnS (kS kU8) a38 c39 t36), (14, OwnS (kS kU8) a42 c43 t40), (4, OwnS kTEntry a14 c15 t12.1.N.L), (11, OwnS kTChange a33 c34 t31.2.Puts)] ?_ ?_
        · rcases Bool.eq_false_or_eq_true (!c122) with hg124 | hg124
          · refine HQ.on rfl rfl hg124 ?_
            refine HQ.pu Pu.move ⟨rfl, trivial⟩ rfl rfl rfl ?_
            refine HQ.on rfl rfl hg124 ?_
            refine HQ.pu (Pu.len ul91) ⟨rfl, trivial⟩ rfl rfl rfl ?_
            refine HQ.on rfl rfl hg124 ?_
            refine HQ.pu Pu.eql ⟨rfl, rfl, trivial⟩ rfl rfl rfl ?_
            refine HQ.on rfl rfl hg124 ?_
            refine HQ.pu Pu.move ⟨rfl, trivial⟩ rfl rfl rfl ?_
            refine HQ.cutAt 8 [(150, .bool ((decide (((List.length t36 : Nat) : Int) = 0)) || (decide (((List.length t36 : Nat) : Int) = (wrap64 (((List.length t31.2.Puts : Nat) : Int) + 1)))))), (2, .bool false), (7, BP b16 0), (138, .bool (!c122))] [(5, Box b16 [.int .i64 t12.1.Page, .bool t12.1.N.Leaf, .slice a14 (List.length t12.1.N.L) c15]), (12, Box b35 [.int .i64 t31.2.Seq, .int .i64 t31.2.Root, .int .i64 t31.2.Size, .slice a33 (List.length t31.2.Puts) c34]), (1, OwnS kU8 a5 c6 t3.2), (6, OwnS kU8 a19 c20 t17.2), (13, OwnS (kS kU8) a38 c39 t36), (14, OwnS (kS kU8) a42 c43 t40), (4, OwnS kTEntry a14 c15 t12.1.N.L), (11, OwnS kTChange a33 c34 t31.2.Puts)] ?_ ?_
            · rcases Bool.eq_false_or_eq_true (decide (((List.length t36 : Nat) : Int) = 0)) with hg125 | hg125
              · refine HQ.off rfl rfl hg125 rfl ?_
                refine HQ.off rfl rfl hg125 rfl ?_
                refine HQ.off rfl rfl hg125 rfl ?_
                refine HQ.off rfl rfl hg125 rfl ?_
                refine HQ.off rfl rfl hg125 rfl ?_
                refine HQ.off rfl rfl hg125 rfl ?_
                refine HQ.off rfl rfl hg125 rfl ?_
                refine HQ.on rfl rfl hg124 ?_
                refine HQ.pu (Pu.pickOT (u := (decide (((List.length t36 : Nat) : Int) = (wrap64 (((List.length t31.2.Puts : Nat) : Int) + 1))))) hg125) ⟨rfl, rfl, trivial⟩ rfl rfl rfl ?_
                exact HQ.mid ⟨rfl, rfl, rfl, rfl, trivial⟩ ⟨rfl, rfl, rfl, rfl, rfl, rfl, rfl, rfl, trivial⟩ rfl
              · refine HQ.on rfl rfl hg125 ?_
                refine HQ.pu Pu.move ⟨rfl, trivial⟩ rfl rfl rfl ?_
                refine HQ.on rfl rfl hg125 ?_
                refine HQ.pu (Pu.len ul91) ⟨rfl, trivial⟩ rfl rfl rfl ?_
                refine HQ.on rfl rfl hg125 ?_
                refine HQ.pu (Pu.fieldB fo57_3 rfl) ⟨rfl, trivial⟩ rfl rfl rfl ?_
                refine HQ.on rfl rfl hg125 ?_
                refine HQ.op [12] [12] (OT.loadB sc55 rfl) ⟨rfl, trivial⟩ ⟨rfl, trivial⟩ rfl rfl rfl rfl (fun _ => rfl) fun _ => ?_
                refine HQ.on rfl rfl hg125 ?_
                refine HQ.pu (Pu.len ul55) ⟨rfl, trivial⟩ rfl rfl rfl ?_
                refine HQ.on rfl rfl hg125 ?_
                refine HQ.pu Pu.add ⟨rfl, rfl, trivial⟩ rfl rfl rfl ?_
                refine HQ.on rfl rfl hg125 ?_
                refine HQ.pu Pu.eql ⟨rfl, rfl, trivial⟩ rfl rfl rfl ?_
                refine HQ.on rfl rfl hg124 ?_
                refine HQ.pu (Pu.pickOF hg125) ⟨rfl, rfl, trivial⟩ rfl rfl rfl ?_
                exact HQ.mid ⟨rfl, rfl, rfl, rfl, trivial⟩ ⟨rfl, rfl, rfl, rfl, rfl, rfl, rfl, rfl, trivial⟩ rfl
            refine HQ.pu (Pu.pickAT hg124) ⟨rfl, rfl, trivial⟩ rfl rfl rfl ?_
            exact HQ.mid ⟨rfl, rfl, rfl, trivial⟩ ⟨rfl, rfl, rfl, rfl, rfl, rfl, rfl, rfl, trivial⟩ rfl
          · refine HQ.off rfl rfl hg124 rfl ?_
            refine HQ.off rfl rfl hg124 rfl ?_
            refine HQ.off rfl rfl hg124 rfl ?_
            refine HQ.off rfl rfl hg124 rfl ?_
            refine HQ.offU rfl rfl rfl ?_
            refine HQ.offU rfl rfl rfl ?_
            refine HQ.offU rfl rfl rfl ?_
            refine HQ.offU rfl rfl rfl ?_
            refine HQ.offU rfl rfl rfl ?_
            refine HQ.offU rfl rfl rfl ?_
            refine HQ.offU rfl rfl rfl ?_
            refine HQ.off rfl rfl hg124 rfl ?_
            refine HQ.pu (Pu.pickAF (u := ((decide (((List.length t36 : Nat) : Int) = 0)) || (decide (((List.length t36 : Nat) : Int) = (wrap64 (((List.length t31.2.Puts : Nat) : Int) + 1)))))) hg124) ⟨rfl, rfl, trivial⟩ rfl rfl rfl ?_
            exact HQ.mid ⟨rfl, rfl, rfl, trivial⟩ ⟨rfl, rfl, rfl, rfl, rfl, rfl, rfl, rfl, trivial⟩ rfl
        refine HQ.pu Pu.move ⟨rfl, trivial⟩ rfl rfl rfl ?_
        obtain ⟨c129, h130, H⟩ := bnd H
        refine HQ.cutAt 6 [(158, .bool c129), (2, .bool false)] [(5, Box b16 [.int .i64 t12.1.Page, .bool t12.1.N.Leaf, .slice a14 (List.length t12.1.N.L) c15]), (12, Box b35 [.int .i64 t31.2.Seq, .int .i64 t31.2.Root, .int .i64 t31.2.Size, .slice a33 (List.length t31.2.Puts) c34]), (1, OwnS kU8 a5 c6 t3.2), (6, OwnS kU8 a19 c20 t17.2), (13, OwnS (kS kU8) a38 c39 t36), (14, OwnS (kS kU8) a42 c43 t40), (4, OwnS kTEntry a14 c15 t12.1.N.L), (11, OwnS kTChange a33 c34 t31.2.Puts)] ?_ ?_
        · clear H
          have H := h130
          rcases brk H with ⟨hg126, H⟩ | ⟨hg126, H⟩
          · refine HQ.on rfl rfl hg126 ?_
            refine HQ.pu (Pu.fieldB fo49_1 rfl) ⟨rfl, trivial⟩ rfl rfl rfl ?_
            refine HQ.on rfl rfl hg126 ?_
            refine HQ.op [5] [5] (OT.loadBA (vs := [.bool t12.1.N.Leaf, .slice a14 (List.length t12.1.N.L) c15]) ag47 sz47 rfl rfl) ⟨rfl, trivial⟩ ⟨rfl, trivial⟩ rfl rfl rfl rfl (fun _ => rfl) fun _ => ?_
            refine HQ.on rfl rfl hg126 ?_
            refine HQ.pu (Pu.fieldB fo49_1 rfl) ⟨rfl, trivial⟩ rfl rfl rfl ?_
            refine HQ.on rfl rfl hg126 ?_
            refine HQ.op [5] [5] (OT.loadBA (vs := [.bool t12.1.N.Leaf, .slice a14 (List.length t12.1.N.L) c15]) ag47 sz47 rfl rfl) ⟨rfl, trivial⟩ ⟨rfl, trivial⟩ rfl rfl rfl rfl (fun _ => rfl) fun _ => ?_
            refine HQ.on rfl rfl hg126 ?_
            obtain ⟨t127, h128, H⟩ := bnd H
            refine HQ.op [4] [4] (OT.call (us := [_, _]) (Pre := [OwnS kTEntry a14 c15 t12.1.N.L]) [.tmp 154, .tmp 156] Try.call37 rfl rfl fun w F hs hF hp => impl_SameNode_c (p0 := t12.1.N) (p1 := t12.1.N) (hs.lend hF 0 rfl) (hs.lend hF 0 rfl) h128) ⟨rfl, rfl, rfl, trivial⟩ ⟨rfl, trivial⟩ rfl rfl rfl rfl (fun _ => rfl) fun _ => ?_
            obtain rfl := Option.some.inj H
            refine HQ.pu (Pu.pickC1 hg126) ⟨rfl, rfl, trivial⟩ rfl rfl rfl ?_
            exact HQ.mid ⟨rfl, rfl, trivial⟩ ⟨rfl, rfl, rfl, rfl, rfl, rfl, rfl, rfl, trivial⟩ rfl
          · obtain rfl := Option.some.inj H
            refine HQ.off rfl rfl hg126 rfl ?_
            refine HQ.off rfl rfl hg126 rfl ?_
            refine HQ.off rfl rfl hg126 rfl ?_
            refine HQ.off rfl rfl hg126 rfl ?_
            refine HQ.off rfl rfl hg126 rfl ?_
            refine HQ.pu (Pu.pickC0 hg126) ⟨rfl, rfl, trivial⟩ rfl rfl rfl ?_
            exact HQ.mid ⟨rfl, rfl, trivial⟩ ⟨rfl, rfl, rfl, rfl, rfl, rfl, rfl, rfl, trivial⟩ rfl
        refine HQ.pu Pu.assign ⟨rfl, trivial⟩ rfl rfl rfl ?_
        refine HQ.done ?_
        refine HQ.keep [(2, _)] ⟨rfl, trivial⟩ ?_
        refine HQ.ret ?_
        obtain rfl := Option.some.inj H
        exact HQ.fin (vs := [_]) Try.results7 () ⟨rfl, trivial⟩ rfl [] trivial rfl
      · rintro r rfl a w hr
        obtain rfl := Option.some.inj H
        exact hr

end Go.Proofs.Sx
