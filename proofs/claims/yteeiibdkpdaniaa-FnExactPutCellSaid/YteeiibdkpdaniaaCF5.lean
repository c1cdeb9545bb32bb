import Derived.Test.YteeiibdkpdaniaaCF4
import Derived.KernelRfl
namespace Go.Proofs.Sx
open Go.RowKit
set_option linter.unusedVariables false
set_option linter.unusedSimpArgs false
set_option maxRecDepth 20000
set_option maxHeartbeats 1000000
/-! impl.PutNode -/
theorem impl_PutNode_c {w : World} {k : Nat} {p0 : TNode} {a_0 : Option Addr} {c_0 : Nat} (hb_0 : BorS kTEntry a_0 c_0 p0.L w.heap (Lt w Nil)) {r : (List Int)} (H : impl_PutNode k p0 = some r) :
    Calls Try.prog 67 #[.agg #[.bool p0.Leaf, .slice a_0 (List.length p0.L) c_0]] w (Rt w Nil (fun g : Option Addr × Nat => .slice g.1 (List.length r) g.2) (fun g => [OwnS kU8 g.1 g.2 r])) := by
  rw [impl_PutNode] at H
  refine Calls.enter0 (N := 34) (us := [_]) Try.func67 rfl rfl rfl ?_
  refine HQ.rseq ?_
  refine HQ.op [] [1] (OT.box (cs := [.bool p0.Leaf, .slice a_0 (List.length p0.L) c_0]) rfl) ⟨rfl, trivial⟩ trivial rfl rfl rfl rfl (fun _ => rfl) fun b1 => ?_
  refine HQ.pu Pu.assign ⟨rfl, trivial⟩ rfl rfl rfl ?_
  refine HQ.done ?_
  refine HQ.keep [(1, _), (2, _)] ⟨rfl, rfl, trivial⟩ ?_
  refine HQ.seq ?_
  refine HQ.rseq ?_
  refine HQ.op [1] [1] (OT.loadBA (vs := [.bool p0.Leaf, .slice a_0 (List.length p0.L) c_0]) ag58 sz58 rfl rfl) ⟨rfl, trivial⟩ ⟨rfl, trivial⟩ rfl rfl rfl rfl (fun _ => rfl) fun _ => ?_
  obtain ⟨t2, h3, H⟩ := bnd H
  refine HQ.op [] [] (OT.call (us := [_]) (Pre := []) [.tmp 7] Try.call61 rfl rfl fun w F hs hF hp => impl_NodeOk_c (hb_0.pass hp) h3) ⟨rfl, rfl, trivial⟩ trivial rfl rfl rfl rfl (fun _ => rfl) fun _ => ?_
  refine HQ.pu Pu.not ⟨rfl, trivial⟩ rfl rfl rfl ?_
  refine HQ.done ?_
  refine HQ.keep [(1, _), (2, _), (9, _)] ⟨rfl, rfl, rfl, trivial⟩ ?_
  rcases brk H with ⟨hc, H⟩ | ⟨hc, H⟩
  · refine HQ.condT rfl hc ?_
    clear hc
    refine HQ.rseq ?_
    refine HQ.pu Pu.assign ⟨rfl, trivial⟩ rfl rfl rfl ?_
    refine HQ.done ?_
    refine HQ.keep [(1, _), (2, _)] ⟨rfl, rfl, trivial⟩ ?_
    refine HQ.ret ?_
    refine HQ.thenR ?_
    obtain rfl := Option.some.inj H
    refine HQ.nil kU8 2 rfl ?_
    exact HQ.fin (vs := [_]) Try.results67 (none, 0) ⟨rfl, trivial⟩ rfl [2] ⟨rfl, trivial⟩ rfl
  · refine HQ.condF rfl hc ?_
    clear hc
    refine HQ.skipThen ?_
    refine HQ.rseq ?_
    refine HQ.pu (Pu.fieldB fo58_1 rfl) ⟨rfl, trivial⟩ rfl rfl rfl ?_
    refine HQ.op [1] [1] (OT.loadB sc56 rfl) ⟨rfl, trivial⟩ ⟨rfl, trivial⟩ rfl rfl rfl rfl (fun _ => rfl) fun _ => ?_
    refine HQ.pu (Pu.len ul56) ⟨rfl, trivial⟩ rfl rfl rfl ?_
    refine HQ.pu Pu.assign ⟨rfl, trivial⟩ rfl rfl rfl ?_
    refine HQ.done ?_
    refine HQ.keep [(1, _), (2, _), (3, _)] ⟨rfl, rfl, rfl, trivial⟩ ?_
    refine HQ.seq ?_
    refine HQ.rseq ?_
    refine HQ.pu (Pu.fieldB fo58_0 rfl) ⟨rfl, trivial⟩ rfl rfl rfl ?_
    refine HQ.op [1] [1] (OT.loadB sc4 rfl) ⟨rfl, trivial⟩ ⟨rfl, trivial⟩ rfl rfl rfl rfl (fun _ => rfl) fun _ => ?_
    refine HQ.done ?_
    refine HQ.keep [(1, _), (2, _), (3, _), (14, _)] ⟨rfl, rfl, rfl, rfl, trivial⟩ ?_
    rcases brk H with ⟨hc, H⟩ | ⟨hc, H⟩
    · refine HQ.condT rfl hc ?_
      clear hc
      refine HQ.region ?_
      refine HQ.pu Pu.move ⟨rfl, trivial⟩ rfl rfl rfl ?_
      refine HQ.pu Pu.add ⟨rfl, rfl, trivial⟩ rfl rfl rfl ?_
      refine HQ.pu Pu.assign ⟨rfl, trivial⟩ rfl rfl rfl ?_
      refine HQ.done ?_
      refine HQ.keep [(1, _), (2, _), (3, _)] ⟨rfl, rfl, rfl, trivial⟩ ?_
      refine HQ.rseq ?_
      refine HQ.pu Pu.move ⟨rfl, trivial⟩ rfl rfl rfl ?_
      refine HQ.pu (Pu.conv ul3 ul5) ⟨rfl, trivial⟩ rfl rfl rfl ?_
      refine HQ.op [] [3] (OT.buildF (us := [.int .u8 (IntKind.u8.wrap (wrap64 (((List.length p0.L : Nat) : Int) + 16)))]) (ys := ([(IntKind.u8.wrap (wrap64 (((List.length p0.L : Nat) : Int) + 16)))] : (List Int))) (enc := (encI .u8)) (hl := fun _ => ⟨rfl, rfl⟩) [.tmp 18] sl27.ul sl27.szE sl27.zc rfl rfl rfl rfl rfl) ⟨rfl, trivial⟩ trivial rfl rfl rfl rfl (fun _ => rfl) fun ⟨a4, c5⟩ => ?_
      refine HQ.pu Pu.assign ⟨rfl, trivial⟩ rfl rfl rfl ?_
      refine HQ.done ?_
      refine HQ.keep [(1, _), (2, _), (4, _)] ⟨rfl, rfl, rfl, trivial⟩ ?_
      refine HQ.seq ?_
      refine HQ.rseq ?_
      refine HQ.pu (Pu.fieldB fo58_1 rfl) ⟨rfl, trivial⟩ rfl rfl rfl ?_
      refine HQ.op [1] [1] (OT.loadB sc56 rfl) ⟨rfl, trivial⟩ ⟨rfl, trivial⟩ rfl rfl rfl rfl (fun _ => rfl) fun _ => ?_
      refine HQ.pu (Pu.len ul56) ⟨rfl, trivial⟩ rfl rfl rfl ?_
      refine HQ.pu Pu.move ⟨rfl, trivial⟩ rfl rfl rfl ?_
      refine HQ.done ?_
      refine HQ.keep [(2, _), (4, _), (21, _), (22, _), (23, _)] ⟨rfl, rfl, rfl, rfl, rfl, trivial⟩ ?_
      refine HQ.block ?_
      obtain ⟨o37, h46, H⟩ := bnd H
      refine HQ.loop h46 0 (fun (s : (List Int) × Int) (g : Option Addr × Nat) => match s, g with | (l15, i18), (a16, c17) => [(2, .slice none 0 0), (4, .slice a16 (List.length l15) c17), (21, .slice a_0 (List.length p0.L) c_0), (22, .int .i64 ((List.length p0.L : Nat) : Int)), (23, .int .i64 i18)]) (fun (s : (List Int) × Int) (g : Option Addr × Nat) => match s, g with | (l15, i18), (a16, c17) => [(3, OwnS kU8 a16 c17 l15)]) (fun _ _ _ => False) (a4, c5) ⟨rfl, rfl, rfl, rfl, rfl, trivial⟩ ⟨rfl, trivial⟩ rfl ?_ ?_ ?_
      · clear H h46
        rintro ⟨l15, i18⟩ ⟨a16, c17⟩ o H
        rw [impl_PutNode_b0] at H
        refine HQ.keep [(2, _), (4, _), (21, _), (22, _), (23, _)] ⟨rfl, rfl, rfl, rfl, rfl, trivial⟩ ?_
        refine HQ.keepR [(3, _)] ⟨rfl, trivial⟩ rfl ?_
        refine HQ.rseq ?_
        refine HQ.pu Pu.lss ⟨rfl, rfl, trivial⟩ rfl rfl rfl ?_
        refine HQ.done ?_
        refine HQ.keep [(2, _), (4, _), (21, _), (22, _), (23, _), (24, _)] ⟨rfl, rfl, rfl, rfl, rfl, rfl, trivial⟩ ?_
        refine HQ.seq ?_
        rcases brk H with ⟨hc, H⟩ | ⟨hc, H⟩
        · refine HQ.condT rfl hc ?_
          clear hc
          refine HQ.skipThen ?_
          refine HQ.seq ?_
          refine HQ.block ?_
          refine HQ.rseq ?_
          obtain ⟨h28, H⟩ := asr H
          refine HQ.op [] [] (OT.indexB ul56 sz135 hb_0 h28) ⟨rfl, rfl, trivial⟩ trivial rfl rfl rfl rfl (fun _ => rfl) fun _ => ?_
          refine HQ.op [] [] (OT.loadFA (vs := [.int .i64 ((gt p0.L i18).N), .int .i64 ((gt p0.L i18).R.X0), .int .i64 ((gt p0.L i18).R.Y0), .int .i64 ((gt p0.L i18).R.X1), .int .i64 ((gt p0.L i18).R.Y1)]) ag135 sz135 hb_0 h28 rfl rfl) ⟨rfl, trivial⟩ trivial rfl rfl rfl rfl (fun _ => rfl) fun _ => ?_
          refine HQ.op [] [8] (OT.alloc zc135) trivial trivial rfl rfl rfl rfl (fun _ => rfl) fun b29 => ?_
          refine HQ.opN [8] [8] [] (OT.storeC (cs' := [.int .i64 ((gt p0.L i18).N), .int .i64 ((gt p0.L i18).R.X0), .int .i64 ((gt p0.L i18).R.Y0), .int .i64 ((gt p0.L i18).R.X1), .int .i64 ((gt p0.L i18).R.Y1)]) sz135 rfl rfl rfl rfl rfl) ⟨rfl, rfl, trivial⟩ ⟨rfl, trivial⟩ rfl rfl rfl (fun _ => rfl) fun _ => ?_
          refine HQ.done ?_
          refine HQ.keep [(2, _), (4, _), (21, _), (22, _), (23, _), (24, _), (25, _), (26, _), (6, _)] ⟨rfl, rfl, rfl, rfl, rfl, rfl, rfl, rfl, rfl, trivial⟩ ?_
          refine HQ.regionQ ?_
          refine HQ.pu Pu.move ⟨rfl, trivial⟩ rfl rfl rfl ?_
          refine HQ.op [8] [8] (OT.loadBA (vs := [.int .i64 ((gt p0.L i18).N), .int .i64 ((gt p0.L i18).R.X0), .int .i64 ((gt p0.L i18).R.Y0), .int .i64 ((gt p0.L i18).R.X1), .int .i64 ((gt p0.L i18).R.Y1)]) ag135 sz135 rfl rfl) ⟨rfl, trivial⟩ ⟨rfl, trivial⟩ rfl rfl rfl rfl (fun _ => rfl) fun _ => ?_
          obtain ⟨t30, h31, H⟩ := bnd H
          refine HQ.op [] [9] (OT.call (us := [_]) (Pre := []) [.tmp 28] Try.call102 rfl rfl fun w F hs hF hp => impl_PutEntry_c h31) ⟨rfl, rfl, trivial⟩ trivial rfl rfl rfl rfl (fun _ => rfl) fun ⟨a32, c33⟩ => ?_
          obtain ⟨h36, H⟩ := asr H
          refine HQ.op [3, 9] [3, 9] (OT.appendG (enc := (encI .u8)) (hl := fun _ => ⟨rfl, rfl⟩) sl27 ul27 h36) ⟨rfl, rfl, trivial⟩ ⟨rfl, rfl, trivial⟩ rfl rfl rfl rfl (fun _ => rfl) fun ⟨a34, c35⟩ => ?_
          refine HQ.pu Pu.assign ⟨rfl, trivial⟩ rfl rfl rfl ?_
          refine HQ.done ?_
          refine HQ.keep [(2, _), (4, _), (21, _), (22, _), (23, _), (24, _), (25, _), (26, _), (6, _), (27, _), (28, _), (29, _), (30, _)] ⟨rfl, rfl, rfl, rfl, rfl, rfl, rfl, rfl, rfl, rfl, rfl, rfl, rfl, trivial⟩ ?_
          refine HQ.blkN ?_
          refine HQ.thenN ?_
          refine HQ.regionQ ?_
          refine HQ.pu Pu.add ⟨rfl, rfl, trivial⟩ rfl rfl rfl ?_
          refine HQ.pu Pu.move ⟨rfl, trivial⟩ rfl rfl rfl ?_
          refine HQ.done ?_
          refine HQ.keep [(2, _), (4, _), (21, _), (22, _), (23, _), (24, _), (25, _), (26, _), (6, _), (27, _), (28, _), (29, _), (30, _), (31, _)] ⟨rfl, rfl, rfl, rfl, rfl, rfl, rfl, rfl, rfl, rfl, rfl, rfl, rfl, rfl, trivial⟩ ?_
          obtain rfl := Option.some.inj H
          exact HQ.next (a34, c35) ⟨rfl, rfl, rfl, rfl, rfl, trivial⟩ ⟨rfl, trivial⟩ rfl
        · refine HQ.condF rfl hc ?_
          clear hc
          refine HQ.exit ?_
          refine HQ.thenE ?_
          obtain rfl := Option.some.inj H
          exact HQ.out (a16, c17) ⟨rfl, rfl, rfl, rfl, rfl, trivial⟩ ⟨rfl, trivial⟩ rfl
      · rintro ⟨l38, i41⟩ rfl ⟨a39, c40⟩
        clear h46
        replace H := H
        refine HQ.keep [(2, _), (4, _), (21, _), (22, _), (23, _)] ⟨rfl, rfl, rfl, rfl, rfl, trivial⟩ ?_
        refine HQ.keepR [(3, _)] ⟨rfl, trivial⟩ rfl ?_
        refine HQ.blkE ?_
        refine HQ.thenN ?_
        refine HQ.rseq ?_
        refine HQ.pu Pu.move ⟨rfl, trivial⟩ rfl rfl rfl ?_
        obtain ⟨t42, h43, H⟩ := bnd H
        refine HQ.op [3] [10, 3] (OT.call (us := [_, _]) (Pre := [OwnS kU8 a39 c40 l38]) [.tmp 32, .const (.int .i64 25)] Try.call73 rfl rfl fun w F hs hF hp => impl_Pad_c (hs.lend hF 0 rfl) h43) ⟨rfl, rfl, rfl, trivial⟩ ⟨rfl, trivial⟩ rfl rfl rfl rfl (fun _ => rfl) fun ⟨a44, c45⟩ => ?_
        refine HQ.pu Pu.assign ⟨rfl, trivial⟩ rfl rfl rfl ?_
        refine HQ.done ?_
        refine HQ.keep [(2, _)] ⟨rfl, trivial⟩ ?_
        refine HQ.ret ?_
        obtain rfl := Option.some.inj H
        exact HQ.fin (vs := [_]) Try.results67 (a44, c45) ⟨rfl, trivial⟩ rfl [10] ⟨rfl, trivial⟩ rfl
      · exact fun r h a w hf => hf.elim
    · refine HQ.condF rfl hc ?_
      clear hc
      refine HQ.skipThen ?_
      refine HQ.rseq ?_
      refine HQ.pu Pu.move ⟨rfl, trivial⟩ rfl rfl rfl ?_
      refine HQ.pu (Pu.conv ul3 ul5) ⟨rfl, trivial⟩ rfl rfl rfl ?_
      refine HQ.op [] [11] (OT.buildF (us := [.int .u8 (IntKind.u8.wrap ((List.length p0.L : Nat) : Int))]) (ys := ([(IntKind.u8.wrap ((List.length p0.L : Nat) : Int))] : (List Int))) (enc := (encI .u8)) (hl := fun _ => ⟨rfl, rfl⟩) [.tmp 18] sl27.ul sl27.szE sl27.zc rfl rfl rfl rfl rfl) ⟨rfl, trivial⟩ trivial rfl rfl rfl rfl (fun _ => rfl) fun ⟨a47, c48⟩ => ?_
      refine HQ.pu Pu.assign ⟨rfl, trivial⟩ rfl rfl rfl ?_
      refine HQ.done ?_
      refine HQ.keep [(1, _), (2, _), (4, _)] ⟨rfl, rfl, rfl, trivial⟩ ?_
      refine HQ.seq ?_
      refine HQ.rseq ?_
      refine HQ.pu (Pu.fieldB fo58_1 rfl) ⟨rfl, trivial⟩ rfl rfl rfl ?_
      refine HQ.op [1] [1] (OT.loadB sc56 rfl) ⟨rfl, trivial⟩ ⟨rfl, trivial⟩ rfl rfl rfl rfl (fun _ => rfl) fun _ => ?_
      refine HQ.pu (Pu.len ul56) ⟨rfl, trivial⟩ rfl rfl rfl ?_
      refine HQ.pu Pu.move ⟨rfl, trivial⟩ rfl rfl rfl ?_
      refine HQ.done ?_
      refine HQ.keep [(2, _), (4, _), (21, _), (22, _), (23, _)] ⟨rfl, rfl, rfl, rfl, rfl, trivial⟩ ?_
      refine HQ.block ?_
      obtain ⟨o80, h89, H⟩ := bnd H
      refine HQ.loop h89 0 (fun (s : (List Int) × Int) (g : Option Addr × Nat) => match s, g with | (l58, i61), (a59, c60) => [(2, .slice none 0 0), (4, .slice a59 (List.length l58) c60), (21, .slice a_0 (List.length p0.L) c_0), (22, .int .i64 ((List.length p0.L : Nat) : Int)), (23, .int .i64 i61)]) (fun (s : (List Int) × Int) (g : Option Addr × Nat) => match s, g with | (l58, i61), (a59, c60) => [(11, OwnS kU8 a59 c60 l58)]) (fun _ _ _ => False) (a47, c48) ⟨rfl, rfl, rfl, rfl, rfl, trivial⟩ ⟨rfl, trivial⟩ rfl ?_ ?_ ?_
      · clear H h89
        rintro ⟨l58, i61⟩ ⟨a59, c60⟩ o H
        rw [impl_PutNode_b1] at H
        refine HQ.keep [(2, _), (4, _), (21, _), (22, _), (23, _)] ⟨rfl, rfl, rfl, rfl, rfl, trivial⟩ ?_
        refine HQ.keepR [(11, _)] ⟨rfl, trivial⟩ rfl ?_
        refine HQ.rseq ?_
        refine HQ.pu Pu.lss ⟨rfl, rfl, trivial⟩ rfl rfl rfl ?_
        refine HQ.done ?_
        refine HQ.keep [(2, _), (4, _), (21, _), (22, _), (23, _), (24, _)] ⟨rfl, rfl, rfl, rfl, rfl, rfl, trivial⟩ ?_
        refine HQ.seq ?_
        rcases brk H with ⟨hc, H⟩ | ⟨hc, H⟩
        · refine HQ.condT rfl hc ?_
          clear hc
          refine HQ.skipThen ?_
          refine HQ.seq ?_
          refine HQ.block ?_
          refine HQ.rseq ?_
          obtain ⟨h71, H⟩ := asr H
          refine HQ.op [] [] (OT.indexB ul56 sz135 hb_0 h71) ⟨rfl, rfl, trivial⟩ trivial rfl rfl rfl rfl (fun _ => rfl) fun _ => ?_
          refine HQ.op [] [] (OT.loadFA (vs := [.int .i64 ((gt p0.L i61).N), .int .i64 ((gt p0.L i61).R.X0), .int .i64 ((gt p0.L i61).R.Y0), .int .i64 ((gt p0.L i61).R.X1), .int .i64 ((gt p0.L i61).R.Y1)]) ag135 sz135 hb_0 h71 rfl rfl) ⟨rfl, trivial⟩ trivial rfl rfl rfl rfl (fun _ => rfl) fun _ => ?_
          refine HQ.op [] [16] (OT.alloc zc135) trivial trivial rfl rfl rfl rfl (fun _ => rfl) fun b72 => ?_
          refine HQ.opN [16] [16] [] (OT.storeC (cs' := [.int .i64 ((gt p0.L i61).N), .int .i64 ((gt p0.L i61).R.X0), .int .i64 ((gt p0.L i61).R.Y0), .int .i64 ((gt p0.L i61).R.X1), .int .i64 ((gt p0.L i61).R.Y1)]) sz135 rfl rfl rfl rfl rfl) ⟨rfl, rfl, trivial⟩ ⟨rfl, trivial⟩ rfl rfl rfl (fun _ => rfl) fun _ => ?_
          refine HQ.done ?_
          refine HQ.keep [(2, _), (4, _), (21, _), (22, _), (23, _), (24, _), (25, _), (26, _), (6, _)] ⟨rfl, rfl, rfl, rfl, rfl, rfl, rfl, rfl, rfl, trivial⟩ ?_
          refine HQ.regionQ ?_
          refine HQ.pu Pu.move ⟨rfl, trivial⟩ rfl rfl rfl ?_
          refine HQ.op [16] [16] (OT.loadBA (vs := [.int .i64 ((gt p0.L i61).N), .int .i64 ((gt p0.L i61).R.X0), .int .i64 ((gt p0.L i61).R.Y0), .int .i64 ((gt p0.L i61).R.X1), .int .i64 ((gt p0.L i61).R.Y1)]) ag135 sz135 rfl rfl) ⟨rfl, trivial⟩ ⟨rfl, trivial⟩ rfl rfl rfl rfl (fun _ => rfl) fun _ => ?_
          obtain ⟨t73, h74, H⟩ := bnd H
          refine HQ.op [] [17] (OT.call (us := [_]) (Pre := []) [.tmp 28] Try.call102 rfl rfl fun w F hs hF hp => impl_PutEntry_c h74) ⟨rfl, rfl, trivial⟩ trivial rfl rfl rfl rfl (fun _ => rfl) fun ⟨a75, c76⟩ => ?_
          obtain ⟨h79, H⟩ := asr H
          refine HQ.op [11, 17] [11, 17] (OT.appendG (enc := (encI .u8)) (hl := fun _ => ⟨rfl, rfl⟩) sl27 ul27 h79) ⟨rfl, rfl, trivial⟩ ⟨rfl, rfl, trivial⟩ rfl rfl rfl rfl (fun _ => rfl) fun ⟨a77, c78⟩ => ?_
          refine HQ.pu Pu.assign ⟨rfl, trivial⟩ rfl rfl rfl ?_
          refine HQ.done ?_
          refine HQ.keep [(2, _), (4, _), (21, _), (22, _), (23, _), (24, _), (25, _), (26, _), (6, _), (27, _), (28, _), (29, _), (30, _)] ⟨rfl, rfl, rfl, rfl, rfl, rfl, rfl, rfl, rfl, rfl, rfl, rfl, rfl, trivial⟩ ?_
          refine HQ.blkN ?_
          refine HQ.thenN ?_
          refine HQ.regionQ ?_
          refine HQ.pu Pu.add ⟨rfl, rfl, trivial⟩ rfl rfl rfl ?_
          refine HQ.pu Pu.move ⟨rfl, trivial⟩ rfl rfl rfl ?_
          refine HQ.done ?_
          refine HQ.keep [(2, _), (4, _), (21, _), (22, _), (23, _), (24, _), (25, _), (26, _), (6, _), (27, _), (28, _), (29, _), (30, _), (31, _)] ⟨rfl, rfl, rfl, rfl, rfl, rfl, rfl, rfl, rfl, rfl, rfl, rfl, rfl, rfl, trivial⟩ ?_
          obtain rfl := Option.some.inj H
          exact HQ.next (a77, c78) ⟨rfl, rfl, rfl, rfl, rfl, trivial⟩ ⟨rfl, trivial⟩ rfl
        · refine HQ.condF rfl hc ?_
          clear hc
          refine HQ.exit ?_
          refine HQ.thenE ?_
          obtain rfl := Option.some.inj H
          exact HQ.out (a59, c60) ⟨rfl, rfl, rfl, rfl, rfl, trivial⟩ ⟨rfl, trivial⟩ rfl
      · rintro ⟨l81, i84⟩ rfl ⟨a82, c83⟩
        clear h89
        replace H := H
        refine HQ.keep [(2, _), (4, _), (21, _), (22, _), (23, _)] ⟨rfl, rfl, rfl, rfl, rfl, trivial⟩ ?_
        refine HQ.keepR [(11, _)] ⟨rfl, trivial⟩ rfl ?_
        refine HQ.blkE ?_
        refine HQ.thenN ?_
        refine HQ.rseq ?_
        refine HQ.pu Pu.move ⟨rfl, trivial⟩ rfl rfl rfl ?_
        obtain ⟨t85, h86, H⟩ := bnd H
        refine HQ.op [11] [18, 11] (OT.call (us := [_, _]) (Pre := [OwnS kU8 a82 c83 l81]) [.tmp 32, .const (.int .i64 25)] Try.call73 rfl rfl fun w F hs hF hp => impl_Pad_c (hs.lend hF 0 rfl) h86) ⟨rfl, rfl, rfl, trivial⟩ ⟨rfl, trivial⟩ rfl rfl rfl rfl (fun _ => rfl) fun ⟨a87, c88⟩ => ?_
        refine HQ.pu Pu.assign ⟨rfl, trivial⟩ rfl rfl rfl ?_
        refine HQ.done ?_
        refine HQ.keep [(2, _)] ⟨rfl, trivial⟩ ?_
        refine HQ.ret ?_
        obtain rfl := Option.some.inj H
        exact HQ.fin (vs := [_]) Try.results67 (a87, c88) ⟨rfl, trivial⟩ rfl [18] ⟨rfl, trivial⟩ rfl
      · exact fun r h a w hf => hf.elim

/-! impl.PutCell -/
theorem impl_PutCell_c {w : World} {k : Nat} {p0 : Int} {p1 : TChange} {a_0 : Option Addr} {c_0 : Nat} (hb_0 : BorS kTEntry a_0 c_0 p1.N.L w.heap (Lt w Nil)) {r : (List Int)} (H : impl_PutCell k p0 p1 = some r) :
    Calls Try.prog 37 #[.int .i64 p0, .agg #[.int .i64 p1.Page, .bool p1.N.Leaf, .slice a_0 (List.length p1.N.L) c_0]] w (Rt w Nil (fun g : Option Addr × Nat => .slice g.1 (List.length r) g.2) (fun g => [OwnS kU8 g.1 g.2 r])) := by
  rw [impl_PutCell] at H
  refine Calls.enter0 (N := 32) (us := [_, _]) Try.func37 rfl rfl rfl ?_
  refine HQ.rseq ?_
  refine HQ.op [] [1] (OT.box (cs := [.int .i64 p1.Page, .bool p1.N.Leaf, .slice a_0 (List.length p1.N.L) c_0]) rfl) ⟨rfl, trivial⟩ trivial rfl rfl rfl rfl (fun _ => rfl) fun b1 => ?_
  refine HQ.pu Pu.assign ⟨rfl, trivial⟩ rfl rfl rfl ?_
  refine HQ.done ?_
  refine HQ.keep [(0, _), (3, _), (4, _)] ⟨rfl, rfl, rfl, trivial⟩ ?_
  refine HQ.seq ?_
  refine HQ.rseq ?_
  refine HQ.pu Pu.move ⟨rfl, trivial⟩ rfl rfl rfl ?_
  obtain ⟨t2, h3, H⟩ := bnd H
  refine HQ.op [] [] (OT.call (us := [_, _, _]) (Pre := []) [.tmp 5, .const (.int .i64 0), .const (.int .i64 65535)] Try.call60 rfl rfl fun w F hs hF hp => impl_in_c h3) ⟨rfl, rfl, rfl, rfl, trivial⟩ trivial rfl rfl rfl rfl (fun _ => rfl) fun _ => ?_
  refine HQ.pu Pu.not ⟨rfl, trivial⟩ rfl rfl rfl ?_
  refine HQ.pu Pu.move ⟨rfl, trivial⟩ rfl rfl rfl ?_
  obtain ⟨c7, h8, H⟩ := bnd H
  refine HQ.cutAt 5 [(13, .bool c7), (0, .int .i64 p0), (3, BP b1 0), (4, .slice none 0 0)] [(1, Box b1 [.int .i64 p1.Page, .bool p1.N.Leaf, .slice a_0 (List.length p1.N.L) c_0])] ?_ ?_
  · clear H
    have H := h8
    rcases brk H with ⟨hg4, H⟩ | ⟨hg4, H⟩
    · obtain rfl := Option.some.inj H
      refine HQ.off rfl rfl hg4 rfl ?_
      refine HQ.off rfl rfl hg4 rfl ?_
      refine HQ.off rfl rfl hg4 rfl ?_
      refine HQ.off rfl rfl hg4 rfl ?_
      refine HQ.pu (Pu.pickC1 hg4) ⟨rfl, rfl, trivial⟩ rfl rfl rfl ?_
      exact HQ.mid ⟨rfl, rfl, rfl, rfl, trivial⟩ ⟨rfl, trivial⟩ rfl
    · refine HQ.on rfl rfl hg4 ?_
      refine HQ.pu (Pu.fieldB fo73_0 rfl) ⟨rfl, trivial⟩ rfl rfl rfl ?_
      refine HQ.on rfl rfl hg4 ?_
      refine HQ.op [1] [1] (OT.loadB sc3 rfl) ⟨rfl, trivial⟩ ⟨rfl, trivial⟩ rfl rfl rfl rfl (fun _ => rfl) fun _ => ?_
      refine HQ.on rfl rfl hg4 ?_
      obtain ⟨t5, h6, H⟩ := bnd H
      refine HQ.op [] [] (OT.call (us := [_, _, _]) (Pre := []) [.tmp 10, .const (.int .i64 0), .const (.int .i64 47)] Try.call60 rfl rfl fun w F hs hF hp => impl_in_c h6) ⟨rfl, rfl, rfl, rfl, trivial⟩ trivial rfl rfl rfl rfl (fun _ => rfl) fun _ => ?_
      refine HQ.on rfl rfl hg4 ?_
      refine HQ.pu Pu.not ⟨rfl, trivial⟩ rfl rfl rfl ?_
      obtain rfl := Option.some.inj H
      refine HQ.pu (Pu.pickC0 hg4) ⟨rfl, rfl, trivial⟩ rfl rfl rfl ?_
      exact HQ.mid ⟨rfl, rfl, rfl, rfl, trivial⟩ ⟨rfl, trivial⟩ rfl
  refine HQ.pu Pu.move ⟨rfl, trivial⟩ rfl rfl rfl ?_
  obtain ⟨c12, h13, H⟩ := bnd H
  refine HQ.cutAt 5 [(19, .bool c12), (0, .int .i64 p0), (3, BP b1 0), (4, .slice none 0 0)] [(1, Box b1 [.int .i64 p1.Page, .bool p1.N.Leaf, .slice a_0 (List.length p1.N.L) c_0])] ?_ ?_
  · clear H
    have H := h13
    rcases brk H with ⟨hg9, H⟩ | ⟨hg9, H⟩
    · obtain rfl := Option.some.inj H
      refine HQ.off rfl rfl hg9 rfl ?_
      refine HQ.off rfl rfl hg9 rfl ?_
      refine HQ.off rfl rfl hg9 rfl ?_
      refine HQ.off rfl rfl hg9 rfl ?_
      refine HQ.pu (Pu.pickC1 hg9) ⟨rfl, rfl, trivial⟩ rfl rfl rfl ?_
      exact HQ.mid ⟨rfl, rfl, rfl, rfl, trivial⟩ ⟨rfl, trivial⟩ rfl
    · refine HQ.on rfl rfl hg9 ?_
      refine HQ.pu (Pu.fieldB fo73_1 rfl) ⟨rfl, trivial⟩ rfl rfl rfl ?_
      refine HQ.on rfl rfl hg9 ?_
      refine HQ.op [1] [1] (OT.loadBA (vs := [.bool p1.N.Leaf, .slice a_0 (List.length p1.N.L) c_0]) ag58 sz58 rfl rfl) ⟨rfl, trivial⟩ ⟨rfl, trivial⟩ rfl rfl rfl rfl (fun _ => rfl) fun _ => ?_
      refine HQ.on rfl rfl hg9 ?_
      obtain ⟨t10, h11, H⟩ := bnd H
      refine HQ.op [] [] (OT.call (us := [_]) (Pre := []) [.tmp 16] Try.call61 rfl rfl fun w F hs hF hp => impl_NodeOk_c (hb_0.pass hp) h11) ⟨rfl, rfl, trivial⟩ trivial rfl rfl rfl rfl (fun _ => rfl) fun _ => ?_
      refine HQ.on rfl rfl hg9 ?_
      refine HQ.pu Pu.not ⟨rfl, trivial⟩ rfl rfl rfl ?_
      obtain rfl := Option.some.inj H
      refine HQ.pu (Pu.pickC0 hg9) ⟨rfl, rfl, trivial⟩ rfl rfl rfl ?_
      exact HQ.mid ⟨rfl, rfl, rfl, rfl, trivial⟩ ⟨rfl, trivial⟩ rfl
  refine HQ.done ?_
  refine HQ.keep [(19, _), (0, _), (3, _), (4, _)] ⟨rfl, rfl, rfl, rfl, trivial⟩ ?_
  rcases brk H with ⟨hc, H⟩ | ⟨hc, H⟩
  · refine HQ.condT rfl hc ?_
    clear hc
    refine HQ.rseq ?_
    refine HQ.pu Pu.assign ⟨rfl, trivial⟩ rfl rfl rfl ?_
    refine HQ.done ?_
    refine HQ.keep [(0, _), (3, _), (4, _)] ⟨rfl, rfl, rfl, trivial⟩ ?_
    refine HQ.ret ?_
    refine HQ.thenR ?_
    obtain rfl := Option.some.inj H
    refine HQ.nil kU8 2 rfl ?_
    exact HQ.fin (vs := [_]) Try.results37 (none, 0) ⟨rfl, trivial⟩ rfl [2] ⟨rfl, trivial⟩ rfl
  · refine HQ.condF rfl hc ?_
    clear hc
    refine HQ.skipThen ?_
    obtain ⟨t17, h18, H⟩ := bnd H
    obtain ⟨h25, H⟩ := asr H
    refine HQ.drawS mixd [(0, .int .i64 p0), (3, BP b1 0), (4, .slice none 0 0)] 10 [⟨[], [0], []⟩, ⟨[], [], []⟩, ⟨[0], [1, 0], [0, 1]⟩, ⟨[], [], []⟩, ⟨[2], [2], [3]⟩, ⟨[], [], [4]⟩, ⟨[], [3], [5]⟩, ⟨[1, 3], [4, 3], [2, 6]⟩, ⟨[], [], []⟩, ⟨[2], [2], [8]⟩] [⟨some 0, none⟩, ⟨some 2, some 7⟩, ⟨none, none⟩, ⟨some 6, none⟩, ⟨some 7, none⟩] (fun (g14 : (Option Addr × Nat) × (Option Addr × Nat) × (Option Addr × Nat) × (Option Addr × Nat)) => [.slice g14.1.1 (List.length ([1] : (List Int))) g14.1.2, .int .i64 p0, .slice g14.2.1.1 (List.length t17) g14.2.1.2, BP b1 0, .int .i64 p1.Page, .int .u8 (IntKind.u8.wrap p1.Page), .slice g14.2.2.1.1 (List.length ([(IntKind.u8.wrap p1.Page)] : (List Int))) g14.2.2.1.2, .slice g14.2.2.2.1 (List.length (t17 ++ ([(IntKind.u8.wrap p1.Page)] : (List Int)))) g14.2.2.2.2, BP b1 1, .agg #[.bool p1.N.Leaf, .slice a_0 (List.length p1.N.L) c_0]]) (fun (g14 : (Option Addr × Nat) × (Option Addr × Nat) × (Option Addr × Nat) × (Option Addr × Nat)) => [OwnS kU8 g14.1.1 g14.1.2 ([1] : (List Int)), OwnS kU8 g14.2.1.1 g14.2.1.2 t17, Box b1 [.int .i64 p1.Page, .bool p1.N.Leaf, .slice a_0 (List.length p1.N.L) c_0], OwnS kU8 g14.2.2.1.1 g14.2.2.1.2 ([(IntKind.u8.wrap p1.Page)] : (List Int)), OwnS kU8 g14.2.2.2.1 g14.2.2.2.2 (t17 ++ ([(IntKind.u8.wrap p1.Page)] : (List Int)))]) ((none, 0), (none, 0), (none, 0), (none, 0)) [1] [3, 1, 5, 4] [] ⟨rfl, rfl, rfl, trivial⟩ ⟨rfl, trivial⟩ rfl (by kernel_rfl) (fun _ => rfl) (by kernel_rfl) (fun _ => rfl) ⟨?_, ?_, ?_, ?_, ?_, ?_, ?_, ?_, ?_, ?_, trivial⟩ fun g14 => ?_
    · exact OpOK.of (fun g14 => [(.const (.int .u8 1), .int .u8 1)]) _ _ (fun g14 x => (x, g14.2.1, g14.2.2.1, g14.2.2.2)) rfl rfl (fun _ => ⟨rfl, trivial⟩) (fun g14 => OT.buildF (us := [.int .u8 1]) (ys := ([1] : (List Int))) (enc := (encI .u8)) (hl := fun _ => ⟨rfl, rfl⟩) [.const (.int .u8 1)] sl27.ul sl27.szE sl27.zc rfl rfl rfl rfl rfl) (fun _ _ => ⟨rfl, rfl, ⟨rfl, rfl, rfl, rfl, rfl, trivial⟩⟩)
    · exact OpOK.of (fun g14 => [(.tmp 0, .int .i64 p0)]) _ _ (fun g14 _ => g14) rfl rfl (fun _ => ⟨rfl, trivial⟩) (fun g14 => Pu.toOT Pu.move) (fun _ _ => ⟨rfl, rfl, ⟨rfl, rfl, rfl, rfl, rfl, trivial⟩⟩)
    · exact OpOK.of (fun g14 => [(.func 78, .func (.func 78) #[] #[]), (.tmp 20, .slice g14.1.1 (List.length ([1] : (List Int))) g14.1.2), (.tmp 21, .int .i64 p0)]) _ _ (fun g14 x => (g14.1, x, g14.2.2.1, g14.2.2.2)) rfl rfl (fun _ => ⟨rfl, rfl, rfl, trivial⟩) (fun g14 => OT.call (us := [_, _]) (Pre := [OwnS kU8 g14.1.1 g14.1.2 ([1] : (List Int))]) [.tmp 20, .tmp 21] Try.call78 rfl rfl fun w F hs hF hp => impl_Put2_c (hs.lend hF 0 rfl) h18) (fun _ _ => ⟨rfl, rfl, ⟨rfl, rfl, rfl, rfl, rfl, trivial⟩⟩)
    · exact OpOK.of (fun g14 => [(.tmp 3, BP b1 0)]) _ _ (fun g14 _ => g14) rfl rfl (fun _ => ⟨rfl, trivial⟩) (fun g14 => Pu.toOT (Pu.fieldB fo73_0 rfl)) (fun _ _ => ⟨rfl, rfl, ⟨rfl, rfl, rfl, rfl, rfl, trivial⟩⟩)
    · exact OpOK.of (fun g14 => [(.tmp 23, BP b1 0)]) _ _ (fun g14 _ => g14) rfl rfl (fun _ => ⟨rfl, trivial⟩) (fun g14 => OT.loadB sc3 rfl) (fun _ _ => ⟨rfl, rfl, ⟨rfl, rfl, rfl, rfl, rfl, trivial⟩⟩)
    · exact OpOK.of (fun g14 => [(.tmp 24, .int .i64 p1.Page)]) _ _ (fun g14 _ => g14) rfl rfl (fun _ => ⟨rfl, trivial⟩) (fun g14 => Pu.toOT (Pu.conv ul3 ul5)) (fun _ _ => ⟨rfl, rfl, ⟨rfl, rfl, rfl, rfl, rfl, trivial⟩⟩)
    · exact OpOK.of (fun g14 => [(.tmp 25, .int .u8 (IntKind.u8.wrap p1.Page))]) _ _ (fun g14 x => (g14.1, g14.2.1, x, g14.2.2.2)) rfl rfl (fun _ => ⟨rfl, trivial⟩) (fun g14 => OT.buildF (us := [.int .u8 (IntKind.u8.wrap p1.Page)]) (ys := ([(IntKind.u8.wrap p1.Page)] : (List Int))) (enc := (encI .u8)) (hl := fun _ => ⟨rfl, rfl⟩) [.tmp 25] sl27.ul sl27.szE sl27.zc rfl rfl rfl rfl rfl) (fun _ _ => ⟨rfl, rfl, ⟨rfl, rfl, rfl, rfl, rfl, trivial⟩⟩)
    · exact OpOK.of (fun g14 => [(.tmp 22, .slice g14.2.1.1 (List.length t17) g14.2.1.2), (.tmp 26, .slice g14.2.2.1.1 (List.length ([(IntKind.u8.wrap p1.Page)] : (List Int))) g14.2.2.1.2)]) _ _ (fun g14 x => (g14.1, g14.2.1, g14.2.2.1, x)) rfl rfl (fun _ => ⟨rfl, rfl, trivial⟩) (fun g14 => OT.appendG (enc := (encI .u8)) (hl := fun _ => ⟨rfl, rfl⟩) sl27 ul27 h25) (fun _ _ => ⟨rfl, rfl, ⟨rfl, rfl, rfl, rfl, rfl, trivial⟩⟩)
    · exact OpOK.of (fun g14 => [(.tmp 3, BP b1 0)]) _ _ (fun g14 _ => g14) rfl rfl (fun _ => ⟨rfl, trivial⟩) (fun g14 => Pu.toOT (Pu.fieldB fo73_1 rfl)) (fun _ _ => ⟨rfl, rfl, ⟨rfl, rfl, rfl, rfl, rfl, trivial⟩⟩)
    · exact OpOK.of (fun g14 => [(.tmp 28, BP b1 1)]) _ _ (fun g14 _ => g14) rfl rfl (fun _ => ⟨rfl, trivial⟩) (fun g14 => OT.loadBA (vs := [.bool p1.N.Leaf, .slice a_0 (List.length p1.N.L) c_0]) ag58 sz58 rfl rfl) (fun _ _ => ⟨rfl, rfl, ⟨rfl, rfl, rfl, rfl, rfl, trivial⟩⟩)
    refine HQ.keep [(4, _), (27, _), (29, _)] ⟨rfl, rfl, rfl, trivial⟩ ?_
    refine HQ.keepR [(1, _), (3, _), (5, _), (4, _)] ⟨rfl, rfl, rfl, rfl, trivial⟩ rfl ?_
    obtain ⟨t26, h27, H⟩ := bnd H
    refine HQ.op [] [6] (OT.call (us := [_]) (Pre := []) [.tmp 29] Try.call67 rfl rfl fun w F hs hF hp => impl_PutNode_c (hb_0.pass hp) h27) ⟨rfl, rfl, trivial⟩ trivial rfl rfl rfl rfl (fun _ => rfl) fun ⟨a28, c29⟩ => ?_
    obtain ⟨h32, H⟩ := asr H
    refine HQ.op [4, 6] [4, 6] (OT.appendG (enc := (encI .u8)) (hl := fun _ => ⟨rfl, rfl⟩) sl27 ul27 h32) ⟨rfl, rfl, trivial⟩ ⟨rfl, rfl, trivial⟩ rfl rfl rfl rfl (fun _ => rfl) fun ⟨a30, c31⟩ => ?_
    refine HQ.pu Pu.assign ⟨rfl, trivial⟩ rfl rfl rfl ?_
    refine HQ.done ?_
    refine HQ.keep [(4, _)] ⟨rfl, trivial⟩ ?_
    refine HQ.ret ?_
    obtain rfl := Option.some.inj H
    exact HQ.fin (vs := [_]) Try.results37 (a30, c31) ⟨rfl, trivial⟩ rfl [4] ⟨rfl, trivial⟩ rfl

/-! laws.eqByteS -/
theorem laws_eqByteS_c {w : World} {k : Nat} {p0 : (List Int)} {p1 : (List Int)} {a_0 : Option Addr} {c_0 : Nat} {a_1 : Option Addr} {c_1 : Nat} (hb_0 : BorS kU8 a_0 c_0 p0 w.heap (Lt w Nil)) (hb_1 : BorS kU8 a_1 c_1 p1 w.heap (Lt w Nil)) {r : Bool} (H : laws_eqByteS k p0 p1 = some r) :
    Calls Try.prog 13 #[.slice a_0 (List.length p0) c_0, .slice a_1 (List.length p1) c_1] w (Rt w Nil (fun _ : Unit => .bool r) (fun _ => [])) := by
  rw [laws_eqByteS] at H
  refine Calls.enter0 (N := 26) (us := [_, _]) Try.func13 rfl rfl rfl ?_
  refine HQ.rseq ?_
  refine HQ.pu Pu.assign ⟨rfl, trivial⟩ rfl rfl rfl ?_
  refine HQ.done ?_
  refine HQ.keep [(0, _), (1, _), (4, _)] ⟨rfl, rfl, rfl, trivial⟩ ?_
  refine HQ.seq ?_
  refine HQ.rseq ?_
  refine HQ.pu Pu.move ⟨rfl, trivial⟩ rfl rfl rfl ?_
  refine HQ.pu (Pu.len ul27) ⟨rfl, trivial⟩ rfl rfl rfl ?_
  refine HQ.pu Pu.move ⟨rfl, trivial⟩ rfl rfl rfl ?_
  refine HQ.pu (Pu.len ul27) ⟨rfl, trivial⟩ rfl rfl rfl ?_
  refine HQ.pu Pu.neq ⟨rfl, rfl, trivial⟩ rfl rfl rfl ?_
  refine HQ.done ?_
  refine HQ.keep [(0, _), (1, _), (4, _), (10, _)] ⟨rfl, rfl, rfl, rfl, trivial⟩ ?_
  rcases brk H with ⟨hc, H⟩ | ⟨hc, H⟩
  · refine HQ.condT rfl hc ?_
    clear hc
    refine HQ.rseq ?_
    refine HQ.pu Pu.assign ⟨rfl, trivial⟩ rfl rfl rfl ?_
    refine HQ.done ?_
    refine HQ.keep [(0, _), (1, _), (4, _)] ⟨rfl, rfl, rfl, trivial⟩ ?_
    refine HQ.ret ?_
    refine HQ.thenR ?_
    obtain rfl := Option.some.inj H
    exact HQ.fin (vs := [_]) Try.results13 () ⟨rfl, trivial⟩ rfl [] trivial rfl
  · refine HQ.condF rfl hc ?_
    clear hc
    refine HQ.skipThen ?_
    refine HQ.seq ?_
    refine HQ.rseq ?_
    refine HQ.pu Pu.assign ⟨rfl, trivial⟩ rfl rfl rfl ?_
    refine HQ.done ?_
    refine HQ.keep [(0, _), (1, _), (4, _), (5, _)] ⟨rfl, rfl, rfl, rfl, trivial⟩ ?_
    refine HQ.block ?_
    obtain ⟨o11, h13, H⟩ := bnd H
    refine HQ.loop h13 0 (fun (s : Int) (g : Unit) => match s, g with | i4, () => [(0, .slice a_0 (List.length p0) c_0), (1, .slice a_1 (List.length p1) c_1), (4, .bool false), (5, .int .i64 i4)]) (fun (s : Int) (g : Unit) => match s, g with | i4, () => []) (fun r => bodyPost Try.prog Try.f13 (Rt w Nil (fun _ : Unit => .bool r) (fun _ => [])) .ret) () ⟨rfl, rfl, rfl, rfl, trivial⟩ trivial rfl ?_ ?_ ?_
    · clear H h13
      rintro i4 _ o H
      rw [laws_eqByteS_b0] at H
      refine HQ.keep [(0, _), (1, _), (4, _), (5, _)] ⟨rfl, rfl, rfl, rfl, trivial⟩ ?_
      refine HQ.keepR [] trivial rfl ?_
      refine HQ.seq ?_
      refine HQ.rseq ?_
      refine HQ.pu Pu.move ⟨rfl, trivial⟩ rfl rfl rfl ?_
      refine HQ.pu Pu.move ⟨rfl, trivial⟩ rfl rfl rfl ?_
      refine HQ.pu (Pu.len ul27) ⟨rfl, trivial⟩ rfl rfl rfl ?_
      refine HQ.pu Pu.lss ⟨rfl, rfl, trivial⟩ rfl rfl rfl ?_
      refine HQ.done ?_
      refine HQ.keep [(0, _), (1, _), (4, _), (5, _), (11, _), (12, _), (13, _), (14, _)] ⟨rfl, rfl, rfl, rfl, rfl, rfl, rfl, rfl, trivial⟩ ?_
      rcases brk H with ⟨hc, H⟩ | ⟨hc, H⟩
      · refine HQ.condT rfl hc ?_
        clear hc
        refine HQ.skipThen ?_
        refine HQ.seq ?_
        refine HQ.block ?_
        obtain ⟨h9, H⟩ := asr H
        obtain ⟨h10, H⟩ := asr H
        refine HQ.drawS mixd [(0, .slice a_0 (List.length p0) c_0), (1, .slice a_1 (List.length p1) c_1), (4, .bool false), (5, .int .i64 i4), (11, .int .i64 i4), (12, .slice a_0 (List.length p0) c_0), (13, .int .i64 ((List.length p0 : Nat) : Int)), (14, .bool (decide (i4 < ((List.length p0 : Nat) : Int))))] 8 [⟨[], [], []⟩, ⟨[], [], []⟩, ⟨[], [], [0, 1]⟩, ⟨[], [], [2]⟩, ⟨[], [], []⟩, ⟨[], [], []⟩, ⟨[], [], [4, 5]⟩, ⟨[], [], [6]⟩] [] (fun (g8 : Unit) => [.slice a_0 (List.length p0) c_0, .int .i64 i4, EP a_0 i4 1 0, .int .u8 (gt p0 i4), .slice a_1 (List.length p1) c_1, .int .i64 i4, EP a_1 i4 1 0, .int .u8 (gt p1 i4)]) (fun (g8 : Unit) => []) () [] [] [] ⟨rfl, rfl, rfl, rfl, rfl, rfl, rfl, rfl, trivial⟩ trivial rfl (by kernel_rfl) (fun _ => rfl) (by kernel_rfl) (fun _ => rfl) ⟨?_, ?_, ?_, ?_, ?_, ?_, ?_, ?_, trivial⟩ fun g8 => ?_
        · exact OpOK.of (fun g8 => [(.tmp 0, .slice a_0 (List.length p0) c_0)]) _ _ (fun g8 _ => g8) rfl rfl (fun _ => ⟨rfl, trivial⟩) (fun g8 => Pu.toOT Pu.move) (fun _ _ => ⟨rfl, rfl, trivial⟩)
        · exact OpOK.of (fun g8 => [(.tmp 5, .int .i64 i4)]) _ _ (fun g8 _ => g8) rfl rfl (fun _ => ⟨rfl, trivial⟩) (fun g8 => Pu.toOT Pu.move) (fun _ _ => ⟨rfl, rfl, trivial⟩)
        · exact OpOK.of (fun g8 => [(.tmp 17, .slice a_0 (List.length p0) c_0), (.tmp 18, .int .i64 i4)]) _ _ (fun g8 _ => g8) rfl rfl (fun _ => ⟨rfl, rfl, trivial⟩) (fun g8 => OT.indexB ul27 sz5 hb_0 h9) (fun _ _ => ⟨rfl, rfl, trivial⟩)
        · exact OpOK.of (fun g8 => [(.tmp 19, EP a_0 i4 1 0)]) _ _ (fun g8 _ => g8) rfl rfl (fun _ => ⟨rfl, trivial⟩) (fun g8 => OT.loadF sc5 hb_0 h9 rfl) (fun _ _ => ⟨rfl, rfl, trivial⟩)
        · exact OpOK.of (fun g8 => [(.tmp 1, .slice a_1 (List.length p1) c_1)]) _ _ (fun g8 _ => g8) rfl rfl (fun _ => ⟨rfl, trivial⟩) (fun g8 => Pu.toOT Pu.move) (fun _ _ => ⟨rfl, rfl, trivial⟩)
        · exact OpOK.of (fun g8 => [(.tmp 5, .int .i64 i4)]) _ _ (fun g8 _ => g8) rfl rfl (fun _ => ⟨rfl, trivial⟩) (fun g8 => Pu.toOT Pu.move) (fun _ _ => ⟨rfl, rfl, trivial⟩)
        · exact OpOK.of (fun g8 => [(.tmp 21, .slice a_1 (List.length p1) c_1), (.tmp 22, .int .i64 i4)]) _ _ (fun g8 _ => g8) rfl rfl (fun _ => ⟨rfl, rfl, trivial⟩) (fun g8 => OT.indexB ul27 sz5 hb_1 h10) (fun _ _ => ⟨rfl, rfl, trivial⟩)
        · exact OpOK.of (fun g8 => [(.tmp 23, EP a_1 i4 1 0)]) _ _ (fun g8 _ => g8) rfl rfl (fun _ => ⟨rfl, trivial⟩) (fun g8 => OT.loadF sc5 hb_1 h10 rfl) (fun _ _ => ⟨rfl, rfl, trivial⟩)
        refine HQ.keep [(0, _), (1, _), (4, _), (5, _), (11, _), (12, _), (13, _), (14, _), (17, _), (18, _), (19, _), (20, _), (21, _), (22, _), (23, _), (24, _)] ⟨rfl, rfl, rfl, rfl, rfl, rfl, rfl, rfl, rfl, rfl, rfl, rfl, rfl, rfl, rfl, rfl, trivial⟩ ?_
        refine HQ.keepR [] trivial rfl ?_
        refine HQ.pu Pu.neq ⟨rfl, rfl, trivial⟩ rfl rfl rfl ?_
        refine HQ.done ?_
        refine HQ.keep [(0, _), (1, _), (4, _), (5, _), (11, _), (12, _), (13, _), (14, _), (17, _), (18, _), (19, _), (20, _), (21, _), (22, _), (23, _), (24, _), (25, _)] ⟨rfl, rfl, rfl, rfl, rfl, rfl, rfl, rfl, rfl, rfl, rfl, rfl, rfl, rfl, rfl, rfl, rfl, trivial⟩ ?_
        rcases brk H with ⟨hc, H⟩ | ⟨hc, H⟩
        · refine HQ.condT rfl hc ?_
          clear hc
          refine HQ.rseq ?_
          refine HQ.pu Pu.assign ⟨rfl, trivial⟩ rfl rfl rfl ?_
          refine HQ.done ?_
          refine HQ.keep [(0, _), (1, _), (4, _), (5, _), (11, _), (12, _), (13, _), (14, _), (17, _), (18, _), (19, _), (20, _), (21, _), (22, _), (23, _), (24, _), (25, _)] ⟨rfl, rfl, rfl, rfl, rfl, rfl, rfl, rfl, rfl, rfl, rfl, rfl, rfl, rfl, rfl, rfl, rfl, trivial⟩ ?_
          refine HQ.ret ?_
          refine HQ.blkR ?_
          refine HQ.thenR ?_
          obtain rfl := Option.some.inj H
          refine HQ.retL ?_
          exact HQ.fin (vs := [_]) Try.results13 () ⟨rfl, trivial⟩ rfl [] trivial rfl
        · refine HQ.condF rfl hc ?_
          clear hc
          refine HQ.skip ?_
          refine HQ.blkN ?_
          refine HQ.thenN ?_
          refine HQ.regionQ ?_
          refine HQ.pu Pu.move ⟨rfl, trivial⟩ rfl rfl rfl ?_
          refine HQ.pu Pu.add ⟨rfl, rfl, trivial⟩ rfl rfl rfl ?_
          refine HQ.pu Pu.assign ⟨rfl, trivial⟩ rfl rfl rfl ?_
          refine HQ.done ?_
          refine HQ.keep [(0, _), (1, _), (4, _), (5, _), (11, _), (12, _), (13, _), (14, _), (17, _), (18, _), (19, _), (20, _), (21, _), (22, _), (23, _), (24, _), (25, _), (15, _), (16, _)] ⟨rfl, rfl, rfl, rfl, rfl, rfl, rfl, rfl, rfl, rfl, rfl, rfl, rfl, rfl, rfl, rfl, rfl, rfl, rfl, trivial⟩ ?_
          obtain rfl := Option.some.inj H
          exact HQ.next () ⟨rfl, rfl, rfl, rfl, trivial⟩ trivial rfl
      · refine HQ.condF rfl hc ?_
        clear hc
        refine HQ.exit ?_
        refine HQ.thenE ?_
        obtain rfl := Option.some.inj H
        exact HQ.out () ⟨rfl, rfl, rfl, rfl, trivial⟩ trivial rfl
    · rintro i12 rfl _
      clear h13
      replace H := H
      refine HQ.keep [(0, _), (1, _), (4, _), (5, _)] ⟨rfl, rfl, rfl, rfl, trivial⟩ ?_
      refine HQ.keepR [] trivial rfl ?_
      refine HQ.blkE ?_
      refine HQ.thenN ?_
      refine HQ.rseq ?_
      refine HQ.pu Pu.assign ⟨rfl, trivial⟩ rfl rfl rfl ?_
      refine HQ.done ?_
      refine HQ.keep [(4, _)] ⟨rfl, trivial⟩ ?_
      refine HQ.ret ?_
      obtain rfl := Option.some.inj H
      exact HQ.fin (vs := [_]) Try.results13 () ⟨rfl, trivial⟩ rfl [] trivial rfl
    · rintro r rfl a w hr
      obtain rfl := Option.some.inj H
      exact hr

/-! laws.eqBox -/
theorem laws_eqBox_c {w : World} {p0 : TBox} {p1 : TBox}   {r : Bool} (H : laws_eqBox p0 p1 = some r) :
    Calls Try.prog 114 #[.agg #[.int .i64 p0.X0, .int .i64 p0.Y0, .int .i64 p0.X1, .int .i64 p0.Y1], .agg #[.int .i64 p1.X0, .int .i64 p1.Y0, .int .i64 p1.X1, .int .i64 p1.Y1]] w (Rt w Nil (fun _ : Unit => .bool r) (fun _ => [])) := by
  rw [laws_eqBox] at H
  refine Calls.enter0 (N := 25) (us := [_, _]) Try.func114 rfl rfl rfl ?_
  refine HQ.rseq ?_
  refine HQ.op [] [1] (OT.box (cs := [.int .i64 p0.X0, .int .i64 p0.Y0, .int .i64 p0.X1, .int .i64 p0.Y1]) rfl) ⟨rfl, trivial⟩ trivial rfl rfl rfl rfl (fun _ => rfl) fun b1 => ?_
  refine HQ.op [] [2] (OT.box (cs := [.int .i64 p1.X0, .int .i64 p1.Y0, .int .i64 p1.X1, .int .i64 p1.Y1]) rfl) ⟨rfl, trivial⟩ trivial rfl rfl rfl rfl (fun _ => rfl) fun b2 => ?_
  refine HQ.pu Pu.assign ⟨rfl, trivial⟩ rfl rfl rfl ?_
  refine HQ.done ?_
  refine HQ.keep [(2, _), (3, _), (4, _)] ⟨rfl, rfl, rfl, trivial⟩ ?_
  refine HQ.seq ?_
  refine HQ.rseq ?_
  refine HQ.pu (Pu.fieldB fo133_0 rfl) ⟨rfl, trivial⟩ rfl rfl rfl ?_
  refine HQ.op [1] [1] (OT.loadB sc3 rfl) ⟨rfl, trivial⟩ ⟨rfl, trivial⟩ rfl rfl rfl rfl (fun _ => rfl) fun _ => ?_
  refine HQ.pu (Pu.fieldB fo133_0 rfl) ⟨rfl, trivial⟩ rfl rfl rfl ?_
  refine HQ.op [2] [2] (OT.loadB sc3 rfl) ⟨rfl, trivial⟩ ⟨rfl, trivial⟩ rfl rfl rfl rfl (fun _ => rfl) fun _ => ?_
  refine HQ.pu Pu.neq ⟨rfl, rfl, trivial⟩ rfl rfl rfl ?_
  refine HQ.done ?_
  refine HQ.keep [(2, _), (3, _), (4, _), (9, _)] ⟨rfl, rfl, rfl, rfl, trivial⟩ ?_
  rcases brk H with ⟨hc, H⟩ | ⟨hc, H⟩
  · refine HQ.condT rfl hc ?_
    clear hc
    refine HQ.rseq ?_
    refine HQ.pu Pu.assign ⟨rfl, trivial⟩ rfl rfl rfl ?_
    refine HQ.done ?_
    refine HQ.keep [(2, _), (3, _), (4, _)] ⟨rfl, rfl, rfl, trivial⟩ ?_
    refine HQ.ret ?_
    refine HQ.thenR ?_
    obtain rfl := Option.some.inj H
    exact HQ.fin (vs := [_]) Try.results114 () ⟨rfl, trivial⟩ rfl [] trivial rfl
  · refine HQ.condF rfl hc ?_
    clear hc
    refine HQ.skipThen ?_
    refine HQ.seq ?_
    refine HQ.rseq ?_
    refine HQ.pu (Pu.fieldB fo133_1 rfl) ⟨rfl, trivial⟩ rfl rfl rfl ?_
    refine HQ.op [1] [1] (OT.loadB sc3 rfl) ⟨rfl, trivial⟩ ⟨rfl, trivial⟩ rfl rfl rfl rfl (fun _ => rfl) fun _ => ?_
    refine HQ.pu (Pu.fieldB fo133_1 rfl) ⟨rfl, trivial⟩ rfl rfl rfl ?_
    refine HQ.op [2] [2] (OT.loadB sc3 rfl) ⟨rfl, trivial⟩ ⟨rfl, trivial⟩ rfl rfl rfl rfl (fun _ => rfl) fun _ => ?_
    refine HQ.pu Pu.neq ⟨rfl, rfl, trivial⟩ rfl rfl rfl ?_
    refine HQ.done ?_
    refine HQ.keep [(2, _), (3, _), (4, _), (14, _)] ⟨rfl, rfl, rfl, rfl, trivial⟩ ?_
    rcases brk H with ⟨hc, H⟩ | ⟨hc, H⟩
    · refine HQ.condT rfl hc ?_
      clear hc
      refine HQ.rseq ?_
      refine HQ.pu Pu.assign ⟨rfl, trivial⟩ rfl rfl rfl ?_
      refine HQ.done ?_
      refine HQ.keep [(2, _), (3, _), (4, _)] ⟨rfl, rfl, rfl, trivial⟩ ?_
      refine HQ.ret ?_
      refine HQ.thenR ?_
      obtain rfl := Option.some.inj H
      exact HQ.fin (vs := [_]) Try.results114 () ⟨rfl, trivial⟩ rfl [] trivial rfl
    · refine HQ.condF rfl hc ?_
      clear hc
      refine HQ.skipThen ?_
      refine HQ.seq ?_
      refine HQ.rseq ?_
      refine HQ.pu (Pu.fieldB fo133_2 rfl) ⟨rfl, trivial⟩ rfl rfl rfl ?_
      refine HQ.op [1] [1] (OT.loadB sc3 rfl) ⟨rfl, trivial⟩ ⟨rfl, trivial⟩ rfl rfl rfl rfl (fun _ => rfl) fun _ => ?_
      refine HQ.pu (Pu.fieldB fo133_2 rfl) ⟨rfl, trivial⟩ rfl rfl rfl ?_
      refine HQ.op [2] [2] (OT.loadB sc3 rfl) ⟨rfl, trivial⟩ ⟨rfl, trivial⟩ rfl rfl rfl rfl (fun _ => rfl) fun _ => ?_
      refine HQ.pu Pu.neq ⟨rfl, rfl, trivial⟩ rfl rfl rfl ?_
      refine HQ.done ?_
      refine HQ.keep [(2, _), (3, _), (4, _), (19, _)] ⟨rfl, rfl, rfl, rfl, trivial⟩ ?_
      rcases brk H with ⟨hc, H⟩ | ⟨hc, H⟩
      · refine HQ.condT rfl hc ?_
        clear hc
        refine HQ.rseq ?_
        refine HQ.pu Pu.assign ⟨rfl, trivial⟩ rfl rfl rfl ?_
        refine HQ.done ?_
        refine HQ.keep [(2, _), (3, _), (4, _)] ⟨rfl, rfl, rfl, trivial⟩ ?_
        refine HQ.ret ?_
        refine HQ.thenR ?_
        obtain rfl := Option.some.inj H
        exact HQ.fin (vs := [_]) Try.results114 () ⟨rfl, trivial⟩ rfl [] trivial rfl
      · refine HQ.condF rfl hc ?_
        clear hc
        refine HQ.skipThen ?_
        refine HQ.seq ?_
        refine HQ.rseq ?_
        refine HQ.pu (Pu.fieldB fo133_3 rfl) ⟨rfl, trivial⟩ rfl rfl rfl ?_
        refine HQ.op [1] [1] (OT.loadB sc3 rfl) ⟨rfl, trivial⟩ ⟨rfl, trivial⟩ rfl rfl rfl rfl (fun _ => rfl) fun _ => ?_
        refine HQ.pu (Pu.fieldB fo133_3 rfl) ⟨rfl, trivial⟩ rfl rfl rfl ?_
        refine HQ.op [2] [2] (OT.loadB sc3 rfl) ⟨rfl, trivial⟩ ⟨rfl, trivial⟩ rfl rfl rfl rfl (fun _ => rfl) fun _ => ?_
        refine HQ.pu Pu.neq ⟨rfl, rfl, trivial⟩ rfl rfl rfl ?_
        refine HQ.done ?_
        refine HQ.keep [(4, _), (24, _)] ⟨rfl, rfl, trivial⟩ ?_
        rcases brk H with ⟨hc, H⟩ | ⟨hc, H⟩
        · refine HQ.condT rfl hc ?_
          clear hc
          refine HQ.rseq ?_
          refine HQ.pu Pu.assign ⟨rfl, trivial⟩ rfl rfl rfl ?_
          refine HQ.done ?_
          refine HQ.keep [(4, _)] ⟨rfl, trivial⟩ ?_
          refine HQ.ret ?_
          refine HQ.thenR ?_
          obtain rfl := Option.some.inj H
          exact HQ.fin (vs := [_]) Try.results114 () ⟨rfl, trivial⟩ rfl [] trivial rfl
        · refine HQ.condF rfl hc ?_
          clear hc
          refine HQ.skipThen ?_
          refine HQ.rseq ?_
          refine HQ.pu Pu.assign ⟨rfl, trivial⟩ rfl rfl rfl ?_
          refine HQ.done ?_
          refine HQ.keep [(4, _)] ⟨rfl, trivial⟩ ?_
          refine HQ.ret ?_
          obtain rfl := Option.some.inj H
          exact HQ.fin (vs := [_]) Try.results114 () ⟨rfl, trivial⟩ rfl [] trivial rfl

/-! laws.eqEntry -/
theorem laws_eqEntry_c {w : World} {p0 : TEntry} {p1 : TEntry}   {r : Bool} (H : laws_eqEntry p0 p1 = some r) :
    Calls Try.prog 103 #[.agg #[.int .i64 p0.N, .int .i64 p0.R.X0, .int .i64 p0.R.Y0, .int .i64 p0.R.X1, .int .i64 p0.R.Y1], .agg #[.int .i64 p1.N, .int .i64 p1.R.X0, .int .i64 p1.R.Y0, .int .i64 p1.R.X1, .int .i64 p1.R.Y1]] w (Rt w Nil (fun _ : Unit => .bool r) (fun _ => [])) := by
  rw [laws_eqEntry] at H
  refine Calls.enter0 (N := 16) (us := [_, _]) Try.func103 rfl rfl rfl ?_
  refine HQ.rseq ?_
  refine HQ.op [] [1] (OT.box (cs := [.int .i64 p0.N, .int .i64 p0.R.X0, .int .i64 p0.R.Y0, .int .i64 p0.R.X1, .int .i64 p0.R.Y1]) rfl) ⟨rfl, trivial⟩ trivial rfl rfl rfl rfl (fun _ => rfl) fun b1 => ?_
  refine HQ.op [] [2] (OT.box (cs := [.int .i64 p1.N, .int .i64 p1.R.X0, .int .i64 p1.R.Y0, .int .i64 p1.R.X1, .int .i64 p1.R.Y1]) rfl) ⟨rfl, trivial⟩ trivial rfl rfl rfl rfl (fun _ => rfl) fun b2 => ?_
  refine HQ.pu Pu.assign ⟨rfl, trivial⟩ rfl rfl rfl ?_
  refine HQ.done ?_
  refine HQ.keep [(2, _), (3, _), (4, _)] ⟨rfl, rfl, rfl, trivial⟩ ?_
  refine HQ.seq ?_
  refine HQ.rseq ?_
  refine HQ.pu (Pu.fieldB fo135_0 rfl) ⟨rfl, trivial⟩ rfl rfl rfl ?_
  refine HQ.op [1] [1] (OT.loadB sc3 rfl) ⟨rfl, trivial⟩ ⟨rfl, trivial⟩ rfl rfl rfl rfl (fun _ => rfl) fun _ => ?_
  refine HQ.pu (Pu.fieldB fo135_0 rfl) ⟨rfl, trivial⟩ rfl rfl rfl ?_
  refine HQ.op [2] [2] (OT.loadB sc3 rfl) ⟨rfl, trivial⟩ ⟨rfl, trivial⟩ rfl rfl rfl rfl (fun _ => rfl) fun _ => ?_
  refine HQ.pu Pu.neq ⟨rfl, rfl, trivial⟩ rfl rfl rfl ?_
  refine HQ.done ?_
  refine HQ.keep [(2, _), (3, _), (4, _), (9, _)] ⟨rfl, rfl, rfl, rfl, trivial⟩ ?_
  rcases brk H with ⟨hc, H⟩ | ⟨hc, H⟩
  · refine HQ.condT rfl hc ?_
    clear hc
    refine HQ.rseq ?_
    refine HQ.pu Pu.assign ⟨rfl, trivial⟩ rfl rfl rfl ?_
    refine HQ.done ?_
    refine HQ.keep [(2, _), (3, _), (4, _)] ⟨rfl, rfl, rfl, trivial⟩ ?_
    refine HQ.ret ?_
    refine HQ.thenR ?_
    obtain rfl := Option.some.inj H
    exact HQ.fin (vs := [_]) Try.results103 () ⟨rfl, trivial⟩ rfl [] trivial rfl
  · refine HQ.condF rfl hc ?_
    clear hc
    refine HQ.skipThen ?_
    refine HQ.seq ?_
    refine HQ.rseq ?_
    refine HQ.pu (Pu.fieldB fo135_1 rfl) ⟨rfl, trivial⟩ rfl rfl rfl ?_
    refine HQ.op [1] [1] (OT.loadBA (vs := [.int .i64 p0.R.X0, .int .i64 p0.R.Y0, .int .i64 p0.R.X1, .int .i64 p0.R.Y1]) ag133 sz133 rfl rfl) ⟨rfl, trivial⟩ ⟨rfl, trivial⟩ rfl rfl rfl rfl (fun _ => rfl) fun _ => ?_
    refine HQ.pu (Pu.fieldB fo135_1 rfl) ⟨rfl, trivial⟩ rfl rfl rfl ?_
    refine HQ.op [2] [2] (OT.loadBA (vs := [.int .i64 p1.R.X0, .int .i64 p1.R.Y0, .int .i64 p1.R.X1, .int .i64 p1.R.Y1]) ag133 sz133 rfl rfl) ⟨rfl, trivial⟩ ⟨rfl, trivial⟩ rfl rfl rfl rfl (fun _ => rfl) fun _ => ?_
    obtain ⟨t3, h4, H⟩ := bnd H
    refine HQ.op [] [] (OT.call (us := [_, _]) (Pre := []) [.tmp 11, .tmp 13] Try.call114 rfl rfl fun w F hs hF hp => laws_eqBox_c h4) ⟨rfl, rfl, rfl, trivial⟩ trivial rfl rfl rfl rfl (fun _ => rfl) fun _ => ?_
    refine HQ.pu Pu.not ⟨rfl, trivial⟩ rfl rfl rfl ?_
    refine HQ.done ?_
    refine HQ.keep [(4, _), (15, _)] ⟨rfl, rfl, trivial⟩ ?_
    rcases brk H with ⟨hc, H⟩ | ⟨hc, H⟩
    · refine HQ.condT rfl hc ?_
      clear hc
      refine HQ.rseq ?_
      refine HQ.pu Pu.assign ⟨rfl, trivial⟩ rfl rfl rfl ?_
      refine HQ.done ?_
      refine HQ.keep [(4, _)] ⟨rfl, trivial⟩ ?_
      refine HQ.ret ?_
      refine HQ.thenR ?_
      obtain rfl := Option.some.inj H
      exact HQ.fin (vs := [_]) Try.results103 () ⟨rfl, trivial⟩ rfl [] trivial rfl
    · refine HQ.condF rfl hc ?_
      clear hc
      refine HQ.skipThen ?_
      refine HQ.rseq ?_
      refine HQ.pu Pu.assign ⟨rfl, trivial⟩ rfl rfl rfl ?_
      refine HQ.done ?_
      refine HQ.keep [(4, _)] ⟨rfl, trivial⟩ ?_
      refine HQ.ret ?_
      obtain rfl := Option.some.inj H
      exact HQ.fin (vs := [_]) Try.results103 () ⟨rfl, trivial⟩ rfl [] trivial rfl

/-! laws.eqEntryS -/
theorem laws_eqEntryS_c {w : World} {k : Nat} {p0 : (List TEntry)} {p1 : (List TEntry)} {a_0 : Option Addr} {c_0 : Nat} {a_1 : Option Addr} {c_1 : Nat} (hb_0 : BorS kTEntry a_0 c_0 p0 w.heap (Lt w Nil)) (hb_1 : BorS kTEntry a_1 c_1 p1 w.heap (Lt w Nil)) {r : Bool} (H : laws_eqEntryS k p0 p1 = some r) :
    Calls Try.prog 68 #[.slice a_0 (List.length p0) c_0, .slice a_1 (List.length p1) c_1] w (Rt w Nil (fun _ : Unit => .bool r) (fun _ => [])) := by
  rw [laws_eqEntryS] at H
  refine Calls.enter0 (N := 27) (us := [_, _]) Try.func68 rfl rfl rfl ?_
  refine HQ.rseq ?_
  refine HQ.pu Pu.assign ⟨rfl, trivial⟩ rfl rfl rfl ?_
  refine HQ.done ?_
  refine HQ.keep [(0, _), (1, _), (4, _)] ⟨rfl, rfl, rfl, trivial⟩ ?_
  refine HQ.seq ?_
  refine HQ.rseq ?_
  refine HQ.pu Pu.move ⟨rfl, trivial⟩ rfl rfl rfl ?_
  refine HQ.pu (Pu.len ul56) ⟨rfl, trivial⟩ rfl rfl rfl ?_
  refine HQ.pu Pu.move ⟨rfl, trivial⟩ rfl rfl rfl ?_
  refine HQ.pu (Pu.len ul56) ⟨rfl, trivial⟩ rfl rfl rfl ?_
  refine HQ.pu Pu.neq ⟨rfl, rfl, trivial⟩ rfl rfl rfl ?_
  refine HQ.done ?_
  refine HQ.keep [(0, _), (1, _), (4, _), (10, _)] ⟨rfl, rfl, rfl, rfl, trivial⟩ ?_
  rcases brk H with ⟨hc, H⟩ | ⟨hc, H⟩
  · refine HQ.condT rfl hc ?_
    clear hc
    refine HQ.rseq ?_
    refine HQ.pu Pu.assign ⟨rfl, trivial⟩ rfl rfl rfl ?_
    refine HQ.done ?_
    refine HQ.keep [(0, _), (1, _), (4, _)] ⟨rfl, rfl, rfl, trivial⟩ ?_
    refine HQ.ret ?_
    refine HQ.thenR ?_
    obtain rfl := Option.some.inj H
    exact HQ.fin (vs := [_]) Try.results68 () ⟨rfl, trivial⟩ rfl [] trivial rfl
  · refine HQ.condF rfl hc ?_
    clear hc
    refine HQ.skipThen ?_
    refine HQ.seq ?_
    refine HQ.rseq ?_
    refine HQ.pu Pu.assign ⟨rfl, trivial⟩ rfl rfl rfl ?_
    refine HQ.done ?_
    refine HQ.keep [(0, _), (1, _), (4, _), (5, _)] ⟨rfl, rfl, rfl, rfl, trivial⟩ ?_
    refine HQ.block ?_
    obtain ⟨o17, h19, H⟩ := bnd H
    refine HQ.loop h19 0 (fun (s : Int) (g : Unit) => match s, g with | i6, () => [(0, .slice a_0 (List.length p0) c_0), (1, .slice a_1 (List.length p1) c_1), (4, .bool false), (5, .int .i64 i6)]) (fun (s : Int) (g : Unit) => match s, g with | i6, () => []) (fun r => bodyPost Try.prog Try.f68 (Rt w Nil (fun _ : Unit => .bool r) (fun _ => [])) .ret) () ⟨rfl, rfl, rfl, rfl, trivial⟩ trivial rfl ?_ ?_ ?_
    · clear H h19
      rintro i6 _ o H
      rw [laws_eqEntryS_b0] at H
      refine HQ.keep [(0, _), (1, _), (4, _), (5, _)] ⟨rfl, rfl, rfl, rfl, trivial⟩ ?_
      refine HQ.keepR [] trivial rfl ?_
      refine HQ.seq ?_
      refine HQ.rseq ?_
      refine HQ.pu Pu.move ⟨rfl, trivial⟩ rfl rfl rfl ?_
      refine HQ.pu Pu.move ⟨rfl, trivial⟩ rfl rfl rfl ?_
      refine HQ.pu (Pu.len ul56) ⟨rfl, trivial⟩ rfl rfl rfl ?_
      refine HQ.pu Pu.lss ⟨rfl, rfl, trivial⟩ rfl rfl rfl ?_
      refine HQ.done ?_
      refine HQ.keep [(0, _), (1, _), (4, _), (5, _), (11, _), (12, _), (13, _), (14, _)] ⟨rfl, rfl, rfl, rfl, rfl, rfl, rfl, rfl, trivial⟩ ?_
      rcases brk H with ⟨hc, H⟩ | ⟨hc, H⟩
      · refine HQ.condT rfl hc ?_
        clear hc
        refine HQ.skipThen ?_
        refine HQ.seq ?_
        refine HQ.block ?_
        obtain ⟨h13, H⟩ := asr H
        obtain ⟨h14, H⟩ := asr H
        refine HQ.drawS mixd [(0, .slice a_0 (List.length p0) c_0), (1, .slice a_1 (List.length p1) c_1), (4, .bool false), (5, .int .i64 i6), (11, .int .i64 i6), (12, .slice a_0 (List.length p0) c_0), (13, .int .i64 ((List.length p0 : Nat) : Int)), (14, .bool (decide (i6 < ((List.length p0 : Nat) : Int))))] 8 [⟨[], [], []⟩, ⟨[], [], []⟩, ⟨[], [], [0, 1]⟩, ⟨[], [], [2]⟩, ⟨[], [], []⟩, ⟨[], [], []⟩, ⟨[], [], [4, 5]⟩, ⟨[], [], [6]⟩] [] (fun (g12 : Unit) => [.slice a_0 (List.length p0) c_0, .int .i64 i6, EP a_0 i6 5 0, .agg #[.int .i64 ((gt p0 i6).N), .int .i64 ((gt p0 i6).R.X0), .int .i64 ((gt p0 i6).R.Y0), .int .i64 ((gt p0 i6).R.X1), .int .i64 ((gt p0 i6).R.Y1)], .slice a_1 (List.length p1) c_1, .int .i64 i6, EP a_1 i6 5 0, .agg #[.int .i64 ((gt p1 i6).N), .int .i64 ((gt p1 i6).R.X0), .int .i64 ((gt p1 i6).R.Y0), .int .i64 ((gt p1 i6).R.X1), .int .i64 ((gt p1 i6).R.Y1)]]) (fun (g12 : Unit) => []) () [] [] [] ⟨rfl, rfl, rfl, rfl, rfl, rfl, rfl, rfl, trivial⟩ trivial rfl (by kernel_rfl) (fun _ => rfl) (by kernel_rfl) (fun _ => rfl) ⟨?_, ?_, ?_, ?_, ?_, ?_, ?_, ?_, trivial⟩ fun g12 => ?_
        · exact OpOK.of (fun g12 => [(.tmp 0, .slice a_0 (List.length p0) c_0)]) _ _ (fun g12 _ => g12) rfl rfl (fun _ => ⟨rfl, trivial⟩) (fun g12 => Pu.toOT Pu.move) (fun _ _ => ⟨rfl, rfl, trivial⟩)
        · exact OpOK.of (fun g12 => [(.tmp 5, .int .i64 i6)]) _ _ (fun g12 _ => g12) rfl rfl (fun _ => ⟨rfl, trivial⟩) (fun g12 => Pu.toOT Pu.move) (fun _ _ => ⟨rfl, rfl, trivial⟩)
        · exact OpOK.of (fun g12 => [(.tmp 17, .slice a_0 (List.length p0) c_0), (.tmp 18, .int .i64 i6)]) _ _ (fun g12 _ => g12) rfl rfl (fun _ => ⟨rfl, rfl, trivial⟩) (fun g12 => OT.indexB ul56 sz135 hb_0 h13) (fun _ _ => ⟨rfl, rfl, trivial⟩)
        · exact OpOK.of (fun g12 => [(.tmp 19, EP a_0 i6 5 0)]) _ _ (fun g12 _ => g12) rfl rfl (fun _ => ⟨rfl, trivial⟩) (fun g12 => OT.loadFA (vs := [.int .i64 ((gt p0 i6).N), .int .i64 ((gt p0 i6).R.X0), .int .i64 ((gt p0 i6).R.Y0), .int .i64 ((gt p0 i6).R.X1), .int .i64 ((gt p0 i6).R.Y1)]) ag135 sz135 hb_0 h13 rfl rfl) (fun _ _ => ⟨rfl, rfl, trivial⟩)
        · exact OpOK.of (fun g12 => [(.tmp 1, .slice a_1 (List.length p1) c_1)]) _ _ (fun g12 _ => g12) rfl rfl (fun _ => ⟨rfl, trivial⟩) (fun g12 => Pu.toOT Pu.move) (fun _ _ => ⟨rfl, rfl, trivial⟩)
        · exact OpOK.of (fun g12 => [(.tmp 5, .int .i64 i6)]) _ _ (fun g12 _ => g12) rfl rfl (fun _ => ⟨rfl, trivial⟩) (fun g12 => Pu.toOT Pu.move) (fun _ _ => ⟨rfl, rfl, trivial⟩)
        · exact OpOK.of (fun g12 => [(.tmp 21, .slice a_1 (List.length p1) c_1), (.tmp 22, .int .i64 i6)]) _ _ (fun g12 _ => g12) rfl rfl (fun _ => ⟨rfl, rfl, trivial⟩) (fun g12 => OT.indexB ul56 sz135 hb_1 h14) (fun _ _ => ⟨rfl, rfl, trivial⟩)
        · exact OpOK.of (fun g12 => [(.tmp 23, EP a_1 i6 5 0)]) _ _ (fun g12 _ => g12) rfl rfl (fun _ => ⟨rfl, trivial⟩) (fun g12 => OT.loadFA (vs := [.int .i64 ((gt p1 i6).N), .int .i64 ((gt p1 i6).R.X0), .int .i64 ((gt p1 i6).R.Y0), .int .i64 ((gt p1 i6).R.X1), .int .i64 ((gt p1 i6).R.Y1)]) ag135 sz135 hb_1 h14 rfl rfl) (fun _ _ => ⟨rfl, rfl, trivial⟩)
        refine HQ.keep [(0, _), (1, _), (4, _), (5, _), (11, _), (12, _), (13, _), (14, _), (17, _), (18, _), (19, _), (20, _), (21, _), (22, _), (23, _), (24, _)] ⟨rfl, rfl, rfl, rfl, rfl, rfl, rfl, rfl, rfl, rfl, rfl, rfl, rfl, rfl, rfl, rfl, trivial⟩ ?_
        refine HQ.keepR [] trivial rfl ?_
        obtain ⟨t15, h16, H⟩ := bnd H
        refine HQ.op [] [] (OT.call (us := [_, _]) (Pre := []) [.tmp 20, .tmp 24] Try.call103 rfl rfl fun w F hs hF hp => laws_eqEntry_c h16) ⟨rfl, rfl, rfl, trivial⟩ trivial rfl rfl rfl rfl (fun _ => rfl) fun _ => ?_
        refine HQ.pu Pu.not ⟨rfl, trivial⟩ rfl rfl rfl ?_
        refine HQ.done ?_
        refine HQ.keep [(0, _), (1, _), (4, _), (5, _), (11, _), (12, _), (13, _), (14, _), (17, _), (18, _), (19, _), (20, _), (21, _), (22, _), (23, _), (24, _), (25, _), (26, _)] ⟨rfl, rfl, rfl, rfl, rfl, rfl, rfl, rfl, rfl, rfl, rfl, rfl, rfl, rfl, rfl, rfl, rfl, rfl, trivial⟩ ?_
        rcases brk H with ⟨hc, H⟩ | ⟨hc, H⟩
        · refine HQ.condT rfl hc ?_
          clear hc
          refine HQ.rseq ?_
          refine HQ.pu Pu.assign ⟨rfl, trivial⟩ rfl rfl rfl ?_
          refine HQ.done ?_
          refine HQ.keep [(0, _), (1, _), (4, _), (5, _), (11, _), (12, _), (13, _), (14, _), (17, _), (18, _), (19, _), (20, _), (21, _), (22, _), (23, _), (24, _), (25, _), (26, _)] ⟨rfl, rfl, rfl, rfl, rfl, rfl, rfl, rfl, rfl, rfl, rfl, rfl, rfl, rfl, rfl, rfl, rfl, rfl, trivial⟩ ?_
          refine HQ.ret ?_
          refine HQ.blkR ?_
          refine HQ.thenR ?_
          obtain rfl := Option.some.inj H
          refine HQ.retL ?_
          exact HQ.fin (vs := [_]) Try.results68 () ⟨rfl, trivial⟩ rfl [] trivial rfl
        · refine HQ.condF rfl hc ?_
          clear hc
          refine HQ.skip ?_
          refine HQ.blkN ?_
          refine HQ.thenN ?_
          refine HQ.regionQ ?_
          refine HQ.pu Pu.move ⟨rfl, trivial⟩ rfl rfl rfl ?_
          refine HQ.pu Pu.add ⟨rfl, rfl, trivial⟩ rfl rfl rfl ?_
          refine HQ.pu Pu.assign ⟨rfl, trivial⟩ rfl rfl rfl ?_
          refine HQ.done ?_
          refine HQ.keep [(0, _), (1, _), (4, _), (5, _), (11, _), (12, _), (13, _), (14, _), (17, _), (18, _), (19, _), (20, _), (21, _), (22, _), (23, _), (24, _), (25, _), (26, _), (15, _), (16, _)] ⟨rfl, rfl, rfl, rfl, rfl, rfl, rfl, rfl, rfl, rfl, rfl, rfl, rfl, rfl, rfl, rfl, rfl, rfl, rfl, rfl, trivial⟩ ?_
          obtain rfl := Option.some.inj H
          exact HQ.next () ⟨rfl, rfl, rfl, rfl, trivial⟩ trivial rfl
      · refine HQ.condF rfl hc ?_
        clear hc
        refine HQ.exit ?_
        refine HQ.thenE ?_
        obtain rfl := Option.some.inj H
        exact HQ.out () ⟨rfl, rfl, rfl, rfl, trivial⟩ trivial rfl
    · rintro i18 rfl _
      clear h19
      replace H := H
      refine HQ.keep [(0, _), (1, _), (4, _), (5, _)] ⟨rfl, rfl, rfl, rfl, trivial⟩ ?_
      refine HQ.keepR [] trivial rfl ?_
      refine HQ.blkE ?_
      refine HQ.thenN ?_
      refine HQ.rseq ?_
      refine HQ.pu Pu.assign ⟨rfl, trivial⟩ rfl rfl rfl ?_
      refine HQ.done ?_
      refine HQ.keep [(4, _)] ⟨rfl, trivial⟩ ?_
      refine HQ.ret ?_
      obtain rfl := Option.some.inj H
      exact HQ.fin (vs := [_]) Try.results68 () ⟨rfl, trivial⟩ rfl [] trivial rfl
    · rintro r rfl a w hr
      obtain rfl := Option.some.inj H
      exact hr

/-! laws.eqNode -/
theorem laws_eqNode_c {w : World} {k : Nat} {p0 : TNode} {p1 : TNode} {a_0 : Option Addr} {c_0 : Nat} {a_1 : Option Addr} {c_1 : Nat} (hb_0 : BorS kTEntry a_0 c_0 p0.L w.heap (Lt w Nil)) (hb_1 : BorS kTEntry a_1 c_1 p1.L w.heap (Lt w Nil)) {r : Bool} (H : laws_eqNode k p0 p1 = some r) :
    Calls Try.prog 27 #[.agg #[.bool p0.Leaf, .slice a_0 (List.length p0.L) c_0], .agg #[.bool p1.Leaf, .slice a_1 (List.length p1.L) c_1]] w (Rt w Nil (fun _ : Unit => .bool r) (fun _ => [])) := by
  rw [laws_eqNode] at H
  refine Calls.enter0 (N := 16) (us := [_, _]) Try.func27 rfl rfl rfl ?_
  refine HQ.rseq ?_
  refine HQ.op [] [1] (OT.box (cs := [.bool p0.Leaf, .slice a_0 (List.length p0.L) c_0]) rfl) ⟨rfl, trivial⟩ trivial rfl rfl rfl rfl (fun _ => rfl) fun b1 => ?_
  refine HQ.op [] [2] (OT.box (cs := [.bool p1.Leaf, .slice a_1 (List.length p1.L) c_1]) rfl) ⟨rfl, trivial⟩ trivial rfl rfl rfl rfl (fun _ => rfl) fun b2 => ?_
  refine HQ.pu Pu.assign ⟨rfl, trivial⟩ rfl rfl rfl ?_
  refine HQ.done ?_
  refine HQ.keep [(2, _), (3, _), (4, _)] ⟨rfl, rfl, rfl, trivial⟩ ?_
  refine HQ.seq ?_
  refine HQ.rseq ?_
  refine HQ.pu (Pu.fieldB fo58_0 rfl) ⟨rfl, trivial⟩ rfl rfl rfl ?_
  refine HQ.op [1] [1] (OT.loadB sc4 rfl) ⟨rfl, trivial⟩ ⟨rfl, trivial⟩ rfl rfl rfl rfl (fun _ => rfl) fun _ => ?_
  refine HQ.pu (Pu.fieldB fo58_0 rfl) ⟨rfl, trivial⟩ rfl rfl rfl ?_
  refine HQ.op [2] [2] (OT.loadB sc4 rfl) ⟨rfl, trivial⟩ ⟨rfl, trivial⟩ rfl rfl rfl rfl (fun _ => rfl) fun _ => ?_
  refine HQ.pu (Pu.neqB ul4) ⟨rfl, rfl, trivial⟩ rfl rfl rfl ?_
  refine HQ.done ?_
  refine HQ.keep [(2, _), (3, _), (4, _), (9, _)] ⟨rfl, rfl, rfl, rfl, trivial⟩ ?_
  rcases brk H with ⟨hc, H⟩ | ⟨hc, H⟩
  · refine HQ.condT rfl hc ?_
    clear hc
    refine HQ.rseq ?_
    refine HQ.pu Pu.assign ⟨rfl, trivial⟩ rfl rfl rfl ?_
    refine HQ.done ?_
    refine HQ.keep [(2, _), (3, _), (4, _)] ⟨rfl, rfl, rfl, trivial⟩ ?_
    refine HQ.ret ?_
    refine HQ.thenR ?_
    obtain rfl := Option.some.inj H
    exact HQ.fin (vs := [_]) Try.results27 () ⟨rfl, trivial⟩ rfl [] trivial rfl
  · refine HQ.condF rfl hc ?_
    clear hc
    refine HQ.skipThen ?_
    refine HQ.seq ?_
    refine HQ.rseq ?_
    refine HQ.pu (Pu.fieldB fo58_1 rfl) ⟨rfl, trivial⟩ rfl rfl rfl ?_
    refine HQ.op [1] [1] (OT.loadB sc56 rfl) ⟨rfl, trivial⟩ ⟨rfl, trivial⟩ rfl rfl rfl rfl (fun _ => rfl) fun _ => ?_
    refine HQ.pu (Pu.fieldB fo58_1 rfl) ⟨rfl, trivial⟩ rfl rfl rfl ?_
    refine HQ.op [2] [2] (OT.loadB sc56 rfl) ⟨rfl, trivial⟩ ⟨rfl, trivial⟩ rfl rfl rfl rfl (fun _ => rfl) fun _ => ?_
    obtain ⟨t3, h4, H⟩ := bnd H
    refine HQ.op [] [] (OT.call (us := [_, _]) (Pre := []) [.tmp 11, .tmp 13] Try.call68 rfl rfl fun w F hs hF hp => laws_eqEntryS_c (hb_0.pass hp) (hb_1.pass hp) h4) ⟨rfl, rfl, rfl, trivial⟩ trivial rfl rfl rfl rfl (fun _ => rfl) fun _ => ?_
    refine HQ.pu Pu.not ⟨rfl, trivial⟩ rfl rfl rfl ?_
    refine HQ.done ?_
    refine HQ.keep [(4, _), (15, _)] ⟨rfl, rfl, trivial⟩ ?_
    rcases brk H with ⟨hc, H⟩ | ⟨hc, H⟩
    · refine HQ.condT rfl hc ?_
      clear hc
      refine HQ.rseq ?_
      refine HQ.pu Pu.assign ⟨rfl, trivial⟩ rfl rfl rfl ?_
      refine HQ.done ?_
      refine HQ.keep [(4, _)] ⟨rfl, trivial⟩ ?_
      refine HQ.ret ?_
      refine HQ.thenR ?_
      obtain rfl := Option.some.inj H
      exact HQ.fin (vs := [_]) Try.results27 () ⟨rfl, trivial⟩ rfl [] trivial rfl
    · refine HQ.condF rfl hc ?_
      clear hc
      refine HQ.skipThen ?_
      refine HQ.rseq ?_
      refine HQ.pu Pu.assign ⟨rfl, trivial⟩ rfl rfl rfl ?_
      refine HQ.done ?_
      refine HQ.keep [(4, _)] ⟨rfl, trivial⟩ ?_
      refine HQ.ret ?_
      obtain rfl := Option.some.inj H
      exact HQ.fin (vs := [_]) Try.results27 () ⟨rfl, trivial⟩ rfl [] trivial rfl

end Go.Proofs.Sx
